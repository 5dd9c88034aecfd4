/-
  What reading a drawing does, line by line and byte by byte. Plain.
-/
import Derived.Test.YtblfeaapjloppaaDoorCls
namespace Go.Proofs.YtblfeaapjloppaaDoor
open Go.RowKit
set_option linter.unusedVariables false
set_option linter.unusedSimpArgs false

def st31 (c : UInt8) : Int := if c = 46 then 0 else if c = 79 then 1 else if 49 ≤ c.toNat ∧ c.toNat ≤ 55 then (c.toNat : Int) - 48 else -1
/-- the reference's bytes -/
structure RM where
  out : List Cel
  x : Int
  y : Int
  com : Bool
  beg : Bool
def rm : List UInt8 → RM → List Cel × Int
  | [], s => if 5000 < s.out.length then ([], 6) else (s.out, 0)
  | c :: r, s =>
    if c = 10 then rm r ⟨s.out, 0, if s.com = true then s.y else s.y + 1, false, true⟩
    else if s.com = true ∨ (s.beg = true ∧ c = 33) then rm r ⟨s.out, s.x, s.y, true, false⟩
    else if st31 c < 0 then ([], 15)
    else rm r ⟨if 0 < st31 c then s.out ++ [⟨s.x, s.y, st31 c⟩] else s.out, s.x + 1, s.y, false, false⟩
/-- the code's lines -/
def lcs (y : Int) : Int → List UInt8 → List Cel → Option (List Cel)
  | _, [], out => some out
  | x, c :: r, out => if st31 c < 0 then none else lcs y (x + 1) r (if 0 < st31 c then out ++ [⟨x, y, st31 c⟩] else out)
def lm : Int → List (List UInt8) → List Cel → List Cel × Int
  | y, [], out => if 5000 < out.length then ([], 6) else (out, 0)
  | y, ln :: ls, out => if ln.head? = some 33 then lm y ls out else
    match lcs y 0 ln out with
    | none => ([], 15)
    | some o => lm (y + 1) ls o
/-- a line without its end, then the end, then the rest -/
theorem rm_com (r : List UInt8) (out : List Cel) (x y : Int) (b : Bool) : ∀ a : List UInt8, (∀ c ∈ a, c ≠ 10) → ∀ b, ∃ b', rm (a ++ r) ⟨out, x, y, true, b⟩ = rm r ⟨out, x, y, true, b'⟩
  | [], _, b => ⟨b, rfl⟩
  | c :: a, h, b => by
    obtain ⟨b', hb⟩ := rm_com r out x y false a (fun z hz => h z (List.mem_cons_of_mem _ hz)) false
    refine ⟨b', ?_⟩
    rw [List.cons_append, rm, if_neg (h c List.mem_cons_self), if_pos (.inl rfl)]
    exact hb
theorem rm_line (r : List UInt8) (y : Int) : ∀ (a : List UInt8) (out : List Cel) (x : Int) (b : Bool), (∀ c ∈ a, c ≠ 10) → (b = true → a.head? ≠ some 33) →
    match lcs y x a out with
    | none => rm (a ++ r) ⟨out, x, y, false, b⟩ = ([], 15)
    | some o => ∃ x' b', rm (a ++ r) ⟨out, x, y, false, b⟩ = rm r ⟨o, x', y, false, b'⟩ ∧ (a = [] → b' = b ∧ x' = x)
  | [], out, x, b, _, _ => ⟨x, b, rfl, fun _ => ⟨rfl, rfl⟩⟩
  | c :: a, out, x, b, h, hb => by
    have hc := h c List.mem_cons_self
    have hn : ¬ (false = true ∨ (b = true ∧ c = 33)) := by
      rintro (h1 | ⟨h1, h2⟩)
      · cases h1
      · exact hb h1 (by rw [h2]; rfl)
    rw [lcs]
    by_cases hs : st31 c < 0
    · rw [if_pos hs]
      show rm (c :: (a ++ r)) _ = _
      rw [rm, if_neg hc, if_neg hn, if_pos hs]
    · rw [if_neg hs]
      have ih := rm_line r y a (if 0 < st31 c then out ++ [⟨x, y, st31 c⟩] else out) (x + 1) false (fun z hz => h z (List.mem_cons_of_mem _ hz)) (fun h => by cases h)
      have he : rm (c :: a ++ r) ⟨out, x, y, false, b⟩ = rm (a ++ r) ⟨if 0 < st31 c then out ++ [⟨x, y, st31 c⟩] else out, x + 1, y, false, false⟩ := by
        rw [List.cons_append, rm, if_neg hc, if_neg hn, if_neg hs]
      cases hl : lcs y (x + 1) a (if 0 < st31 c then out ++ [⟨x, y, st31 c⟩] else out) with
      | none =>
        rw [hl] at ih
        dsimp only at ih ⊢
        rw [he]
        exact ih
      | some o =>
        rw [hl] at ih
        dsimp only at ih ⊢
        obtain ⟨x', b', h1, h2⟩ := ih
        exact ⟨x', b', by rw [he]; exact h1, fun h => by cases h⟩
/-- joined lines -/
def joinN : List (List UInt8) → List UInt8
  | [] => []
  | [l] => l
  | l :: ls => l ++ 10 :: joinN ls
theorem rm_start {l : List UInt8} (r : List UInt8) (out : List Cel) (x y : Int) (h : l.head? = some 33) (hn : ∀ c ∈ l, c ≠ 10) : ∃ b', rm (l ++ r) ⟨out, x, y, false, true⟩ = rm r ⟨out, x, y, true, b'⟩ := by
  cases l with
  | nil => cases h
  | cons c a =>
    have hc : c = 33 := Option.some.inj h
    obtain ⟨b', hb⟩ := rm_com r out x y false a (fun z hz => hn z (List.mem_cons_of_mem _ hz)) false
    refine ⟨b', ?_⟩
    rw [List.cons_append, rm, if_neg (hn c List.mem_cons_self), if_pos (.inr ⟨rfl, hc⟩)]
    exact hb
/-- the two readings agree; a line feed at the end changes nothing -/
theorem rm_lm : ∀ (ls : List (List UInt8)) (tail : Bool) (y : Int) (out : List Cel), ls ≠ [] → (∀ l ∈ ls, ∀ c ∈ l, c ≠ 10) → rm (joinN ls ++ (if tail then [10] else [])) ⟨out, 0, y, false, true⟩ = lm y ls out
  | [], _, _, _, h, _ => absurd rfl h
  | [l], tail, y, out, _, hn => by
    have hl := hn l List.mem_cons_self
    show rm (l ++ _) _ = lm y [l] out
    rw [lm]
    by_cases h33 : l.head? = some 33
    · rw [if_pos h33]
      obtain ⟨b', hb⟩ := rm_start (if tail then [10] else []) out 0 y h33 hl
      rw [hb]
      cases tail <;> rfl
    · rw [if_neg h33]
      have h := rm_line (if tail then [10] else []) y l out 0 true hl (fun _ => h33)
      cases hx : lcs y 0 l out with
      | none => rw [hx] at h; exact h
      | some o =>
        rw [hx] at h
        obtain ⟨x', b', h1, -⟩ := h
        rw [h1]
        cases tail <;> rfl
  | l :: l2 :: ls, tail, y, out, _, hn => by
    have hl := hn l List.mem_cons_self
    have ih := fun y out => rm_lm (l2 :: ls) tail y out (by simp) (fun z hz => hn z (List.mem_cons_of_mem _ hz))
    have hj : joinN (l :: l2 :: ls) ++ (if tail then [10] else []) = l ++ (10 :: (joinN (l2 :: ls) ++ (if tail then [10] else []))) := by
      show (l ++ 10 :: joinN (l2 :: ls)) ++ _ = _
      rw [List.append_assoc]
      rfl
    rw [hj, lm]
    by_cases h33 : l.head? = some 33
    · rw [if_pos h33]
      obtain ⟨b', hb⟩ := rm_start (10 :: (joinN (l2 :: ls) ++ (if tail then [10] else []))) out 0 y h33 hl
      rw [hb, rm, if_pos rfl]
      exact ih y out
    · rw [if_neg h33]
      have h := rm_line (10 :: (joinN (l2 :: ls) ++ (if tail then [10] else []))) y l out 0 true hl (fun _ => h33)
      cases hx : lcs y 0 l out with
      | none => rw [hx] at h; exact h
      | some o =>
        rw [hx] at h
        obtain ⟨x', b', h1, -⟩ := h
        rw [h1, rm, if_pos rfl]
        exact ih (y + 1) o
end Go.Proofs.YtblfeaapjloppaaDoor
