/-
  What reading does, in plain Lean: numbers, the header, the runs, the whole text. No program in sight.
-/
import Derived.Test.YtekmldneinnmoaaDoorTxtP
import Derived.Lib.IndexLaws
import Derived.Lib.IndexMore
namespace Go.Proofs.YtekmldneinnmoaaDoor
open Go.RowKit
set_option maxRecDepth 100000
set_option linter.unusedVariables false
set_option linter.unusedSimpArgs false

/-- the digits ahead -/
def digRun : List UInt8 → List UInt8
  | [] => []
  | c :: l => if isDig c then c :: digRun l else []
def numL (l : List UInt8) : Int := l.foldl (fun n c => 10 * n + digOf c) 0
def okN (d : Nat) (l : List UInt8) : Bool := decide (l ≠ []) && decide (l.length ≤ d) && !(decide (1 < l.length) && (l.headD 0 == 48))
def numT (d : Nat) (l : List UInt8) : Int × Bool := if okN d l = true ∧ l.all isDig = true then (numL l, true) else (0, false)
def numQ (m : Nat) (l : List UInt8) (p : Nat) : Int × Int := if okN m (digRun (l.drop p)) = true then (numL (digRun (l.drop p)), (p : Int) + (digRun (l.drop p)).length) else (-1, p)
theorem digRun_yes {l : List UInt8} {j : Nat} (h : j < l.length) (hd : isDig l[j] = true) : digRun (l.drop j) = l[j] :: digRun (l.drop (j + 1)) := by
  rw [List.drop_eq_getElem_cons h]
  simp [digRun, hd]
theorem digRun_no {l : List UInt8} {j : Nat} (h : j < l.length) (hd : isDig l[j] = false) : digRun (l.drop j) = [] := by
  rw [List.drop_eq_getElem_cons h]
  simp [digRun, hd]
theorem digRun_le : ∀ l : List UInt8, (digRun l).length ≤ l.length
  | [] => Nat.le_refl _
  | c :: l => by
    unfold digRun
    split
    · have := digRun_le l
      simp; exact this
    · simp
theorem digRun_all : ∀ l : List UInt8, ∀ c ∈ digRun l, isDig c = true
  | [], c, h => by cases h
  | a :: l, c, h => by
    unfold digRun at h
    split at h
    · rcases List.mem_cons.1 h with rfl | h
      · assumption
      · exact digRun_all l c h
    · cases h
theorem digRun_split : ∀ l : List UInt8, l = digRun l ++ l.drop (digRun l).length
  | [] => rfl
  | a :: l => by
    unfold digRun
    split
    · have := digRun_split l
      simp only [List.length_cons, List.drop_succ_cons, List.cons_append]
      rw [← this]
    · rfl
theorem numL_snoc (l : List UInt8) (c : UInt8) : numL (l ++ [c]) = 10 * numL l + digOf c := by simp [numL]
theorem isDig_bd {c : UInt8} (h : isDig c = true) : 0 ≤ digOf c ∧ digOf c ≤ 9 := by
  unfold isDig at h
  simp only [Bool.and_eq_true, decide_eq_true_eq] at h
  unfold digOf
  omega
theorem numF_bd : ∀ (l : List UInt8) (n : Int), (∀ c ∈ l, isDig c = true) → 0 ≤ n → 0 ≤ l.foldl (fun n c => 10 * n + digOf c) n ∧ l.foldl (fun n c => 10 * n + digOf c) n < (n + 1) * ((10 ^ l.length : Nat) : Int)
  | [], n, _, h0 => by simp; omega
  | c :: l, n, h, h0 => by
    have hc := isDig_bd (h c List.mem_cons_self)
    have ih := numF_bd l (10 * n + digOf c) (fun x hx => h x (List.mem_cons_of_mem _ hx)) (by omega)
    rw [List.foldl_cons]
    refine ⟨ih.1, Int.lt_of_lt_of_le ih.2 ?_⟩
    rw [List.length_cons, Nat.pow_succ, Int.natCast_mul, show (((10 : Nat)) : Int) = 10 from rfl, ← Int.mul_assoc, Int.mul_right_comm]
    refine Int.mul_le_mul_of_nonneg_right ?_ (by first | exact Int.natCast_nonneg _ | exact Int.pow_nonneg (by decide))
    omega
theorem numL_bd {l : List UInt8} (h : ∀ c ∈ l, isDig c = true) (hl : l.length ≤ 10) : 0 ≤ numL l ∧ numL l < 10000000000 := by
  have h1 := numF_bd l 0 h (Int.le_refl _)
  have h2 : 10 ^ l.length ≤ 10 ^ 10 := Nat.pow_le_pow_right (by omega) hl
  rw [show (10 : Nat) ^ 10 = 10000000000 from rfl] at h2
  unfold numL
  omega
theorem numL_bd7 {l : List UInt8} (h : ∀ c ∈ l, isDig c = true) (hl : l.length ≤ 7) : 0 ≤ numL l ∧ numL l < 10000000 := by
  have h1 := numF_bd l 0 h (Int.le_refl _)
  have h2 : 10 ^ l.length ≤ 10 ^ 7 := Nat.pow_le_pow_right (by omega) hl
  rw [show (10 : Nat) ^ 7 = 10000000 from rfl] at h2
  unfold numL
  omega
theorem numL_bd9 {l : List UInt8} (h : ∀ c ∈ l, isDig c = true) (hl : l.length ≤ 9) : 0 ≤ numL l ∧ numL l < 1000000000 := by
  have h1 := numF_bd l 0 h (Int.le_refl _)
  have h2 : 10 ^ l.length ≤ 10 ^ 9 := Nat.pow_le_pow_right (by omega) hl
  rw [show (10 : Nat) ^ 9 = 1000000000 from rfl] at h2
  unfold numL
  omega
/-- lines -/
def lineOf (l : List UInt8) : List UInt8 := l.takeWhile (fun c => c != 10)
def afterLine (l : List UInt8) : List UInt8 := l.drop ((lineOf l).length + 1)
def skipN : Nat → List UInt8 → List UInt8
  | 0, l => l
  | f + 1, l => if l.head? = some 35 then skipN f (afterLine l) else l
theorem afterLine_len (l : List UInt8) : (afterLine l).length ≤ l.length - 1 := by
  unfold afterLine
  rw [List.length_drop]
  omega
theorem skipN_fuel : ∀ (f g : Nat) (l : List UInt8), l.length ≤ f → l.length ≤ g → skipN f l = skipN g l
  | 0, 0, l, _, _ => rfl
  | 0, g + 1, l, h, _ => by
    have h0 : l = [] := List.eq_nil_of_length_eq_zero (by omega)
    subst h0
    rfl
  | f + 1, 0, l, _, h => by
    have h0 : l = [] := List.eq_nil_of_length_eq_zero (by omega)
    subst h0
    rfl
  | f + 1, g + 1, l, h1, h2 => by
    have := afterLine_len l
    unfold skipN
    rw [skipN_fuel f g (afterLine l) (by omega) (by omega)]
def skipC (l : List UInt8) : List UInt8 := skipN l.length l
theorem skipC_yes {l : List UInt8} (h : l.head? = some 35) : skipC l = skipC (afterLine l) := by
  cases l with
  | nil => cases h
  | cons a l =>
    unfold skipC
    rw [List.length_cons, skipN, if_pos h]
    have := afterLine_len (a :: l)
    exact skipN_fuel _ _ _ (by simpa using this) (Nat.le_refl _)
theorem skipC_no {l : List UInt8} (h : ¬ l.head? = some 35) : skipC l = l := by
  cases l with
  | nil => rfl
  | cons a l =>
    unfold skipC
    rw [List.length_cons, skipN, if_neg h]
/-- the header -/
def stripL (t l : List UInt8) : Option (List UInt8) := if t.isPrefixOf l then some (l.drop t.length) else none
def hdrL (l : List UInt8) : Option (Int × Int × List UInt8) :=
  match stripL [120, 32, 61, 32] l with
  | none => none
  | some a =>
    if okN 9 (digRun a) = false then none else
    match stripL [44, 32, 121, 32, 61, 32] (a.drop (digRun a).length) with
    | none => none
    | some b =>
      if okN 9 (digRun b) = false then none else
      match stripL [44, 32, 114, 117, 108, 101, 32, 61, 32] (b.drop (digRun b).length) with
      | none => none
      | some r => some (numL (digRun a), numL (digRun b), r)
/-- reading the runs -/
structure PS where
  out : List Cel
  x : Int
  y : Int
def cellsP (x y : Int) (n : Nat) (k : Int) : List Cel := (List.range n).map fun (i : Nat) => (⟨x + (i : Int), y, k⟩ : Cel)
def stepP (w h : Int) (s : PS) (k n : Int) : PS × Int :=
  if k < 0 then (⟨s.out, 0, s.y + n⟩, 0)
  else if 0 < k ∧ (w < s.x + n ∨ h ≤ s.y) then (s, 5)
  else if 0 < k ∧ 5000 < (s.out.length : Int) + n then (s, 6)
  else if 0 < k then (⟨s.out ++ cellsP s.x s.y n.toNat k, s.x + n, s.y⟩, 0)
  else (⟨s.out, s.x + n, s.y⟩, 0)
def runN (ds : List UInt8) : Int := if ds = [] then 1 else numL ds
def readM (w h : Int) : List UInt8 → List UInt8 → PS → List Cel × Int
  | [], _, _ => ([], 4)
  | c :: r, ds, s =>
    if isDig c = true then
      if (ds ++ [c]).headD 0 = 48 ∨ 7 ≤ ds.length then ([], 15) else readM w h r (ds ++ [c]) s
    else if ds = [] ∧ (c = 32 ∨ c = 10) then readM w h r [] s
    else if ds = [] ∧ c = 33 then (s.out, 0)
    else if stateC c.toNat = -2 then ([], 15)
    else if (stepP w h s (stateC c.toNat) (runN ds)).2 ≠ 0 then ([], (stepP w h s (stateC c.toNat) (runN ds)).2)
    else readM w h r [] (stepP w h s (stateC c.toNat) (runN ds)).1
def ps0 : PS := ⟨[], 0, 0⟩
def parseL (l : List UInt8) : List Cel × List UInt8 × Int :=
  if 65536 < l.length then ([], [], 6)
  else match hdrL (lineOf (skipC l)) with
    | none => ([], [], 15)
    | some (w, h, rule) =>
      if nameB rule = false then ([], [], 7)
      else if 1048577 < w ∨ 1048577 < h then ([], [], 5)
      else if (readM w h (afterLine (skipC l)) [] ps0).2 ≠ 0 then ([], [], (readM w h (afterLine (skipC l)) [] ps0).2)
      else ((readM w h (afterLine (skipC l)) [] ps0).1, rule, 0)
section
variable {w h : Int} {c : UInt8} {r ds : List UInt8} {s : PS}
theorem rd_end : readM w h [] ds s = ([], 4) := rfl
theorem rd_dig_bad (h1 : isDig c = true) (h2 : (ds ++ [c]).headD 0 = 48 ∨ 7 ≤ ds.length) : readM w h (c :: r) ds s = ([], 15) := by
  unfold readM; rw [if_pos h1, if_pos h2]
theorem rd_dig (h1 : isDig c = true) (h2 : ¬ ((ds ++ [c]).headD 0 = 48 ∨ 7 ≤ ds.length)) : readM w h (c :: r) ds s = readM w h r (ds ++ [c]) s := by
  rw [readM, if_pos h1, if_neg h2]
theorem rd_blank (h1 : c = 32 ∨ c = 10) : readM w h (c :: r) [] s = readM w h r [] s := by
  rw [readM, if_neg (by rcases h1 with rfl | rfl <;> decide), if_pos ⟨rfl, h1⟩]
theorem rd_stop : readM w h (33 :: r) [] s = (s.out, 0) := by
  rw [readM, if_neg (by decide), if_neg (by decide), if_pos ⟨rfl, rfl⟩]
theorem rd_bad (h1 : isDig c = false) (h2 : ds = [] → ¬ (c = 32 ∨ c = 10) ∧ ¬ c = 33) (h3 : stateC c.toNat = -2) : readM w h (c :: r) ds s = ([], 15) := by
  rw [readM, if_neg (by rw [h1]; simp), if_neg (fun hh => (h2 hh.1).1 hh.2), if_neg (fun hh => (h2 hh.1).2 hh.2), if_pos h3]
theorem rd_err (h1 : isDig c = false) (h2 : ds = [] → ¬ (c = 32 ∨ c = 10) ∧ ¬ c = 33) (h3 : ¬ stateC c.toNat = -2) (h4 : (stepP w h s (stateC c.toNat) (runN ds)).2 ≠ 0) : readM w h (c :: r) ds s = ([], (stepP w h s (stateC c.toNat) (runN ds)).2) := by
  rw [readM, if_neg (by rw [h1]; simp), if_neg (fun hh => (h2 hh.1).1 hh.2), if_neg (fun hh => (h2 hh.1).2 hh.2), if_neg h3, if_pos h4]
theorem rd_step (h1 : isDig c = false) (h2 : ds = [] → ¬ (c = 32 ∨ c = 10) ∧ ¬ c = 33) (h3 : ¬ stateC c.toNat = -2) (h4 : (stepP w h s (stateC c.toNat) (runN ds)).2 = 0) : readM w h (c :: r) ds s = readM w h r [] (stepP w h s (stateC c.toNat) (runN ds)).1 := by
  rw [readM, if_neg (by rw [h1]; simp), if_neg (fun hh => (h2 hh.1).1 hh.2), if_neg (fun hh => (h2 hh.1).2 hh.2), if_neg h3, if_neg (by rw [h4]; simp)]
end
section
variable {w h : Int} {s : PS} {k n : Int}
theorem st_line (h0 : k < 0) : stepP w h s k n = (⟨s.out, 0, s.y + n⟩, 0) := by unfold stepP; rw [if_pos h0]
theorem st_far (h0 : 0 < k) (h1 : w < s.x + n ∨ h ≤ s.y) : stepP w h s k n = (s, 5) := by unfold stepP; rw [if_neg (by omega), if_pos ⟨h0, h1⟩]
theorem st_many (h0 : 0 < k) (h1 : ¬ (w < s.x + n ∨ h ≤ s.y)) (h2 : 5000 < (s.out.length : Int) + n) : stepP w h s k n = (s, 6) := by unfold stepP; rw [if_neg (by omega), if_neg (fun hh => h1 hh.2), if_pos ⟨h0, h2⟩]
theorem st_push (h0 : 0 < k) (h1 : ¬ (w < s.x + n ∨ h ≤ s.y)) (h2 : ¬ 5000 < (s.out.length : Int) + n) : stepP w h s k n = (⟨s.out ++ cellsP s.x s.y n.toNat k, s.x + n, s.y⟩, 0) := by unfold stepP; rw [if_neg (by omega), if_neg (fun hh => h1 hh.2), if_neg (fun hh => h2 hh.2), if_pos h0]
theorem st_gap (h0 : k = 0) : stepP w h s k n = (⟨s.out, s.x + n, s.y⟩, 0) := by unfold stepP; rw [if_neg (by omega), if_neg (fun hh => by omega), if_neg (fun hh => by omega), if_neg (by omega)]
end
theorem cellsP_zero (x y k : Int) : cellsP x y 0 k = [] := rfl
theorem cellsP_snoc (x y k : Int) (n : Nat) : cellsP x y (n + 1) k = cellsP x y n k ++ [⟨x + n, y, k⟩] := by
  unfold cellsP
  rw [List.range_succ, List.map_append]
  rfl
theorem cellsP_len (x y k : Int) (n : Nat) : (cellsP x y n k).length = n := by unfold cellsP; simp
theorem stateC_big {c : Int} (h : 128 ≤ c) : stateC c = -2 := stateC_n (by omega) (by omega) (by omega) (by omega)
theorem stateC_bd (c : Int) : -2 ≤ stateC c ∧ stateC c ≤ 7 := by
  unfold stateC
  split
  · omega
  · split
    · omega
    · split
      · omega
      · split <;> omega
/-- a digit run in the machine -/
theorem rd_run (w h : Int) (s : PS) : ∀ (ds r : List UInt8) (p : List UInt8), (∀ c ∈ ds, isDig c = true) → p ++ ds ≠ [] → (p ++ ds).headD 0 ≠ 48 → (p ++ ds).length ≤ 7 → readM w h (ds ++ r) p s = readM w h r (p ++ ds) s
  | [], r, p, _, _, _, _ => by simp
  | c :: ds, r, p, hd, h0, h1, h2 => by
    rw [List.cons_append, rd_dig (hd c List.mem_cons_self), rd_run w h s ds r (p ++ [c]) (fun x hx => hd x (List.mem_cons_of_mem _ hx)) (by simp) (by simpa using h1) (by simpa using h2)]
    · simp
    · rintro (hh | hh)
      · apply h1
        cases p with
        | nil => simpa using hh
        | cons a p => simpa using hh
      · simp at h2
        omega
/-- a digit run that is no number -/
theorem rd_run_bad (w h : Int) (s : PS) : ∀ (ds r : List UInt8) (p : List UInt8), (∀ c ∈ ds, isDig c = true) → ds ≠ [] → ((p ++ ds).headD 0 = 48 ∧ p = [] ∨ p.length ≤ 7 ∧ 7 < (p ++ ds).length) → readM w h (ds ++ r) p s = ([], 15)
  | [], r, p, _, h0, _ => absurd rfl h0
  | c :: ds, r, p, hd, _, h1 => by
    rw [List.cons_append]
    by_cases h2 : (p ++ [c]).headD 0 = 48 ∨ 7 ≤ p.length
    · exact rd_dig_bad (hd c List.mem_cons_self) h2
    · rw [rd_dig (hd c List.mem_cons_self) h2]
      rcases h1 with ⟨h1, rfl⟩ | ⟨h1, h3⟩
      · exact absurd (.inl (by simpa using h1)) h2
      · refine rd_run_bad w h s ds r (p ++ [c]) (fun x hx => hd x (List.mem_cons_of_mem _ hx)) ?_ (.inr ⟨by simp; omega, by simpa using h3⟩)
        rintro rfl
        simp at h3
        omega
theorem okN_bad7 {ds : List UInt8} (h0 : ds ≠ []) (h : okN 7 ds = false ∨ numL ds < 1) (hd : ∀ c ∈ ds, isDig c = true) : ds.headD 0 = 48 ∨ 7 < ds.length := by
  by_cases h7 : 7 < ds.length
  · exact .inr h7
  · left
    rcases h with h | h
    · unfold okN at h
      simp only [h0, ne_eq, not_false_eq_true, decide_true, show ds.length ≤ 7 by omega, Bool.true_and, Bool.and_self, Bool.not_eq_false'] at h
      simp only [Bool.and_eq_true, beq_iff_eq] at h
      exact h.2
    · cases ds with
      | nil => exact absurd rfl h0
      | cons c l =>
        have h2 := numF_bd l (10 * 0 + digOf c) (fun x hx => hd x (List.mem_cons_of_mem _ hx)) (by have := isDig_bd (hd c List.mem_cons_self); omega)
        have h3 : 0 ≤ digOf c := (isDig_bd (hd c List.mem_cons_self)).1
        by_cases h4 : digOf c = 0
        · unfold digOf at h4
          exact UInt8.toNat_inj.1 (by have : (48 : UInt8).toNat = 48 := rfl; simp only [List.headD_cons]; omega)
        · exfalso
          have key : ∀ (l : List UInt8) (n : Int), (∀ c ∈ l, isDig c = true) → 1 ≤ n → 1 ≤ l.foldl (fun n c => 10 * n + digOf c) n := by
            intro l
            induction l with
            | nil => intro n _ h; exact h
            | cons a l ih =>
              intro n hl hn
              rw [List.foldl_cons]
              have := isDig_bd (hl a List.mem_cons_self)
              exact ih _ (fun x hx => hl x (List.mem_cons_of_mem _ hx)) (by omega)
          have := key l (10 * 0 + digOf c) (fun x hx => hd x (List.mem_cons_of_mem _ hx)) (by omega)
          unfold numL at h
          rw [List.foldl_cons] at h
          omega
theorem okN_good7 {ds : List UInt8} (h : okN 7 ds = true) (h1 : 1 ≤ numL ds) : ds ≠ [] ∧ ds.length ≤ 7 ∧ ds.headD 0 ≠ 48 := by
  unfold okN at h
  simp only [Bool.and_eq_true, decide_eq_true_eq, Bool.not_eq_true'] at h
  refine ⟨h.1.1, h.1.2, fun h2 => ?_⟩
  have h3 := h.2
  rw [h2] at h3
  simp only [beq_self_eq_true, Bool.and_true, decide_eq_false_iff_not] at h3
  cases ds with
  | nil => exact h.1.1 rfl
  | cons c l =>
    have : l = [] := List.eq_nil_of_length_eq_zero (by rw [List.length_cons] at h3; omega)
    subst this
    simp only [List.headD_cons] at h2
    subst h2
    revert h1
    decide
end Go.Proofs.YtekmldneinnmoaaDoor
