/-
  The two parsers of rules with states agree, and the text of a rule is read back (plain). No condition.
-/
import Derived.Test.YtaofninfjdepfaaDoorSplit
import Derived.Test.YtaofninfjdepfaaDoorTextG
namespace Go.Proofs.YtaofninfjdepfaaDoor
open Go.RowKit
set_option linter.unusedVariables false
set_option linter.unusedSimpArgs false

def strip (t r : List UInt8) : Option (List UInt8) := if r.take t.length = t then some (r.drop t.length) else none
theorem strip_app (t r : List UInt8) : strip t (t ++ r) = some r := by simp [strip]
theorem strip_a (r : List UInt8) : strip [47] (47 :: r) = some r := strip_app [47] r
theorem strip_b (r : List UInt8) : strip [66] (66 :: r) = some r := strip_app [66] r
theorem strip_c (r : List UInt8) : strip [47, 83] (47 :: 83 :: r) = some r := strip_app [47, 83] r
theorem strip_d (r : List UInt8) : strip [47, 67] (47 :: 67 :: r) = some r := strip_app [47, 67] r
theorem strip_some {t r q : List UInt8} (h : strip t r = some q) : r = t ++ q := by
  unfold strip at h
  split at h
  · rename_i hc
    have h2 := Option.some.inj h
    rw [← h2]
    conv => lhs; rw [← List.take_append_drop t.length r, hc]
  · cases h
def digs (r : List UInt8) : List Int := digAsc (-1) r
def numS (b s : List Int) (r : List UInt8) : TotL × Int :=
  if (digRun r).length = 0 ∨ 3 < (digRun r).length ∨ r.getD 0 0 = 48 then (zeroT, 15) else tail9 b s (numV (digRun r)) (r.drop (digRun r).length)
def parseS2 (l : List UInt8) : TotL × Int :=
  match strip [47] (l.drop (digs l).length) with
  | none => (zeroT, 15)
  | some r => match strip [47] (r.drop (digs r).length) with
    | none => (zeroT, 15)
    | some q => numS (digs r) (digs l) q
def parseS1 (b : List UInt8) : TotL × Int :=
  match strip [47, 83] (b.drop (digs b).length) with
  | none => (zeroT, 15)
  | some r => match strip [47, 67] (r.drop (digs r).length) with
    | none => (zeroT, 15)
    | some q => numS (digs b) (digs r) q
def parseS (l : List UInt8) : TotL × Int :=
  match strip [66] l with
  | none => parseS2 l
  | some b => parseS1 b
theorem after_strip (l t : List UInt8) (p : Nat) (hp : p ≤ l.length) :
    (strip t (l.drop p) = none ∧ afterL l p t = -1) ∨ (∃ r, strip t (l.drop p) = some r ∧ afterL l p t = ((p + t.length : Nat) : Int) ∧ l.drop (p + t.length) = r ∧ p + t.length ≤ l.length) := by
  by_cases h : (l.drop p).take t.length = t
  · right
    have hl : p + t.length ≤ l.length := by
      have h1 := congrArg List.length h
      rw [List.length_take, List.length_drop] at h1
      omega
    refine ⟨_, by unfold strip; rw [if_pos h], ?_, by rw [List.drop_drop], hl⟩
    unfold afterL
    rw [if_pos ⟨by omega, by omega, by rwa [Int.toNat_natCast]⟩]
    omega
  · left
    refine ⟨by unfold strip; rw [if_neg h], ?_⟩
    unfold afterL
    rw [if_neg (fun hh => h (by have := hh.2.2; rwa [Int.toNat_natCast] at this))]
theorem dig_at (l : List UInt8) (p : Nat) : digAt l p = digs (l.drop p) := by unfold digAt digs; rw [Int.toNat_natCast]
theorem end_at (l : List UInt8) (p : Nat) : endAt l p = ((p + (digs (l.drop p)).length : Nat) : Int) := by unfold endAt; rw [dig_at]; omega
theorem end_ok (l : List UInt8) {p : Nat} (h : p ≤ l.length) : p + (digs (l.drop p)).length ≤ l.length := by
  have := digAsc_le (l.drop p) (-1)
  rw [List.length_drop] at this
  unfold digs
  omega
theorem num_strip (l : List UInt8) (b s : List Int) (q : Nat) (h : q ≤ l.length) :
    (if ((q : Nat) : Int) < 0 then (zeroT, 15) else if (numR l ((q : Nat) : Int).toNat).2 < 0 then (zeroT, 15) else tail9 b s (numR l ((q : Nat) : Int).toNat).1 (l.drop (numR l ((q : Nat) : Int).toNat).2.toNat)) = numS b s (l.drop q) := by
  rw [if_neg (by omega), Int.toNat_natCast]
  have hg : (l.drop q).getD 0 0 = l.getD q 0 := by simp [List.getD]
  unfold numS numR
  rw [hg]
  by_cases h1 : (digRun (l.drop q)).length = 0 ∨ 3 < (digRun (l.drop q)).length ∨ l.getD q 0 = 48
  · rw [if_pos h1, if_pos h1, if_pos (by decide)]
  · rw [if_neg h1, if_neg h1, if_neg (by show ¬ ((q : Int) + (digRun (l.drop q)).length) < 0; omega)]
    show tail9 b s _ (l.drop ((q : Int) + (digRun (l.drop q)).length).toNat) = _
    rw [show ((q : Int) + (digRun (l.drop q)).length).toNat = q + (digRun (l.drop q)).length by omega, List.drop_drop]
theorem cnt_strip (l : List UInt8) : ((cntR l).2.2 = -1 ∧ parseS l = (zeroT, 15)) ∨ ∃ (b s : List Int) (q : Nat), cntR l = (b, s, (q : Int)) ∧ q ≤ l.length ∧ parseS l = numS b s (l.drop q) := by
  unfold cntR parseS
  rcases after_strip l [66] 0 (Nat.zero_le _) with ⟨h1, h2⟩ | ⟨r, h1, h2, h3, h4⟩
  · have h2' : afterL l 0 [66] = -1 := h2
    rw [List.drop_zero] at h1
    have c0 : afterL l 0 [66] < 0 := by rw [h2']; decide
    rw [h1, if_pos c0]
    have e0 : endAt l 0 = ((0 + (digs l).length : Nat) : Int) := by have := end_at l 0; rwa [List.drop_zero] at this
    have d0 : digAt l 0 = digs l := by have := dig_at l 0; rwa [List.drop_zero] at this
    have k0 : 0 + (digs l).length ≤ l.length := by have := end_ok l (Nat.zero_le _); rwa [List.drop_zero] at this
    rw [e0, d0]
    show _ ∨ ∃ b s q, _ ∧ _ ∧ parseS2 l = _
    show (_ ∧ parseS2 l = _) ∨ _
    unfold parseS2
    rcases after_strip l [47] (0 + (digs l).length) k0 with ⟨g1, g2⟩ | ⟨r, g1, g2, g3, g4⟩
    · left
      rw [Nat.zero_add] at g1
      rw [g1, g2]
      exact ⟨rfl, rfl⟩
    · have c1 : ¬ ((0 + (digs l).length + [(47 : UInt8)].length : Nat) : Int) < 0 := by omega
      rw [g2, if_neg c1, dig_at, end_at, g3]
      have k1 := end_ok l g4
      rw [g3] at k1
      rw [Nat.zero_add] at g1
      rw [g1]
      rcases after_strip l [47] (0 + (digs l).length + [(47 : UInt8)].length + (digs r).length) k1 with ⟨f1, f2⟩ | ⟨q, f1, f2, f3, f4⟩
      · left
        rw [← List.drop_drop, g3] at f1
        refine ⟨f2, ?_⟩
        show (match strip [47] (r.drop (digs r).length) with
          | none => (zeroT, 15)
          | some q => numS (digs r) (digs l) q) = _
        rw [f1]
      · right
        rw [← List.drop_drop, g3] at f1
        refine ⟨_, _, _, by rw [f2], f4, ?_⟩
        show (match strip [47] (r.drop (digs r).length) with
          | none => (zeroT, 15)
          | some q => numS (digs r) (digs l) q) = _
        rw [f1, f3]
  · have h2' : afterL l 0 [66] = ((0 + [(66 : UInt8)].length : Nat) : Int) := h2
    rw [List.drop_zero] at h1
    have c0 : ¬ afterL l 0 [66] < 0 := by rw [h2']; omega
    rw [h1, if_neg c0, h2', end_at, dig_at, h3]
    have k0 := end_ok l h4
    rw [h3] at k0
    show (_ ∧ parseS1 r = _) ∨ ∃ b s q, _ ∧ _ ∧ parseS1 r = _
    unfold parseS1
    rcases after_strip l [47, 83] (0 + [(66 : UInt8)].length + (digs r).length) k0 with ⟨g1, g2⟩ | ⟨r2, g1, g2, g3, g4⟩
    · left
      rw [← List.drop_drop, h3] at g1
      rw [g1, g2]
      exact ⟨rfl, rfl⟩
    · have c1 : ¬ ((0 + [(66 : UInt8)].length + (digs r).length + [(47 : UInt8), 83].length : Nat) : Int) < 0 := by omega
      rw [g2, if_neg c1, dig_at, end_at, g3]
      have k1 := end_ok l g4
      rw [g3] at k1
      rw [← List.drop_drop, h3] at g1
      rw [g1]
      rcases after_strip l [47, 67] (0 + [(66 : UInt8)].length + (digs r).length + [(47 : UInt8), 83].length + (digs r2).length) k1 with ⟨f1, f2⟩ | ⟨q, f1, f2, f3, f4⟩
      · left
        rw [← List.drop_drop, g3] at f1
        refine ⟨f2, ?_⟩
        show (match strip [47, 67] (r2.drop (digs r2).length) with
          | none => (zeroT, 15)
          | some q => numS (digs r) (digs r2) q) = _
        rw [f1]
      · right
        rw [← List.drop_drop, g3] at f1
        refine ⟨_, _, _, by rw [f2], f4, ?_⟩
        show (match strip [47, 67] (r2.drop (digs r2).length) with
          | none => (zeroT, 15)
          | some q => numS (digs r) (digs r2) q) = _
        rw [f1, f3]
theorem rparse_strip (l : List UInt8) : rparseL l = parseS l := by
  unfold rparseL
  rcases cnt_strip l with ⟨h1, h2⟩ | ⟨b, s, q, h1, h2, h3⟩
  · rw [h1, h2]
    rfl
  · rw [h1, h3]
    exact num_strip l b s q h2

/-- the notation: birth, survival, the number of states, the letter -/
structure Gram (l B S N y : List UInt8) : Prop where
  hb : (digs B).length = B.length
  hs : (digs S).length = S.length
  hn : numG N = true
  hy : y = [] ∨ y = [86] ∨ y = [72]
  form : l = S ++ 47 :: (B ++ 47 :: (N ++ y)) ∨ l = 66 :: (B ++ 47 :: 83 :: (S ++ 47 :: 67 :: (N ++ y)))
def hoodY (y : List UInt8) : List (Int × Int) := if y = [] then mooreL 1 else if y = [86] then neumL 1 else hexL
theorem digAsc_app : ∀ (B : List UInt8) (last : Int) (c : UInt8) (r : List UInt8), (digAsc last B).length = B.length → isDig c = false → digAsc last (B ++ c :: r) = digAsc last B
  | [], last, c, r, _, hc => by simp [digAsc, hc]
  | b :: B, last, c, r, h, hc => by
    rw [List.cons_append]
    unfold digAsc at h ⊢
    split
    · rename_i hd
      rw [if_pos hd] at h
      rw [digAsc_app B _ c r (by simpa using h) hc]
    · rfl
theorem digAsc_dig : ∀ (B : List UInt8) (last : Int), (digAsc last B).length = B.length → ∀ c ∈ B, isDig c = true
  | [], last, _, c, hc => by cases hc
  | b :: B, last, h, c, hc => by
    unfold digAsc at h
    split at h
    · rename_i hd
      simp only [Bool.and_eq_true] at hd
      rcases List.mem_cons.1 hc with rfl | hc
      · exact hd.1
      · exact digAsc_dig B _ (by simpa using h) c hc
    · simp at h
theorem digAsc_take : ∀ (B : List UInt8) (last : Int), digAsc last (B.take (digAsc last B).length) = digAsc last B
  | [], last => by simp [digAsc]
  | b :: B, last => by
    by_cases hd : (isDig b && decide (last < digOf b)) = true
    · have e : digAsc last (b :: B) = digOf b :: digAsc (digOf b) B := by rw [digAsc, if_pos hd]
      rw [e, List.length_cons, List.take_succ_cons, digAsc, if_pos hd, digAsc_take B]
    · have e : digAsc last (b :: B) = [] := by rw [digAsc, if_neg hd]
      rw [e]
      rfl
theorem digs_split (r : List UInt8) : ∃ B, r = B ++ r.drop (digs r).length ∧ digs B = digs r ∧ (digs B).length = B.length := by
  refine ⟨r.take (digs r).length, (List.take_append_drop _ _).symm, digAsc_take r (-1), ?_⟩
  have h1 : digs (r.take (digs r).length) = digs r := digAsc_take r (-1)
  rw [h1, List.length_take]
  have := digAsc_le r (-1)
  unfold digs at *
  omega
theorem dig47 : isDig 47 = false := by decide
theorem digs_app {B : List UInt8} (h : (digs B).length = B.length) (r : List UInt8) : digs (B ++ 47 :: r) = digs B := digAsc_app B (-1) 47 r h dig47
theorem digRun_app : ∀ (N y : List UInt8), N.all isDig = true → (y = [] ∨ ∃ c r, y = c :: r ∧ isDig c = false) → digRun (N ++ y) = N
  | [], y, _, hy => by
    rcases hy with rfl | ⟨c, r, rfl, hc⟩
    · rfl
    · simp [digRun, hc]
  | b :: N, y, h, hy => by
    simp only [List.all_cons, Bool.and_eq_true] at h
    rw [List.cons_append, digRun, if_pos h.1, digRun_app N y h.2 hy]
theorem digRun_split : ∀ (r : List UInt8), r = digRun r ++ r.drop (digRun r).length ∧ (digRun r).all isDig = true
  | [] => ⟨rfl, rfl⟩
  | c :: r => by
    by_cases hc : isDig c = true
    · have e : digRun (c :: r) = c :: digRun r := by rw [digRun, if_pos hc]
      have ih := digRun_split r
      rw [e]
      refine ⟨?_, by simp [hc, ih.2]⟩
      rw [List.length_cons, List.drop_succ_cons, List.cons_append, ← ih.1]
    · have e : digRun (c :: r) = [] := by rw [digRun, if_neg hc]
      rw [e]
      exact ⟨rfl, rfl⟩
theorem yhead {y : List UInt8} (h : y = [] ∨ y = [86] ∨ y = [72]) : y = [] ∨ ∃ c r, y = c :: r ∧ isDig c = false := by
  rcases h with h | h | h
  · exact .inl h
  · exact .inr ⟨86, [], h, by decide⟩
  · exact .inr ⟨72, [], h, by decide⟩
theorem tail_hood {b s : List Int} {n : Int} {y : List UInt8} (h : y = [] ∨ y = [86] ∨ y = [72]) : tail9 b s n y = fin9 b s n (hoodY y) := by
  rcases h with rfl | rfl | rfl <;> rfl
theorem numS_gram {N y : List UInt8} (b s : List Int) (hn : numG N = true) (hy : y = [] ∨ y = [86] ∨ y = [72]) : numS b s (N ++ y) = fin9 b s (numV N) (hoodY y) := by
  have hn' := hn
  unfold numG at hn'
  simp only [Bool.and_eq_true, decide_eq_true_eq] at hn'
  obtain ⟨⟨⟨h1, h2⟩, h3⟩, h4⟩ := hn'
  have e := digRun_app N y h1 (yhead hy)
  unfold numS
  rw [e]
  have hg : (N ++ y).getD 0 0 = N.getD 0 0 := by
    cases N with
    | nil => simp at h2
    | cons a t => rfl
  rw [hg, if_neg (by rintro (h | h | h) <;> first | omega | exact h4 h), List.drop_left, tail_hood hy]
theorem strip66 {S : List UInt8} (h : (digs S).length = S.length) (r : List UInt8) : strip [66] (S ++ 47 :: r) = none := by
  unfold strip
  rw [if_neg]
  cases S with
  | nil => simp
  | cons c t =>
    have := digAsc_dig (c :: t) (-1) h c (by simp)
    intro hc
    simp at hc
    subst hc
    exact absurd this (by decide)
theorem gram_ref {l B S N y : List UInt8} (g : Gram l B S N y) : parseS l = fin9 (digs B) (digs S) (numV N) (hoodY y) := by
  rcases g.form with h | h
  · subst h
    unfold parseS
    rw [strip66 g.hs]
    unfold parseS2
    rw [digs_app g.hs, g.hs, List.drop_left, strip_a]
    show (match strip [47] ((B ++ 47 :: (N ++ y)).drop (digs (B ++ 47 :: (N ++ y))).length) with
      | none => (zeroT, 15)
      | some q => numS (digs (B ++ 47 :: (N ++ y))) (digs S) q) = _
    rw [digs_app g.hb, g.hb, List.drop_left, strip_a]
    exact numS_gram _ _ g.hn g.hy
  · subst h
    unfold parseS
    rw [strip_b]
    show parseS1 (B ++ 47 :: 83 :: (S ++ 47 :: 67 :: (N ++ y))) = _
    unfold parseS1
    rw [digs_app g.hb, g.hb, List.drop_left, strip_c]
    show (match strip [47, 67] ((S ++ 47 :: 67 :: (N ++ y)).drop (digs (S ++ 47 :: 67 :: (N ++ y))).length) with
      | none => (zeroT, 15)
      | some q => numS (digs B) (digs (S ++ 47 :: 67 :: (N ++ y))) q) = _
    rw [digs_app g.hs, g.hs, List.drop_left, strip_d]
    exact numS_gram _ _ g.hn g.hy
theorem numS_ex (b s : List Int) (r : List UInt8) : numS b s r = (zeroT, 15) ∨ ∃ N y, r = N ++ y ∧ numG N = true ∧ (y = [] ∨ y = [86] ∨ y = [72]) := by
  unfold numS
  by_cases h : (digRun r).length = 0 ∨ 3 < (digRun r).length ∨ r.getD 0 0 = 48
  · rw [if_pos h]; exact .inl rfl
  · rw [if_neg h]
    obtain ⟨e1, e2⟩ := digRun_split r
    have hn : numG (digRun r) = true := by
      unfold numG
      simp only [Bool.and_eq_true, decide_eq_true_eq]
      refine ⟨⟨⟨e2, by omega⟩, by omega⟩, ?_⟩
      have hg : (digRun r).getD 0 0 = r.getD 0 0 := by
        have e3 : r.getD 0 0 = (digRun r ++ r.drop (digRun r).length).getD 0 0 := congrArg (fun x => x.getD 0 0) e1
        rw [e3]
        have hl : 0 < (digRun r).length := by omega
        generalize r.drop (digRun r).length = q
        generalize digRun r = d at hl ⊢
        cases d with
        | nil => simp at hl
        | cons a t => simp [List.getD]
      intro hh
      exact h (.inr (.inr (by rw [← hg]; exact hh)))
    by_cases y1 : r.drop (digRun r).length = []
    · exact .inr ⟨_, _, e1, hn, .inl y1⟩
    by_cases y2 : r.drop (digRun r).length = [86]
    · exact .inr ⟨_, _, e1, hn, .inr (.inl y2)⟩
    by_cases y3 : r.drop (digRun r).length = [72]
    · exact .inr ⟨_, _, e1, hn, .inr (.inr y3)⟩
    left
    unfold tail9
    rw [if_neg y1, if_neg y2, if_neg y3]
theorem ref_gram (l : List UInt8) : parseS l = (zeroT, 15) ∨ ∃ B S N y, Gram l B S N y := by
  unfold parseS
  cases h1 : strip [66] l with
  | none =>
    show parseS2 l = _ ∨ _
    unfold parseS2
    cases h2 : strip [47] (l.drop (digs l).length) with
    | none => exact .inl rfl
    | some r =>
      show (match strip [47] (r.drop (digs r).length) with
        | none => (zeroT, 15)
        | some q => numS (digs r) (digs l) q) = _ ∨ _
      cases h3 : strip [47] (r.drop (digs r).length) with
      | none => exact .inl rfl
      | some q =>
        show numS (digs r) (digs l) q = _ ∨ _
        rcases numS_ex (digs r) (digs l) q with h | ⟨N, y, e, hn, hy⟩
        · exact .inl h
        · obtain ⟨S, s1, s2, s3⟩ := digs_split l
          obtain ⟨B, b1, b2, b3⟩ := digs_split r
          refine .inr ⟨B, S, N, y, b3, s3, hn, hy, .inl ?_⟩
          rw [strip_some h2] at s1
          rw [strip_some h3, e] at b1
          rw [s1, b1]
          rfl
  | some b =>
    show parseS1 b = _ ∨ _
    unfold parseS1
    cases h2 : strip [47, 83] (b.drop (digs b).length) with
    | none => exact .inl rfl
    | some r =>
      show (match strip [47, 67] (r.drop (digs r).length) with
        | none => (zeroT, 15)
        | some q => numS (digs b) (digs r) q) = _ ∨ _
      cases h3 : strip [47, 67] (r.drop (digs r).length) with
      | none => exact .inl rfl
      | some q =>
        show numS (digs b) (digs r) q = _ ∨ _
        rcases numS_ex (digs b) (digs r) q with h | ⟨N, y, e, hn, hy⟩
        · exact .inl h
        · obtain ⟨B, s1, s2, s3⟩ := digs_split b
          obtain ⟨S, b1, b2, b3⟩ := digs_split r
          refine .inr ⟨B, S, N, y, s3, b3, hn, hy, .inr ?_⟩
          have h1' := strip_some h1
          rw [strip_some h2] at s1
          rw [strip_some h3, e] at b1
          rw [h1', s1, b1]
          rfl

/-! the code's own parser -/
theorem no47 {B : List UInt8} (h : ∀ c ∈ B, isDig c = true) : (47 : UInt8) ∉ B := fun hm => absurd (h 47 hm) (by decide)
theorem num_all {N : List UInt8} (h : numG N = true) : N.all isDig = true ∧ 1 ≤ N.length := by
  unfold numG at h
  simp only [Bool.and_eq_true, decide_eq_true_eq] at h
  exact ⟨h.1.1.1, h.1.1.2⟩
theorem suffix_end (l : List UInt8) (c d : UInt8) : Lib.hasSuffix (l ++ [c]) [d] = decide (c = d) := by
  unfold Lib.hasSuffix
  rw [Bool.eq_iff_iff, List.isSuffixOf_iff_suffix, decide_eq_true_eq]
  constructor
  · rintro ⟨t, ht⟩
    have := List.append_inj_right' ht (by simp)
    simpa using this.symm
  · rintro rfl
    exact ⟨l, rfl⟩
theorem trim_end (l : List UInt8) (c : UInt8) : Lib.trimSuffix (l ++ [c]) [c] = l := by
  unfold Lib.trimSuffix
  rw [if_pos (by rw [suffix_end]; simp)]
  simp
/-- the letter is cut off -/
theorem hood_gram {m N y : List UInt8} (hn : numG N = true) (hy : y = [] ∨ y = [86] ∨ y = [72]) : hoodP (m ++ (N ++ y)) = (m ++ N, hoodY y) := by
  obtain ⟨h1, h2⟩ := num_all hn
  unfold hoodP tailV tailH cutV cutH
  rw [← List.append_assoc]
  rcases hy with rfl | rfl | rfl
  · rw [List.append_nil]
    rcases List.eq_nil_or_concat N with h0 | ⟨p, c, h0⟩
    · subst h0; simp at h2
    · rw [List.concat_eq_append] at h0
      have hc : isDig c = true := by
        rw [List.all_eq_true] at h1
        exact h1 c (by rw [h0]; simp)
      rw [h0, ← List.append_assoc, suffix_end, suffix_end]
      have c1 : c ≠ 86 := by intro h; subst h; exact absurd hc (by decide)
      have c2 : c ≠ 72 := by intro h; subst h; exact absurd hc (by decide)
      rw [decide_eq_false c1, decide_eq_false c2]
      rfl
  · rw [suffix_end, trim_end]
    rfl
  · rw [suffix_end, suffix_end, trim_end]
    rfl
theorem hood_ex (l : List UInt8) : ∃ y, (y = [] ∨ y = [86] ∨ y = [72]) ∧ l = (hoodP l).1 ++ y ∧ (hoodP l).2 = hoodY y := by
  unfold hoodP
  have key : ∀ d : UInt8, Lib.hasSuffix l [d] = true → l = Lib.trimSuffix l [d] ++ [d] := by
    intro d hd
    have hd' := hd
    unfold Lib.hasSuffix at hd
    rw [List.isSuffixOf_iff_suffix] at hd
    obtain ⟨t, ht⟩ := hd
    rw [← ht, trim_end]
  cases h1 : tailV l
  · cases h2 : tailH l
    · exact ⟨[], .inl rfl, by simp, rfl⟩
    · exact ⟨[72], .inr (.inr rfl), key 72 h2, rfl⟩
  · exact ⟨[86], .inr (.inl rfl), key 86 h1, rfl⟩
def finG (b s : List Int) (n : Int) (h : List (Int × Int)) : TotL × Int :=
  if 3 ≤ n ∧ n ≤ 8 ∧ rightT ⟨h, n, b, s⟩ = true then (⟨h, n, b, s⟩, 0) else (zeroT, 5)
theorem digG_yes {B : List UInt8} (h : (digs B).length = B.length) : digG B = (digs B, true) := by
  unfold digG
  rw [if_pos (show (digAsc (-1) B).length = B.length from h)]
  rfl
theorem digG_ok {B : List UInt8} (h : (digG B).2 = true) : (digs B).length = B.length := by
  unfold digG at h
  split at h
  · assumption
  · cases h
theorem endG_gram {B S N : List UInt8} (hb : (digs B).length = B.length) (hs : (digs S).length = S.length) (hn : numG N = true) (h : List (Int × Int)) : endG (digG B) (digG S) N h = finG (digs B) (digs S) (numV N) h := by
  rw [digG_yes hb, digG_yes hs]
  unfold endG
  rw [hn]
  rfl
theorem endG_ex (B S N : List UInt8) (h : List (Int × Int)) : endG (digG B) (digG S) N h = (zeroT, 15) ∨ ((digs B).length = B.length ∧ (digs S).length = S.length ∧ numG N = true) := by
  unfold endG
  cases h1 : (digG B).2
  · exact .inl rfl
  cases h2 : (digG S).2
  · exact .inl rfl
  cases h3 : numG N
  · exact .inl rfl
  exact .inr ⟨digG_ok h1, digG_ok h2, rfl⟩
theorem prefix_cons (c : UInt8) (l : List UInt8) : Lib.hasPrefix (c :: l) [c] = true ∧ Lib.trimPrefix (c :: l) [c] = l := by
  have h : Lib.hasPrefix (c :: l) [c] = true := by simp [Lib.hasPrefix]
  exact ⟨h, by unfold Lib.trimPrefix; rw [if_pos h]; rfl⟩
theorem prefix_ex {c : UInt8} {l : List UInt8} (h : Lib.hasPrefix l [c] = true) : l = c :: Lib.trimPrefix l [c] := by
  unfold Lib.trimPrefix
  rw [if_pos h]
  cases l with
  | nil => simp [Lib.hasPrefix] at h
  | cons x t =>
    simp [Lib.hasPrefix] at h
    subst h
    rfl
theorem gram_code {l B S N y : List UInt8} (g : Gram l B S N y) : parseG l = finG (digs B) (digs S) (numV N) (hoodY y) := by
  have nB := no47 (digAsc_dig B (-1) g.hb)
  have nS := no47 (digAsc_dig S (-1) g.hs)
  have nN : (47 : UInt8) ∉ N := no47 (by have := (num_all g.hn).1; rwa [List.all_eq_true] at this)
  rw [← endG_gram g.hb g.hs g.hn]
  rcases g.form with h | h
  · have e : hoodP l = (S ++ 47 :: (B ++ 47 :: N), hoodY y) := by
      have := hood_gram (m := S ++ 47 :: (B ++ [47])) g.hn g.hy
      rw [h]
      simpa using this
    unfold parseG
    rw [e, parts_three nS nB nN]
    have hp : startB (S ++ 47 :: (B ++ 47 :: N)) = false := by
      cases h9 : startB (S ++ 47 :: (B ++ 47 :: N))
      · rfl
      · obtain ⟨a', ha, _⟩ := startB_cons h9
        have := digAsc_dig S (-1) g.hs 66 (by rw [ha]; simp)
        exact absurd this (by decide)
    unfold form3
    rw [hp]
    rfl
  · have e : hoodP l = ((66 :: B) ++ 47 :: ((83 :: S) ++ 47 :: (67 :: N)), hoodY y) := by
      have := hood_gram (m := 66 :: (B ++ 47 :: 83 :: (S ++ [47, 67]))) g.hn g.hy
      rw [h]
      simpa using this
    unfold parseG
    rw [e, parts_three (by intro hm; rcases List.mem_cons.1 hm with hm | hm; · exact absurd hm (by decide)
                           exact nB hm) (by intro hm; rcases List.mem_cons.1 hm with hm | hm; · exact absurd hm (by decide)
                                            exact nS hm) (by intro hm; rcases List.mem_cons.1 hm with hm | hm; · exact absurd hm (by decide)
                                                             exact nN hm)]
    unfold form3
    rw [show startB ((66 :: B) ++ 47 :: ((83 :: S) ++ 47 :: (67 :: N))) = true from (prefix_cons 66 _).1, show startS (83 :: S) = true from (prefix_cons 83 S).1, show startC (67 :: N) = true from (prefix_cons 67 N).1, show restS (83 :: S) = S from (prefix_cons 83 S).2, show restC (67 :: N) = N from (prefix_cons 67 N).2]
    rfl
theorem code_gram (l : List UInt8) : parseG l = (zeroT, 15) ∨ ∃ B S N y, Gram l B S N y := by
  obtain ⟨y, hy, hl, hh⟩ := hood_ex l
  unfold parseG
  by_cases h : (hoodP l).1.count 47 = 2
  · obtain ⟨a, b, c, e, na, nb, nc⟩ := three_of h
    rw [e, parts_three na nb nc]
    unfold form3
    cases h1 : startB (a ++ 47 :: (b ++ 47 :: c))
    · show endG (digG b) (digG a) c _ = _ ∨ _
      rcases endG_ex b a c (hoodP l).2 with h2 | ⟨h2, h3, h4⟩
      · exact .inl h2
      · refine .inr ⟨b, a, c, y, h2, h3, h4, hy, .inl ?_⟩
        rw [e] at hl
        rw [hl]
        simp
    · obtain ⟨a', ha, _⟩ := startB_cons h1
      cases h5 : startS b
      · exact .inl rfl
      cases h6 : startC c
      · exact .inl rfl
      show endG (digG (a.drop 1)) (digG (restS b)) (restC c) _ = _ ∨ _
      rcases endG_ex (a.drop 1) (restS b) (restC c) (hoodP l).2 with h2 | ⟨h2, h3, h4⟩
      · exact .inl h2
      · refine .inr ⟨a.drop 1, restS b, restC c, y, h2, h3, h4, hy, .inr ?_⟩
        rw [e, ha, prefix_ex h5, prefix_ex h6] at hl
        rw [hl, ha]
        simp [restS, restC]
  · rw [parts_none h]
    exact .inl rfl
theorem asc_digs (n : Int) : ∀ (B : List UInt8) (last : Int), asc last n (digAsc last B) = (digAsc last B).all fun x => decide (x ≤ n)
  | [], last => rfl
  | c :: B, last => by
    by_cases hd : (isDig c && decide (last < digOf c)) = true
    · rw [digAsc, if_pos hd]
      simp only [Bool.and_eq_true] at hd
      rw [asc, asc_digs n B, hd.2]
      simp
    · rw [digAsc, if_neg hd]
      rfl
theorem fits_digs (B : List UInt8) (m : Nat) : asc (-1) ((m : Int) - 1) (digs B) = fitsL (digs B) m := by
  unfold digs fitsL
  rw [asc_digs]
  congr 1
  funext x
  rw [decide_eq_decide]
  omega
theorem fin_eq (B S : List UInt8) (n : Int) {y : List UInt8} (hy : y = [] ∨ y = [86] ∨ y = [72]) : finG (digs B) (digs S) n (hoodY y) = fin9 (digs B) (digs S) n (hoodY y) := by
  have hk : knownB (hoodY y) = true := by rcases hy with rfl | rfl | rfl <;> decide
  unfold finG fin9
  have e : rightT ⟨hoodY y, n, digs B, digs S⟩ = (decide (2 ≤ n) && decide (n ≤ 8) && fitsL (digs B) (hoodY y).length && fitsL (digs S) (hoodY y).length) := by
    unfold rightT
    dsimp only
    rw [hk, fits_digs, fits_digs]
    simp
  rw [e]
  by_cases h : 3 ≤ n ∧ n ≤ 8 ∧ fitsL (digs B) (hoodY y).length = true ∧ fitsL (digs S) (hoodY y).length = true
  · rw [if_pos h, if_pos]
    refine ⟨h.1, h.2.1, ?_⟩
    simp only [Bool.and_eq_true, decide_eq_true_eq]
    exact ⟨⟨⟨by omega, h.2.1⟩, h.2.2.1⟩, h.2.2.2⟩
  · rw [if_neg h, if_neg]
    rintro ⟨h1, h2, h3⟩
    simp only [Bool.and_eq_true, decide_eq_true_eq] at h3
    exact h ⟨h1, h2, h3.1.2, h3.2⟩
theorem parse_eq (l : List UInt8) : parseG l = rparseL l := by
  rw [rparse_strip]
  rcases code_gram l with h | ⟨B, S, N, y, g⟩
  · rcases ref_gram l with h2 | ⟨B, S, N, y, g⟩
    · rw [h, h2]
    · rw [gram_code g, gram_ref g, fin_eq B S (numV N) g.hy]
  · rw [gram_code g, gram_ref g, fin_eq B S (numV N) g.hy]

/-! the text of a rule is read back -/
theorem digC_dig {z : Int} (h0 : 0 ≤ z) (h1 : z ≤ 9) : isDig (digC z) = true ∧ digOf (digC z) = z := by
  have := digC_val h0 h1
  unfold isDig digOf
  simp only [Bool.and_eq_true, decide_eq_true_eq]
  omega
theorem digs_map {n : Int} (hn : n ≤ 9) : ∀ (zs : List Int) (last : Int), -1 ≤ last → asc last n zs = true → digAsc last (zs.map digC) = zs
  | [], last, _, _ => rfl
  | z :: zs, last, hl, h => by
    simp only [asc, Bool.and_eq_true, decide_eq_true_eq] at h
    obtain ⟨d1, d2⟩ := digC_dig (z := z) (by omega) (by omega)
    rw [List.map_cons, digAsc, d1, d2, decide_eq_true h.1.1, if_pos (show (true && true) = true from rfl), digs_map hn zs z (by omega) h.2]
theorem digit_num {n : Int} (h3 : 3 ≤ n) (h8 : n ≤ 8) : numG [digC n] = true ∧ numV [digC n] = n := by
  have : n = 3 ∨ n = 4 ∨ n = 5 ∨ n = 6 ∨ n = 7 ∨ n = 8 := by omega
  rcases this with rfl | rfl | rfl | rfl | rfl | rfl <;> decide
theorem letter_y (ps : List (Int × Int)) (h : knownB ps = true) : hoodY (letterS ps).data.toList = ps := by
  unfold knownB at h
  simp only [Bool.or_eq_true, decide_eq_true_eq] at h
  rcases h with (h | h) | h <;> subst h <;> decide
theorem text_back {t : TotL} (hr : rightT t = true) (h2 : t.states ≠ 2) : parseG (textG t) = (t, 0) := by
  obtain ⟨s1, s2⟩ := right_states hr
  obtain ⟨k1, k2, k3, _⟩ := right_spec hr
  have hr' := hr
  unfold rightT at hr'
  simp only [Bool.and_eq_true, decide_eq_true_eq] at hr'
  have eB : digs (t.birth.map digC) = t.birth := digs_map (n := (t.hood.length : Int) - 1) (by omega) _ _ (by omega) hr'.1.2
  have eS : digs (t.survive.map digC) = t.survive := digs_map (n := (t.hood.length : Int) - 1) (by omega) _ _ (by omega) hr'.2
  obtain ⟨n1, n2⟩ := digit_num (n := t.states) (by omega) s2
  have hy : (letterS t.hood).data.toList = [] ∨ (letterS t.hood).data.toList = [86] ∨ (letterS t.hood).data.toList = [72] := by
    rcases letter_cases t.hood with h | h | h <;> rw [h] <;> decide
  have g : Gram (textG t) (t.birth.map digC) (t.survive.map digC) [digC t.states] (letterS t.hood).data.toList := by
    refine ⟨by rw [eB]; simp, by rw [eS]; simp, n1, hy, .inr ?_⟩
    unfold textG bodyP
    rw [if_pos ⟨hr, h2⟩]
    simp
  rw [gram_code g, eB, eS, n2, letter_y _ k1]
  unfold finG
  rw [if_pos ⟨by omega, s2, hr⟩]
theorem text_short (t : TotL) : (textG t).length ≤ 2147483648 := by
  unfold textG
  split
  · rename_i h
    have h1 := bodyP_len h.1
    have h2 : (letterS t.hood).data.toList.length ≤ 1 := by rw [← Lib.size_eq]; exact letter_len t.hood
    simp at h1 h2 ⊢
    omega
  · simp
theorem parse_ok (l : List UInt8) : (rightT (parseG l).1 = true ∧ (parseG l).1.states ≠ 2 ∧ (parseG l).2 = 0) ∨ ((parseG l).1 = zeroT ∧ ((parseG l).2 = 5 ∨ (parseG l).2 = 15)) := by
  unfold parseG
  rcases partsG (hoodP l).1 with _ | ⟨b, s, n⟩
  · exact .inr ⟨rfl, .inr rfl⟩
  · show (rightT (endG (digG b) (digG s) n (hoodP l).2).1 = true ∧ _) ∨ ((endG (digG b) (digG s) n (hoodP l).2).1 = zeroT ∧ _)
    show (rightT (endG (digG b) (digG s) n (hoodP l).2).1 = true ∧ (endG (digG b) (digG s) n (hoodP l).2).1.states ≠ 2 ∧ (endG (digG b) (digG s) n (hoodP l).2).2 = 0) ∨ ((endG (digG b) (digG s) n (hoodP l).2).1 = zeroT ∧ ((endG (digG b) (digG s) n (hoodP l).2).2 = 5 ∨ (endG (digG b) (digG s) n (hoodP l).2).2 = 15))
    unfold endG
    cases (digG b).2
    · exact .inr ⟨rfl, .inr rfl⟩
    cases (digG s).2
    · exact .inr ⟨rfl, .inr rfl⟩
    cases numG n
    · exact .inr ⟨rfl, .inr rfl⟩
    simp only [if_true]
    by_cases h : 3 ≤ numV n ∧ numV n ≤ 8 ∧ rightT ⟨(hoodP l).2, numV n, (digG b).1, (digG s).1⟩ = true
    · rw [if_pos h]
      exact .inl ⟨h.2.2, by show numV n ≠ 2; omega, rfl⟩
    · rw [if_neg h]
      exact .inr ⟨rfl, .inl rfl⟩
end Go.Proofs.YtaofninfjdepfaaDoor
