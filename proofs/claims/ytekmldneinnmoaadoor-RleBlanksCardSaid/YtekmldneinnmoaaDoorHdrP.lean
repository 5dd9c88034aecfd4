/-
  The header by cuts and by positions says what hdrL says. Plain.
-/
import Derived.Test.YtekmldneinnmoaaDoorNumbR
namespace Go.Proofs.YtekmldneinnmoaaDoor
open Go.RowKit
set_option linter.unusedVariables false
set_option linter.unusedSimpArgs false

def tx : List UInt8 := [120, 32, 61, 32]
def ty : List UInt8 := [44, 32, 121, 32, 61, 32]
def tr : List UInt8 := [44, 32, 114, 117, 108, 101, 32, 61, 32]
/-- the code's header -/
def hdrT (l : List UInt8) : Int × Int × List UInt8 × Bool :=
  if Lib.hasPrefix l tx = false then (0, 0, [], false)
  else if (Lib.cut (Lib.trimPrefix l tx) ty).2.2 = false then (0, 0, [], false)
  else ((numT 9 (Lib.cut (Lib.trimPrefix l tx) ty).1).1, (numT 9 (Lib.cut (Lib.cut (Lib.trimPrefix l tx) ty).2.1 tr).1).1, (Lib.cut (Lib.cut (Lib.trimPrefix l tx) ty).2.1 tr).2.1,
    (Lib.cut (Lib.cut (Lib.trimPrefix l tx) ty).2.1 tr).2.2 && (numT 9 (Lib.cut (Lib.trimPrefix l tx) ty).1).2 && (numT 9 (Lib.cut (Lib.cut (Lib.trimPrefix l tx) ty).2.1 tr).1).2)
theorem numT_run (a : List UInt8) : numT 9 (digRun a) = if okN 9 (digRun a) = true then (numL (digRun a), true) else (0, false) := by
  unfold numT
  have h : (digRun a).all isDig = true := by rw [List.all_eq_true]; exact digRun_all a
  by_cases h2 : okN 9 (digRun a) = true
  · rw [if_pos ⟨h2, h⟩, if_pos h2]
  · rw [if_neg (fun h3 => h2 h3.1), if_neg h2]
theorem run_get {a : List UInt8} {j : Nat} (h : j < (digRun a).length) : ∃ c, a[j]? = some c ∧ isDig c = true := by
  have h1 := digRun_split a
  refine ⟨(digRun a)[j], ?_, digRun_all a _ (List.getElem_mem h)⟩
  conv => lhs; rw [h1]
  rw [List.getElem?_append_left h, List.getElem?_eq_getElem h]
theorem run_of_take : ∀ {a : List UInt8} {i : Nat} {c : UInt8}, (∀ x ∈ a.take i, isDig x = true) → a[i]? = some c → isDig c = false → digRun a = a.take i
  | [], i, c, _, h, _ => by simp at h
  | b :: a, 0, c, _, h, hc => by
    simp at h
    subst h
    simp [digRun, hc]
  | b :: a, i + 1, c, ha, h, hc => by
    have hb : isDig b = true := ha b (by simp)
    have := run_of_take (a := a) (i := i) (fun x hx => ha x (by simp [hx])) (by simpa using h) hc
    simp [digRun, hb, this]
theorem cut_hit {a t b : List UInt8} (hs : stripL (44 :: t) (a.drop (digRun a).length) = some b) : Lib.cut a (44 :: t) = (digRun a, b, true) := by
  unfold stripL at hs
  split at hs
  · rename_i hp
    have hb := Option.some.inj hs
    have hi : Lib.index a (44 :: t) = ((digRun a).length : Nat) := by
      refine Lib.index_first (digRun_le a) hp ?_
      intro j hj
      cases ho : Lib.occAt a (44 :: t) j
      · rfl
      · obtain ⟨c, h1, h2⟩ := run_get hj
        rw [Lib.occAt_head rfl ho] at h1
        cases h1
        revert h2
        decide
    unfold Lib.cut
    rw [hi, if_pos (by omega)]
    refine Prod.ext ?_ (Prod.ext ?_ rfl)
    · show a.take _ = digRun a
      rw [Int.toNat_natCast]
      have h1 := digRun_split a
      have h2 : a.take (digRun a).length = (digRun a ++ a.drop (digRun a).length).take (digRun a).length := by rw [← h1]
      rw [h2, List.take_left]
    · show a.drop _ = b
      rw [← hb, List.drop_drop, Int.toNat_natCast]
  · cases hs
theorem cut_occ {a sep : List UInt8} (h : 0 ≤ Lib.index a sep) (hn : sep ≠ []) : Lib.occAt a sep (Lib.index a sep).toNat = true := by
  by_cases hall : ∀ j, j ≤ a.length → Lib.occAt a sep j = false
  · rw [Lib.index_none hall] at h
    omega
  · have hex : ∃ j, j ≤ a.length ∧ Lib.occAt a sep j = true := by
      refine Classical.byContradiction fun hne => hall fun j hj => ?_
      cases ho : Lib.occAt a sep j
      · rfl
      · exact absurd ⟨j, hj, ho⟩ hne
    have key : ∀ n j, j ≤ n → j ≤ a.length → Lib.occAt a sep j = true → ∃ i, i ≤ a.length ∧ Lib.occAt a sep i = true ∧ ∀ k, k < i → Lib.occAt a sep k = false := by
      intro n
      induction n with
      | zero =>
        intro j hj hl ho
        obtain rfl : j = 0 := by omega
        exact ⟨0, hl, ho, fun k hk => absurd hk (by omega)⟩
      | succ n ih =>
        intro j hj hl ho
        by_cases hex2 : ∃ k, k < j ∧ Lib.occAt a sep k = true
        · obtain ⟨k, hk, hk2⟩ := hex2
          exact ih k (by omega) (by omega) hk2
        · refine ⟨j, hl, ho, fun k hk => ?_⟩
          cases hk2 : Lib.occAt a sep k
          · rfl
          · exact absurd ⟨k, hk, hk2⟩ hex2
    obtain ⟨j, hj, ho⟩ := hex
    obtain ⟨i, h1, h2, h3⟩ := key j j (Nat.le_refl _) hj ho
    rw [Lib.index_first h1 h2 h3, Int.toNat_natCast]
    exact h2
theorem cut_miss {a t : List UInt8} (hs : stripL (44 :: t) (a.drop (digRun a).length) = none) (hc : (Lib.cut a (44 :: t)).2.2 = true) : (numT 9 (Lib.cut a (44 :: t)).1).2 = false := by
  cases hn : (numT 9 (Lib.cut a (44 :: t)).1).2
  · rfl
  · exfalso
    unfold Lib.cut at hc hn
    split at hc
    · rename_i h0
      rw [if_pos h0] at hn
      dsimp only at hn
      have ho := cut_occ h0 (by simp)
      have hd : ∀ x ∈ a.take (Lib.index a (44 :: t)).toNat, isDig x = true := by
        unfold numT at hn
        split at hn
        · rename_i h2
          exact List.all_eq_true.1 h2.2
        · cases hn
      have hr := run_of_take hd (Lib.occAt_head rfl ho) (by decide)
      have hlen : (digRun a).length = (Lib.index a (44 :: t)).toNat := by
        rw [hr, List.length_take]
        have := Lib.occAt_room ho
        rcases this with h | h
        · omega
        · simp at h
      unfold stripL at hs
      rw [hlen, if_pos (show (44 :: t).isPrefixOf (a.drop (Lib.index a (44 :: t)).toNat) = true from ho)] at hs
      cases hs
    · cases hc
theorem hdrT_none {l : List UInt8} (h : hdrL l = none) : (hdrT l).2.2.2 = false := by
  unfold hdrT
  by_cases h1 : Lib.hasPrefix l tx = false
  · rw [if_pos h1]
  rw [if_neg h1]
  by_cases h2 : (Lib.cut (Lib.trimPrefix l tx) ty).2.2 = false
  · rw [if_pos h2]
  rw [if_neg h2]
  have h1' : tx.isPrefixOf l = true := by simpa [Lib.hasPrefix] using h1
  have ht : Lib.trimPrefix l tx = l.drop 4 := by
    unfold Lib.trimPrefix Lib.hasPrefix
    rw [if_pos h1']
    rfl
  rw [ht] at h2 ⊢
  unfold hdrL at h
  rw [show stripL [120, 32, 61, 32] l = some (l.drop 4) from by unfold stripL; exact if_pos h1'] at h
  dsimp only at h ⊢
  cases hs : stripL ty ((l.drop 4).drop (digRun (l.drop 4)).length) with
  | none =>
    have hm : (numT 9 (Lib.cut (l.drop 4) ty).1).2 = false := cut_miss hs (by simpa [ty] using h2)
    rw [hm]
    simp
  | some b =>
    have hc : Lib.cut (l.drop 4) ty = (digRun (l.drop 4), b, true) := cut_hit hs
    rw [hc]
    dsimp only
    rw [numT_run]
    by_cases ho : okN 9 (digRun (l.drop 4)) = false
    · rw [if_neg (by rw [ho]; simp)]
      simp
    rw [if_neg ho] at h
    rw [show stripL [44, 32, 121, 32, 61, 32] ((l.drop 4).drop (digRun (l.drop 4)).length) = some b from hs] at h
    dsimp only at h
    cases hs2 : stripL tr (b.drop (digRun b).length) with
    | none =>
      cases hcc : (Lib.cut b tr).2.2
      · simp
      · have hm : (numT 9 (Lib.cut b tr).1).2 = false := cut_miss hs2 hcc
        rw [hm]
        simp
    | some r =>
      have hc2 : Lib.cut b tr = (digRun b, r, true) := cut_hit hs2
      rw [hc2]
      dsimp only
      rw [numT_run]
      by_cases ho2 : okN 9 (digRun b) = false
      · rw [if_neg (c := okN 9 (digRun b) = true) (by rw [ho2]; simp)]
        simp
      rw [if_neg ho2] at h
      rw [show stripL [44, 32, 114, 117, 108, 101, 32, 61, 32] (b.drop (digRun b).length) = some r from hs2] at h
      cases h
theorem hdrT_some {l r : List UInt8} {w h : Int} (hh : hdrL l = some (w, h, r)) : hdrT l = (w, h, r, true) := by
  unfold hdrL at hh
  cases hs0 : stripL [120, 32, 61, 32] l with
  | none => rw [hs0] at hh; cases hh
  | some a =>
    rw [hs0] at hh
    dsimp only at hh
    have h1 : tx.isPrefixOf l = true ∧ a = l.drop 4 := by
      unfold stripL at hs0
      split at hs0
      · rename_i h; exact ⟨h, (Option.some.inj hs0).symm⟩
      · cases hs0
    by_cases ho : okN 9 (digRun a) = false
    · rw [if_pos ho] at hh; cases hh
    rw [if_neg ho] at hh
    cases hs1 : stripL [44, 32, 121, 32, 61, 32] (a.drop (digRun a).length) with
    | none => rw [hs1] at hh; cases hh
    | some b =>
      rw [hs1] at hh
      dsimp only at hh
      by_cases ho2 : okN 9 (digRun b) = false
      · rw [if_pos ho2] at hh; cases hh
      rw [if_neg ho2] at hh
      cases hs2 : stripL [44, 32, 114, 117, 108, 101, 32, 61, 32] (b.drop (digRun b).length) with
      | none => rw [hs2] at hh; cases hh
      | some r' =>
        rw [hs2] at hh
        dsimp only at hh
        have h2 := Option.some.inj hh
        injection h2 with e1 h2
        injection h2 with e2 e3
        subst e1 e2 e3
        have hc1 : Lib.cut a ty = (digRun a, b, true) := cut_hit hs1
        have hc2 : Lib.cut b tr = (digRun b, r', true) := cut_hit hs2
        unfold hdrT
        rw [if_neg (by unfold Lib.hasPrefix; rw [h1.1]; simp), show Lib.trimPrefix l tx = a by unfold Lib.trimPrefix Lib.hasPrefix; rw [if_pos h1.1, h1.2]; rfl, hc1]
        dsimp only
        rw [if_neg (by simp), hc2]
        dsimp only
        rw [numT_run, numT_run, if_pos (by simpa using ho), if_pos (by simpa using ho2)]
        rfl
/-- lines -/
theorem line_split (l : List UInt8) : l = lineOf l ++ l.drop (lineOf l).length := by
  obtain ⟨t, ht⟩ : ∃ t, lineOf l ++ t = l := List.takeWhile_prefix (l := l) (fun c => c != 10)
  have h2 : l.drop (lineOf l).length = (lineOf l ++ t).drop (lineOf l).length := by rw [ht]
  rw [h2, List.drop_left]
  exact ht.symm
theorem line_no : ∀ (l : List UInt8), ∀ c ∈ lineOf l, c ≠ 10
  | [], c, h => by cases h
  | a :: l, c, h => by
    unfold lineOf at h
    rw [List.takeWhile_cons] at h
    split at h
    · rename_i ha
      rcases List.mem_cons.1 h with rfl | h
      · simpa using ha
      · exact line_no l c h
    · cases h
theorem strip_line {t l : List UInt8} (ht : ∀ c ∈ t, c ≠ 10) : stripL t (lineOf l) = (stripL t l).map lineOf := by
  induction t generalizing l with
  | nil => rfl
  | cons a t ih =>
    cases l with
    | nil => rfl
    | cons b l =>
      have ha := ht a List.mem_cons_self
      unfold stripL lineOf at *
      by_cases hb : b = 10
      · subst hb
        have h1 : ((10 : UInt8) != 10) = false := by decide
        rw [List.takeWhile_cons, h1]
        have h2 : (a == (10 : UInt8)) = false := by simpa using ha
        simp [List.isPrefixOf, h2]
      · have h1 : (b != 10) = true := by simpa using hb
        rw [List.takeWhile_cons, if_pos h1]
        by_cases hab : a == b
        · simp only [List.isPrefixOf, hab, Bool.true_and, List.length_cons, List.drop_succ_cons]
          exact ih (fun c hc => ht c (List.mem_cons_of_mem _ hc))
        · simp [List.isPrefixOf, hab]
theorem run_line : ∀ l : List UInt8, digRun (lineOf l) = digRun l ∧ (lineOf l).drop (digRun l).length = lineOf (l.drop (digRun l).length)
  | [] => ⟨rfl, rfl⟩
  | b :: l => by
    by_cases hb : isDig b = true
    · have h10 : (b != 10) = true := by
        simp only [bne_iff_ne, ne_eq]
        rintro rfl
        revert hb
        decide
      have ih := run_line l
      have e1 : lineOf (b :: l) = b :: lineOf l := by unfold lineOf; rw [List.takeWhile_cons, if_pos h10]
      have e2 : digRun (b :: l) = b :: digRun l := by simp [digRun, hb]
      have e3 : digRun (b :: lineOf l) = b :: digRun (lineOf l) := by simp [digRun, hb]
      rw [e1, e2, e3, ih.1]
      exact ⟨rfl, by simpa using ih.2⟩
    · have e2 : digRun (b :: l) = [] := by simp [digRun, hb]
      rw [e2]
      refine ⟨?_, rfl⟩
      unfold lineOf
      rw [List.takeWhile_cons]
      split
      · simp [digRun, hb]
      · rfl
theorem hdr_line (l : List UInt8) : hdrL (lineOf l) = (hdrL l).map fun q => (q.1, q.2.1, lineOf q.2.2) := by
  unfold hdrL
  rw [strip_line (by decide)]
  cases stripL [120, 32, 61, 32] l with
  | none => rfl
  | some a =>
    dsimp only [Option.map]
    rw [(run_line a).1, (run_line a).2]
    by_cases ho : okN 9 (digRun a) = false
    · rw [if_pos ho, if_pos ho]
    rw [if_neg ho, if_neg ho, strip_line (by decide)]
    cases stripL [44, 32, 121, 32, 61, 32] (a.drop (digRun a).length) with
    | none => rfl
    | some b =>
      dsimp only [Option.map]
      rw [(run_line b).1, (run_line b).2]
      by_cases ho2 : okN 9 (digRun b) = false
      · rw [if_pos ho2, if_pos ho2]
      rw [if_neg ho2, if_neg ho2, strip_line (by decide)]
      cases stripL [44, 32, 114, 117, 108, 101, 32, 61, 32] (b.drop (digRun b).length) with
      | none => rfl
      | some r => rfl
/-- the reference's header -/
def hdrQ (l : List UInt8) (p : Nat) : Int × Int × List UInt8 × Int :=
  if afterL l p tx < 0 then (0, 0, [], -1)
  else if (numQ 9 l (afterL l p tx).toNat).1 < 0 ∨ afterL l (numQ 9 l (afterL l p tx).toNat).2 ty < 0 then (0, 0, [], -1)
  else if (numQ 9 l (afterL l (numQ 9 l (afterL l p tx).toNat).2 ty).toNat).1 < 0 ∨ afterL l (numQ 9 l (afterL l (numQ 9 l (afterL l p tx).toNat).2 ty).toNat).2 tr < 0 then (0, 0, [], -1)
  else ((numQ 9 l (afterL l p tx).toNat).1, (numQ 9 l (afterL l (numQ 9 l (afterL l p tx).toNat).2 ty).toNat).1,
    lineOf (l.drop (afterL l (numQ 9 l (afterL l (numQ 9 l (afterL l p tx).toNat).2 ty).toNat).2 tr).toNat),
    min (afterL l (numQ 9 l (afterL l (numQ 9 l (afterL l p tx).toNat).2 ty).toNat).2 tr + (lineOf (l.drop (afterL l (numQ 9 l (afterL l (numQ 9 l (afterL l p tx).toNat).2 ty).toNat).2 tr).toNat)).length + 1) l.length)
theorem after_strip {l t : List UInt8} {p : Nat} (hp : p ≤ l.length) : (stripL t (l.drop p) = none → afterL l p t = -1) ∧ (∀ b, stripL t (l.drop p) = some b → afterL l p t = ((p + t.length : Nat) : Int) ∧ p + t.length ≤ l.length ∧ b = l.drop (p + t.length)) := by
  unfold stripL afterL
  refine ⟨fun h => ?_, fun b h => ?_⟩
  · split at h
    · cases h
    · rename_i hn
      rw [if_neg]
      rintro ⟨-, -, h3⟩
      apply hn
      rw [List.isPrefixOf_iff_prefix, List.prefix_iff_eq_take]
      rw [Int.toNat_natCast] at h3
      exact h3.symm
  · split at h
    · rename_i hn
      rw [List.isPrefixOf_iff_prefix, List.prefix_iff_eq_take] at hn
      have hl : t.length ≤ (l.drop p).length := by
        have := congrArg List.length hn
        rw [List.length_take] at this
        omega
      rw [List.length_drop] at hl
      refine ⟨?_, by omega, ?_⟩
      · rw [if_pos ⟨by omega, by omega, by rw [Int.toNat_natCast]; exact hn.symm⟩]
        omega
      · rw [← Option.some.inj h, List.drop_drop]
    · cases h
theorem numQ_at {l : List UInt8} {p : Nat} (hp : p ≤ l.length) : (okN 9 (digRun (l.drop p)) = false → (numQ 9 l p).1 < 0) ∧ (okN 9 (digRun (l.drop p)) = true → 0 ≤ (numQ 9 l p).1 ∧ (numQ 9 l p).1 < 1000000000 ∧ numQ 9 l p = (numL (digRun (l.drop p)), ((p + (digRun (l.drop p)).length : Nat) : Int)) ∧ p + (digRun (l.drop p)).length ≤ l.length) := by
  refine ⟨fun h => by rw [numQ_bad h]; show (-1 : Int) < 0; omega, fun h => ?_⟩
  have h2 : (digRun (l.drop p)).length ≤ 9 := by
    unfold okN at h
    simp only [Bool.and_eq_true, decide_eq_true_eq] at h
    exact h.1.2
  have h3 := numL_bd9 (digRun_all (l.drop p)) h2
  have h4 := digRun_le (l.drop p)
  rw [List.length_drop] at h4
  rw [numQ_good h]
  exact ⟨h3.1, h3.2, by rw [Int.natCast_add], by omega⟩
theorem after_line_drop {l : List UInt8} {p : Nat} (hp : p ≤ l.length) : l.drop (min (p + (lineOf (l.drop p)).length + 1) l.length) = afterLine (l.drop p) := by
  unfold afterLine
  rw [List.drop_drop]
  by_cases h : p + (lineOf (l.drop p)).length + 1 ≤ l.length
  · rw [Nat.min_eq_left h]
    congr 1
  · rw [Nat.min_eq_right (by omega), List.drop_of_length_le (Nat.le_refl _), List.drop_of_length_le (by omega)]
theorem after_suffix : ∀ (a r : List UInt8), (∀ c ∈ a, c ≠ 10) → afterLine (a ++ r) = afterLine r
  | [], r, _ => rfl
  | c :: a, r, h => by
    have hc : (c != 10) = true := by simpa using h c List.mem_cons_self
    have ih := after_suffix a r (fun x hx => h x (List.mem_cons_of_mem _ hx))
    unfold afterLine lineOf at *
    rw [List.cons_append, List.takeWhile_cons, if_pos hc, List.length_cons, List.drop_succ_cons]
    exact ih
theorem strip_app {t l b : List UInt8} (h : stripL t l = some b) : l = t ++ b := by
  unfold stripL at h
  split at h
  · rename_i hn
    rw [List.isPrefixOf_iff_prefix] at hn
    obtain ⟨x, hx⟩ := hn
    rw [← Option.some.inj h, ← hx, List.drop_left]
  · cases h
theorem run_no10 (a : List UInt8) : ∀ c ∈ digRun a, c ≠ 10 := fun c h => by
  have := digRun_all a c h
  rintro rfl
  revert this
  decide
theorem hdrQ_spec (l : List UInt8) (p : Nat) (hp : p ≤ l.length) : (hdrL (lineOf (l.drop p)) = none → hdrQ l p = (0, 0, [], -1)) ∧
    (∀ w h r, hdrL (lineOf (l.drop p)) = some (w, h, r) → ∃ q : Nat, hdrQ l p = (w, h, r, (q : Int)) ∧ q ≤ l.length ∧ l.drop q = afterLine (l.drop p) ∧ 0 ≤ w ∧ 0 ≤ h ∧ w < 1000000000 ∧ h < 1000000000) := by
  rw [hdr_line]
  unfold hdrL
  cases hs0 : stripL [120, 32, 61, 32] (l.drop p) with
  | none =>
    refine ⟨fun _ => ?_, fun w h r hh => by cases hh⟩
    unfold hdrQ
    rw [if_pos]
    show afterL l p [120, 32, 61, 32] < 0
    rw [(after_strip hp).1 hs0]
    decide
  | some a =>
    obtain ⟨e0, hl0, ha⟩ := (after_strip hp).2 a hs0
    obtain ⟨p1, hp1⟩ : ∃ p1, p1 = p + ([120, 32, 61, 32] : List UInt8).length := ⟨_, rfl⟩
    have e0' : afterL l p tx = (p1 : Int) := by rw [hp1]; exact e0
    rw [← hp1] at hl0 ha
    dsimp only
    have hdr1 := numQ_at hl0
    rw [← ha] at hdr1
    by_cases ho : okN 9 (digRun a) = false
    · rw [if_pos ho]
      refine ⟨fun _ => ?_, fun w h r hh => by cases hh⟩
      unfold hdrQ
      rw [e0', if_neg (by omega), Int.toNat_natCast, if_pos (.inl (hdr1.1 ho))]
    rw [if_neg ho]
    obtain ⟨n0, n1, n2, n3⟩ := hdr1.2 (by simpa using ho)
    obtain ⟨p2, hp2⟩ : ∃ p2, p2 = p1 + (digRun a).length := ⟨_, rfl⟩
    rw [← hp2] at n2 n3
    have ha2 : a.drop (digRun a).length = l.drop p2 := by rw [ha, List.drop_drop, ← ha, hp2]
    rw [ha2]
    cases hs1 : stripL [44, 32, 121, 32, 61, 32] (l.drop p2) with
    | none =>
      refine ⟨fun _ => ?_, fun w h r hh => by cases hh⟩
      unfold hdrQ
      rw [e0', if_neg (by omega), Int.toNat_natCast, if_pos]
      refine .inr ?_
      rw [n2]
      show afterL l (p2 : Int) [44, 32, 121, 32, 61, 32] < 0
      rw [(after_strip n3).1 hs1]
      decide
    | some b =>
      obtain ⟨f0, fl0, hb⟩ := (after_strip n3).2 b hs1
      obtain ⟨p3, hp3⟩ : ∃ p3, p3 = p2 + ([44, 32, 121, 32, 61, 32] : List UInt8).length := ⟨_, rfl⟩
      have f0' : afterL l (p2 : Int) ty = (p3 : Int) := by rw [hp3]; exact f0
      rw [← hp3] at fl0 hb
      dsimp only
      have hdr2 := numQ_at fl0
      rw [← hb] at hdr2
      by_cases ho2 : okN 9 (digRun b) = false
      · rw [if_pos ho2]
        refine ⟨fun _ => ?_, fun w h r hh => by cases hh⟩
        unfold hdrQ
        rw [e0', if_neg (by omega), Int.toNat_natCast, if_neg (by rw [n2]; dsimp only; rw [f0']; rw [n2] at n0; dsimp only at n0; omega), n2]
        dsimp only
        rw [f0', Int.toNat_natCast, if_pos (.inl (hdr2.1 ho2))]
      rw [if_neg ho2]
      obtain ⟨m0, m1, m2, m3⟩ := hdr2.2 (by simpa using ho2)
      obtain ⟨p4, hp4⟩ : ∃ p4, p4 = p3 + (digRun b).length := ⟨_, rfl⟩
      rw [← hp4] at m2 m3
      have hb2 : b.drop (digRun b).length = l.drop p4 := by rw [hb, List.drop_drop, ← hb, hp4]
      rw [hb2]
      cases hs2 : stripL [44, 32, 114, 117, 108, 101, 32, 61, 32] (l.drop p4) with
      | none =>
        refine ⟨fun _ => ?_, fun w h r hh => by cases hh⟩
        unfold hdrQ
        rw [e0', if_neg (by omega), Int.toNat_natCast, if_neg (by rw [n2]; dsimp only; rw [f0']; rw [n2] at n0; dsimp only at n0; omega), n2]
        dsimp only
        rw [f0', Int.toNat_natCast, if_pos]
        refine .inr ?_
        rw [m2]
        show afterL l (p4 : Int) [44, 32, 114, 117, 108, 101, 32, 61, 32] < 0
        rw [(after_strip m3).1 hs2]
        decide
      | some r =>
        obtain ⟨g0, gl0, hr⟩ := (after_strip m3).2 r hs2
        obtain ⟨p5, hp5⟩ : ∃ p5, p5 = p4 + ([44, 32, 114, 117, 108, 101, 32, 61, 32] : List UInt8).length := ⟨_, rfl⟩
        have g0' : afterL l (p4 : Int) tr = (p5 : Int) := by rw [hp5]; exact g0
        rw [← hp5] at gl0 hr
        refine ⟨fun hh => (by cases hh), fun w h r2 hh => ?_⟩
        have hh2 := Option.some.inj hh
        injection hh2 with e1 hh2
        injection hh2 with e2 e3
        dsimp only at e1 e2 e3
        subst e1 e2 e3
        refine ⟨min (p5 + (lineOf (l.drop p5)).length + 1) l.length, ?_, Nat.min_le_right _ _, ?_, ?_⟩
        · unfold hdrQ
          rw [e0', if_neg (by omega), Int.toNat_natCast, if_neg (by rw [n2]; dsimp only; rw [f0']; rw [n2] at n0; dsimp only at n0; omega), n2]
          dsimp only
          rw [f0', Int.toNat_natCast, if_neg (by rw [m2]; dsimp only; rw [g0']; rw [m2] at m0; dsimp only at m0; omega), m2]
          dsimp only
          rw [g0', Int.toNat_natCast, hr]
          refine Prod.ext rfl (Prod.ext rfl (Prod.ext rfl ?_))
          show min ((p5 : Int) + ((lineOf (l.drop p5)).length : Int) + 1) (l.length : Int) = ((min (p5 + (lineOf (l.drop p5)).length + 1) l.length : Nat) : Int)
          omega
        · rw [after_line_drop gl0, ← hr]
          have x2 := strip_app hs2
          have x1 := strip_app hs1
          have x0 := strip_app hs0
          have d1 := digRun_split a
          have d2 := digRun_split b
          rw [ha2, x1] at d1
          rw [hb2, x2] at d2
          rw [x0]
          conv => rhs; rw [d1, d2]
          rw [after_suffix _ _ (by decide), after_suffix _ _ (run_no10 a), after_suffix _ _ (by decide), after_suffix _ _ (run_no10 b), after_suffix _ _ (by decide)]
        · rw [n2] at n0 n1
          rw [m2] at m0 m1
          exact ⟨n0, m0, n1, m1⟩
end Go.Proofs.YtekmldneinnmoaaDoor
