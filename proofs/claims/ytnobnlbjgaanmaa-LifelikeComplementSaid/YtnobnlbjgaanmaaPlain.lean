/-
  Plain laws of chapter 08, no program in sight: the two readings of a text are one; a text comes back; an accepted text is its rule's; the complement's complement.
-/
import Derived.Test.YtnobnlbjgaanmaaComplW
import Derived.Test.YtnobnlbjgaanmaaParseR
namespace Go.Proofs.Ytnobnlbjgaanmaa
open Go.RowKit
set_option linter.unusedVariables false
set_option linter.unusedSimpArgs false

theorem isDig_le {c : UInt8} (h : isDig c = true) : 0 ≤ digOf c ∧ digOf c ≤ 9 := by
  unfold isDig at h
  simp at h
  unfold digOf
  omega
theorem digAsc_cons (last : Int) (c : UInt8) (l : List UInt8) : digAsc last (c :: l) = if isDig c && decide (last < digOf c) then digOf c :: digAsc (digOf c) l else [] := rfl
theorem dig_full : ∀ (l : List UInt8) (last : Int), (digAsc last l).length = l.length → l.all isDig = true ∧ asc last 9 (l.map digOf) = true ∧ digAsc last l = l.map digOf
  | [], last, _ => ⟨rfl, rfl, rfl⟩
  | c :: l, last, h => by
    rw [digAsc_cons] at h ⊢
    by_cases hc : (isDig c && decide (last < digOf c)) = true
    · rw [if_pos hc] at h ⊢
      obtain ⟨i1, i2, i3⟩ := dig_full l (digOf c) (by simpa using h)
      rw [Bool.and_eq_true] at hc
      refine ⟨by simp [hc.1]; simpa using i1, ?_, by rw [i3]; rfl⟩
      show (decide (last < digOf c) && decide (digOf c ≤ 9) && asc (digOf c) 9 (l.map digOf)) = true
      rw [hc.2, decide_eq_true (isDig_le hc.1).2, i2]; rfl
    · rw [if_neg hc] at h
      simp at h
theorem dig_full_of : ∀ (l : List UInt8) (last : Int), l.all isDig = true → asc last 9 (l.map digOf) = true → digAsc last l = l.map digOf
  | [], last, _, _ => rfl
  | c :: l, last, h1, h2 => by
    have h2' : (decide (last < digOf c) && decide (digOf c ≤ 9) && asc (digOf c) 9 (l.map digOf)) = true := h2
    simp only [List.all_cons, Bool.and_eq_true] at h1 h2'
    rw [digAsc_cons, if_pos (by rw [h1.1, h2'.1.1]; rfl), dig_full_of l _ h1.2 h2'.2]; rfl
theorem digL_yes {l : List UInt8} (h : (digAsc (-1) l).length = l.length) : digL l = (digAsc (-1) l, true) := by
  obtain ⟨h1, h2, h3⟩ := dig_full l (-1) h
  unfold digL
  rw [if_pos h1, h2, h3]
theorem digL_no {l : List UInt8} (h : ¬ (digAsc (-1) l).length = l.length) : (digL l).2 = false := by
  unfold digL
  split
  · rename_i h1
    cases h2 : asc (-1) 9 (l.map digOf)
    · rfl
    · exact absurd (by rw [dig_full_of l (-1) h1 h2, List.length_map]) h
  · rfl
/-- behind a letter that is no digit nothing counts -/
theorem digAsc_stop {c : UInt8} (hc : isDig c = false) (y : List UInt8) : ∀ (x : List UInt8) (last : Int), digAsc last (x ++ c :: y) = digAsc last x
  | [], last => by rw [List.nil_append, digAsc_cons, hc]; rfl
  | e :: x, last => by
    rw [List.cons_append, digAsc_cons, digAsc_cons, digAsc_stop hc y x]
theorem digAsc_take : ∀ (l : List UInt8) (last : Int), digAsc last (l.take (digAsc last l).length) = digAsc last l
  | [], last => rfl
  | c :: l, last => by
    by_cases hc : (isDig c && decide (last < digOf c)) = true
    · have e : digAsc last (c :: l) = digOf c :: digAsc (digOf c) l := by rw [digAsc_cons, if_pos hc]
      rw [e, List.length_cons, List.take_succ_cons, digAsc_cons, if_pos hc, digAsc_take l (digOf c)]
    · have e : digAsc last (c :: l) = [] := by rw [digAsc_cons, if_neg hc]
      rw [e]; rfl
theorem dig_no_slash {c : UInt8} (h : isDig c = true) : c ≠ 47 := by
  rintro rfl
  revert h; decide
theorem index_at (z : List UInt8) : ∀ x : List UInt8, x.all isDig = true → Lib.index (x ++ 47 :: 83 :: z) [47, 83] = x.length
  | [], _ => by simp [Lib.index, List.isPrefixOf]
  | c :: x, h => by
    simp only [List.all_cons, Bool.and_eq_true] at h
    have hn := dig_no_slash h.1
    have hi := index_at z x h.2
    have hp : List.isPrefixOf [47, 83] (c :: (x ++ 47 :: 83 :: z)) = false := by
      simp [List.isPrefixOf, hn, Ne.symm hn]
    rw [List.cons_append, Lib.index, hp, hi]
    have : ((x.length : Int) == -1) = false := by simp
    rw [this]; simp
theorem index_split : ∀ s : List UInt8, 0 ≤ Lib.index s [47, 83] → s = s.take (Lib.index s [47, 83]).toNat ++ 47 :: 83 :: s.drop ((Lib.index s [47, 83]).toNat + 2)
  | [], h => by simp [Lib.index] at h
  | b :: l, h => by
    unfold Lib.index at h ⊢
    by_cases hp : List.isPrefixOf [47, 83] (b :: l) = true
    · rw [if_pos hp]
      obtain ⟨t, ht⟩ := List.isPrefixOf_iff_prefix.1 hp
      simp only [List.cons_append, List.nil_append] at ht
      rw [← ht]; simp
    · rw [if_neg hp] at h ⊢
      by_cases hm : (Lib.index l [47, 83] == -1) = true
      · rw [if_pos hm] at h; omega
      · rw [if_neg hm] at h ⊢
        have hge := Lib.index_ge l [47, 83]
        have h0 : 0 ≤ Lib.index l [47, 83] := by
          have : Lib.index l [47, 83] ≠ -1 := by simpa using hm
          omega
        have ih := index_split l h0
        have e : (Lib.index l [47, 83] + 1).toNat = (Lib.index l [47, 83]).toNat + 1 := by omega
        rw [e, List.take_succ_cons, show (Lib.index l [47, 83]).toNat + 1 + 2 = ((Lib.index l [47, 83]).toNat + 2) + 1 from by omega, List.drop_succ_cons, List.cons_append, ← ih]
theorem cut3_yes {x z : List UInt8} (h : x.all isDig = true) : cut3 (x ++ 47 :: 83 :: z) = (x, z, true) := by
  unfold cut3 Lib.cut
  rw [index_at z x h]
  have h0 : (0 : Int) ≤ x.length := by omega
  rw [if_pos h0]
  simp
theorem cut3_split {l : List UInt8} (h : (cut3 l).2.2 = true) : l = (cut3 l).1 ++ 47 :: 83 :: (cut3 l).2.1 := by
  unfold cut3 Lib.cut at h ⊢
  by_cases h0 : 0 ≤ Lib.index l [47, 83]
  · rw [if_pos h0]
    exact index_split l h0
  · rw [if_neg h0] at h
    cases h
theorem endP_fit (b c : List Int) {h : List (Int × Int)} (hk : knownB h = true) : endP (b, true) (c, true) h = fitR b c h := by
  unfold endP fitR rightT
  simp only [hk, if_true]
  have e1 : decide ((2 : Int) ≤ 2) = true := rfl
  have e2 : decide ((2 : Int) ≤ 8) = true := rfl
  rw [e1, e2]
  simp only [Bool.true_and]
theorem endP_no (b : List Int × Bool) {s : List Int × Bool} (h : List (Int × Int)) (hs : s.2 = false) : endP b s h = (zeroT, 15) := by
  unfold endP
  rw [hs]
  cases b.2 <;> rfl
theorem endP_no1 {b : List Int × Bool} (s : List Int × Bool) (h : List (Int × Int)) (hb : b.2 = false) : endP b s h = (zeroT, 15) := by
  unfold endP
  rw [hb]; rfl
/-- what stands behind the digits of the second list -/
def tailT (b c : List Int) (y : List UInt8) : TotL × Int :=
  if y = [] then fitR b c (mooreL 1) else if y = [86] then fitR b c (neumL 1) else if y = [72] then fitR b c hexL else (zeroT, 15)
theorem known_moore : knownB (mooreL 1) = true := by decide
theorem known_neum : knownB (neumL 1) = true := by decide
theorem known_hex : knownB hexL = true := by decide
theorem tail_of (z : List UInt8) (e : UInt8) : Lib.hasSuffix z [e] = true ↔ ∃ x, z = x ++ [e] := by
  unfold Lib.hasSuffix
  rw [List.isSuffixOf_iff_suffix]
  exact ⟨fun ⟨x, h⟩ => ⟨x, h.symm⟩, fun ⟨x, h⟩ => ⟨x, h.symm⟩⟩
theorem trim_of (x : List UInt8) (e : UInt8) : Lib.trimSuffix (x ++ [e]) [e] = x := by
  unfold Lib.trimSuffix
  rw [if_pos ((tail_of _ _).2 ⟨x, rfl⟩)]
  simp
theorem tail_parse (b : List Int) (z : List UInt8) : endP (b, true) (digL (hoodP z).1) (hoodP z).2 = tailT b (digAsc (-1) z) (z.drop (digAsc (-1) z).length) := by
  have letter : ∀ (e : UInt8) (x : List UInt8), isDig e = false → (∀ u v : UInt8, True) → (digAsc (-1) (x ++ [e])) = digAsc (-1) x := fun e x he _ => digAsc_stop he [] x (-1)
  have one : ∀ (e : UInt8) (x : List UInt8) (h : List (Int × Int)), isDig e = false → knownB h = true → (digAsc (-1) x).length = x.length →
      endP (b, true) (digL x) h = fitR b (digAsc (-1) (x ++ [e])) h ∧ (x ++ [e]).drop (digAsc (-1) (x ++ [e])).length = [e] := by
    intro e x h he hk hf
    rw [letter e x he (fun _ _ => trivial), digL_yes hf, endP_fit _ _ hk, hf]
    exact ⟨rfl, by simp⟩
  have two : ∀ (e : UInt8) (x : List UInt8), isDig e = false → ¬ (digAsc (-1) x).length = x.length → ∃ u v w, (x ++ [e]).drop (digAsc (-1) (x ++ [e])).length = u :: v :: w := by
    intro e x he hf
    rw [letter e x he (fun _ _ => trivial)]
    have hle := digAsc_le x (-1)
    have hlt : (digAsc (-1) x).length < x.length := by omega
    rw [List.drop_append_of_le_length hle, List.drop_eq_getElem_cons hlt]
    cases hd : x.drop ((digAsc (-1) x).length + 1) with
    | nil => exact ⟨_, e, [], rfl⟩
    | cons a r => exact ⟨_, a, r ++ [e], rfl⟩
  unfold hoodP
  by_cases hV : tailV z = true
  · rw [if_pos hV]
    obtain ⟨x, rfl⟩ := (tail_of z 86).1 hV
    have ec : cutV (x ++ [86]) = x := trim_of x 86
    simp only [ec]
    by_cases hf : (digAsc (-1) x).length = x.length
    · obtain ⟨g1, g2⟩ := one 86 x (neumL 1) (by decide) known_neum hf
      rw [g1, g2]
      unfold tailT
      rw [if_neg (by simp), if_pos rfl]
    · obtain ⟨u, v, w, hd⟩ := two 86 x (by decide) hf
      rw [endP_no _ _ (digL_no hf), hd]
      unfold tailT
      rw [if_neg (by simp), if_neg (by simp), if_neg (by simp)]
  · rw [if_neg hV]
    by_cases hH : tailH z = true
    · rw [if_pos hH]
      obtain ⟨x, rfl⟩ := (tail_of z 72).1 hH
      have ec : cutH (x ++ [72]) = x := trim_of x 72
      simp only [ec]
      by_cases hf : (digAsc (-1) x).length = x.length
      · obtain ⟨g1, g2⟩ := one 72 x hexL (by decide) known_hex hf
        rw [g1, g2]
        unfold tailT
        rw [if_neg (by simp), if_neg (by decide), if_pos rfl]
      · obtain ⟨u, v, w, hd⟩ := two 72 x (by decide) hf
        rw [endP_no _ _ (digL_no hf), hd]
        unfold tailT
        rw [if_neg (by simp), if_neg (by simp), if_neg (by simp)]
    · rw [if_neg hH]
      simp only []
      by_cases hf : (digAsc (-1) z).length = z.length
      · rw [digL_yes hf, endP_fit _ _ known_moore]
        unfold tailT
        rw [if_pos (by rw [hf]; simp)]
      · rw [endP_no _ _ (digL_no hf)]
        unfold tailT
        have hle := digAsc_le z (-1)
        have hlt : (digAsc (-1) z).length < z.length := by omega
        rw [if_neg (by intro h; have := congrArg List.length h; simp at this; omega), if_neg, if_neg]
        · intro h
          exact hH ((tail_of z 72).2 ⟨z.take (digAsc (-1) z).length, by rw [← h, List.take_append_drop]⟩)
        · intro h
          exact hV ((tail_of z 86).2 ⟨z.take (digAsc (-1) z).length, by rw [← h, List.take_append_drop]⟩)
theorem getD_drop (l : List UInt8) (q : Nat) : l.getD q 0 = (l.drop q).getD 0 0 := by simp [List.getD]
theorem tail_ref (l : List UInt8) (b c : List Int) (q : Nat) : endR l b c q = tailT b c (l.drop q) := by
  have hl : (l.drop q).length = l.length - q := by simp
  unfold endR badR hoodR tailT
  rw [getD_drop]
  cases hy : l.drop q with
  | nil =>
    rw [hy] at hl
    have h1 : ¬ q < l.length := by simp at hl; omega
    simp [h1]
  | cons e r =>
    rw [hy] at hl
    have h1 : q < l.length := by simp at hl; omega
    cases r with
    | nil =>
      have h2 : q + 1 = l.length := by simp at hl; omega
      simp only [List.getD_cons_zero]
      by_cases hv : e = 86
      · subst hv; simp [h1, h2]
      · by_cases hh : e = 72
        · subst hh; simp [h1, h2]
        · simp [h1, h2, hv, hh]
    | cons f r =>
      have h2 : ¬ q + 1 = l.length := by simp at hl; omega
      simp [h1, h2]
theorem parse_eq (l : List UInt8) : parseL l = rparseL l := by
  unfold parseL rparseL
  cases l with
  | nil => rfl
  | cons a r =>
    by_cases ha : a = 66
    · subst ha
      have hs : startB (66 :: r) = true := by simp [startB, Lib.hasPrefix, List.isPrefixOf]
      have hr : restB (66 :: r) = r := by simp [restB, Lib.trimPrefix, Lib.hasPrefix, List.isPrefixOf]
      rw [hs, hr]
      have hd : (66 :: r : List UInt8).drop 1 = r := rfl
      have hc0 : (decide ((66 :: r : List UInt8).length = 0) || decide ((66 :: r : List UInt8).getD 0 0 ≠ 66)) = false := by simp
      rw [hc0, hd]
      simp only [if_true, Bool.false_eq_true, if_false]
      have hk := digAsc_le r (-1)
      have hx := digAsc_take r (-1)
      obtain ⟨k, hkk⟩ : ∃ k, (digAsc (-1) r).length = k := ⟨_, rfl⟩
      rw [hkk] at hk hx ⊢
      have hfull : (digAsc (-1) (r.take k)).length = (r.take k).length := by rw [hx, hkk]; simp; omega
      obtain ⟨hall, -, -⟩ := dig_full _ _ hfull
      have hdd : ∀ n, (66 :: r : List UInt8).drop (1 + k + n) = r.drop (k + n) := fun n => by
        rw [show 1 + k + n = (k + n) + 1 from by omega, List.drop_succ_cons]
      have g0 : (66 :: r : List UInt8).getD (1 + k) 0 = (r.drop k).getD 0 0 := by
        rw [getD_drop]; have := hdd 0; simp only [Nat.add_zero] at this; rw [this]
      have g1 : (66 :: r : List UInt8).getD (1 + k + 1) 0 = (r.drop k).getD 1 0 := by
        rw [getD_drop, hdd 1]; simp [List.getD]
      have hlen : (66 :: r : List UInt8).length = (r.drop k).length + k + 1 := by simp; omega
      by_cases hsl : ∃ z, r.drop k = 47 :: 83 :: z
      · obtain ⟨z, hz⟩ := hsl
        have er : r = r.take k ++ 47 :: 83 :: z := by rw [← hz, List.take_append_drop]
        have hcut : cut3 r = (r.take k, z, true) := by
          conv => lhs; rw [er]
          exact cut3_yes hall
        rw [hcut]
        simp only [if_true]
        rw [digL_yes hfull, hx, tail_parse]
        unfold midR
        rw [g0, g1, hlen, hz]
        have hcond : (decide ((47 :: 83 :: z : List UInt8).length + k + 1 ≤ 1 + k + 1) || decide ((47 :: 83 :: z : List UInt8).getD 0 0 ≠ 47) || decide ((47 :: 83 :: z : List UInt8).getD 1 0 ≠ 83)) = false := by
          have : ¬ (47 :: 83 :: z : List UInt8).length + k + 1 ≤ 1 + k + 1 := by simp <;> omega
          simp [this]
        rw [hcond]
        simp only [Bool.false_eq_true, if_false]
        have hz2 : (66 :: r : List UInt8).drop (1 + k + 2) = z := by
          rw [hdd 2, ← List.drop_drop, hz]; rfl
        rw [hz2, tail_ref]
        have : (66 :: r : List UInt8).drop (1 + k + 2 + (digAsc (-1) z).length) = z.drop (digAsc (-1) z).length := by
          rw [← List.drop_drop, hz2]
        rw [this]
      · have hR : midR (66 :: r) (digAsc (-1) r) (1 + k) = (zeroT, 15) := by
          unfold midR
          rw [if_pos]
          rw [g0, g1, hlen]
          cases hy : r.drop k with
          | nil => simp <;> omega
          | cons u v =>
            cases v with
            | nil => simp <;> omega
            | cons v w =>
              by_cases hu : u = 47
              · by_cases hv : v = 83
                · exact absurd ⟨w, by rw [hy, hu, hv]⟩ hsl
                · simp [hv]
              · simp [hu]
        rw [hR]
        cases hf : (cut3 r).2.2
        · rfl
        · simp only [if_true]
          have es := cut3_split hf
          by_cases hfu : (digAsc (-1) (cut3 r).1).length = (cut3 r).1.length
          · exfalso
            have e1 : digAsc (-1) r = digAsc (-1) (cut3 r).1 := by
              conv => lhs; rw [es]
              exact digAsc_stop (by decide) _ _ _
            rw [e1, hfu] at hkk
            apply hsl
            refine ⟨(cut3 r).2.1, ?_⟩
            conv => lhs; rw [es]
            rw [← hkk]
            simp
          · exact endP_no1 _ _ (digL_no hfu)
    · have hs : startB (a :: r) = false := by
        simp [startB, Lib.hasPrefix, List.isPrefixOf]
        exact fun h => ha h.symm
      rw [hs]
      simp [ha]
end Go.Proofs.Ytnobnlbjgaanmaa
