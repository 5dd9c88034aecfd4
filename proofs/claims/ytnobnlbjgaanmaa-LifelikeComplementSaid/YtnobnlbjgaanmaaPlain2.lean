/-
  Plain laws of chapter 08, no program in sight: a rule comes back from its text; an accepted text is its rule's; the complement's complement is the rule.
-/
import Derived.Test.YtnobnlbjgaanmaaPlain
namespace Go.Proofs.Ytnobnlbjgaanmaa
open Go.RowKit
set_option linter.unusedVariables false
set_option linter.unusedSimpArgs false

theorem parse_form (x z : List UInt8) (hf : (digAsc (-1) x).length = x.length) : parseL (66 :: (x ++ 47 :: 83 :: z)) = tailT (digAsc (-1) x) (digAsc (-1) z) (z.drop (digAsc (-1) z).length) := by
  unfold parseL
  have hs : startB (66 :: (x ++ 47 :: 83 :: z)) = true := by simp [startB, Lib.hasPrefix, List.isPrefixOf]
  have hr : restB (66 :: (x ++ 47 :: 83 :: z)) = x ++ 47 :: 83 :: z := by simp [restB, Lib.trimPrefix, Lib.hasPrefix, List.isPrefixOf]
  rw [hs, hr, cut3_yes (dig_full _ _ hf).1, digL_yes hf, tail_parse]
  rfl
theorem parse_inv {l : List UInt8} {u : TotL} (h : parseL l = (u, 0)) : ∃ x z, l = 66 :: (x ++ 47 :: 83 :: z) ∧ (digAsc (-1) x).length = x.length := by
  have bad : ∀ {P : Prop}, ((zeroT, 15) : TotL × Int) = (u, 0) → P := fun h => by
    have := congrArg Prod.snd h
    simp at this
  unfold parseL at h
  by_cases hs : startB l = true
  · rw [if_pos hs] at h
    obtain ⟨r, rfl⟩ : ∃ r, l = 66 :: r := by
      cases l with
      | nil => simp [startB, Lib.hasPrefix, List.isPrefixOf] at hs
      | cons a r =>
        simp [startB, Lib.hasPrefix, List.isPrefixOf] at hs
        exact ⟨r, by rw [← hs]⟩
    have hr : restB (66 :: r) = r := by simp [restB, Lib.trimPrefix, Lib.hasPrefix, List.isPrefixOf]
    rw [hr] at h
    by_cases hc : (cut3 r).2.2 = true
    · rw [if_pos hc] at h
      by_cases hf : (digAsc (-1) (cut3 r).1).length = (cut3 r).1.length
      · refine ⟨(cut3 r).1, (cut3 r).2.1, ?_, hf⟩
        rw [← cut3_split hc]
      · rw [endP_no1 _ _ (digL_no hf)] at h
        exact bad h
    · rw [if_neg hc] at h
      exact bad h
  · rw [if_neg hs] at h
    exact bad h
theorem digC_digOf {c : UInt8} (h : isDig c = true) : digC (digOf c) = c := by
  unfold digC digOf
  have hb := isDig_le h
  unfold digOf at hb
  have e : (48 + ((c.toNat : Int) - 48)).toNat = c.toNat := by omega
  rw [e]
  exact UInt8.ofNat_toNat
theorem digs_back : ∀ {x : List UInt8}, x.all isDig = true → (x.map digOf).map digC = x
  | [], _ => rfl
  | c :: x, h => by
    simp only [List.all_cons, Bool.and_eq_true] at h
    rw [List.map_cons, List.map_cons, digC_digOf h.1, digs_back h.2]
theorem digOf_digC {z : Int} (h0 : 0 ≤ z) (h1 : z ≤ 9) : digOf (digC z) = z := by
  unfold digOf
  rw [digC_val h0 h1]
  omega
theorem isDig_digC {z : Int} (h0 : 0 ≤ z) (h1 : z ≤ 9) : isDig (digC z) = true := by
  unfold isDig
  rw [digC_val h0 h1]
  simp
  omega
theorem nums_back : ∀ {zs : List Int}, (∀ z ∈ zs, 0 ≤ z ∧ z ≤ 8) → (zs.map digC).all isDig = true ∧ (zs.map digC).map digOf = zs
  | [], _ => ⟨rfl, rfl⟩
  | z :: zs, h => by
    obtain ⟨h0, h1⟩ := h z List.mem_cons_self
    obtain ⟨i1, i2⟩ := nums_back (zs := zs) fun y hy => h y (List.mem_cons_of_mem _ hy)
    refine ⟨?_, ?_⟩
    · rw [List.map_cons, List.all_cons, isDig_digC h0 (by omega), i1]; rfl
    · rw [List.map_cons, List.map_cons, digOf_digC h0 (by omega), i2]
theorem asc_mono {n m : Int} (hnm : n ≤ m) : ∀ {zs : List Int} {last : Int}, asc last n zs = true → asc last m zs = true
  | [], _, _ => rfl
  | k :: zs, last, h => by
    have h' : (decide (last < k) && decide (k ≤ n) && asc k n zs) = true := h
    simp only [Bool.and_eq_true, decide_eq_true_eq] at h'
    show (decide (last < k) && decide (k ≤ m) && asc k m zs) = true
    rw [asc_mono hnm h'.2, decide_eq_true h'.1.1, decide_eq_true (show k ≤ m by omega)]; rfl
theorem fit_ok {b c : List Int} {h : List (Int × Int)} {u : TotL} (hh : fitR b c h = (u, 0)) : u = ⟨h, 2, b, c⟩ ∧ asc (-1) ((h.length : Int) - 1) b = true ∧ asc (-1) ((h.length : Int) - 1) c = true := by
  unfold fitR at hh
  by_cases hc : (asc (-1) ((h.length : Int) - 1) b && asc (-1) ((h.length : Int) - 1) c) = true
  · rw [if_pos hc] at hh
    rw [Bool.and_eq_true] at hc
    exact ⟨(congrArg Prod.fst hh).symm, hc.1, hc.2⟩
  · rw [if_neg hc] at hh
    have := congrArg Prod.snd hh
    simp at this
theorem right_of {h : List (Int × Int)} {b c : List Int} (hk : knownB h = true) (h1 : asc (-1) ((h.length : Int) - 1) b = true) (h2 : asc (-1) ((h.length : Int) - 1) c = true) : rightT ⟨h, 2, b, c⟩ = true := by
  unfold rightT
  simp only [hk, h1, h2]
  rfl
theorem letter_moore : letterS (mooreL 1) = ⟨#[]⟩ := by decide
theorem letter_neum : letterS (neumL 1) = ⟨#[86]⟩ := by decide
theorem letter_hex : letterS hexL = ⟨#[72]⟩ := by decide
/-- an accepted text is its rule's, and the rule is right -/
theorem text_parse {s : List UInt8} {u : TotL} (h : parseL s = (u, 0)) : textL u = s ∧ rightT u = true := by
  obtain ⟨x, z, rfl, hf⟩ := parse_inv h
  rw [parse_form x z hf] at h
  obtain ⟨hx, -, ex⟩ := dig_full _ _ hf
  have hzt := digAsc_take z (-1)
  have hzl := digAsc_le z (-1)
  have hzf : (digAsc (-1) (z.take (digAsc (-1) z).length)).length = (z.take (digAsc (-1) z).length).length := by rw [hzt]; simp; omega
  obtain ⟨hz, -, ez⟩ := dig_full _ _ hzf
  rw [hzt] at ez
  have key : ∀ (hh : List (Int × Int)) (y : List UInt8), knownB hh = true → (letterS hh).data.toList = y → z.drop (digAsc (-1) z).length = y → fitR (digAsc (-1) x) (digAsc (-1) z) hh = (u, 0) → textL u = 66 :: (x ++ 47 :: 83 :: z) ∧ rightT u = true := by
    intro hh y hk hl hy hfit
    obtain ⟨rfl, a1, a2⟩ := fit_ok hfit
    have hr := right_of hk a1 a2
    refine ⟨?_, hr⟩
    unfold textL
    rw [hr]
    simp only [Bool.true_and]
    have e1 : (digAsc (-1) x).map digC = x := (congrArg (List.map digC) ex).trans (digs_back hx)
    have e2 : (digAsc (-1) z).map digC = z.take (digAsc (-1) z).length := (congrArg (List.map digC) ez).trans (digs_back hz)
    rw [if_pos (by rfl), hl, ← hy, e1, e2]
    simp [List.append_assoc]
  unfold tailT at h
  by_cases h0 : z.drop (digAsc (-1) z).length = []
  · rw [if_pos h0] at h
    exact key _ _ known_moore (by rw [letter_moore]) h0 h
  · rw [if_neg h0] at h
    by_cases h1 : z.drop (digAsc (-1) z).length = [86]
    · rw [if_pos h1] at h
      exact key _ _ known_neum (by rw [letter_neum]) h1 h
    · rw [if_neg h1] at h
      by_cases h2 : z.drop (digAsc (-1) z).length = [72]
      · rw [if_pos h2] at h
        exact key _ _ known_hex (by rw [letter_hex]) h2 h
      · rw [if_neg h2] at h
        have := congrArg Prod.snd h
        simp at this
theorem right_parts {t : TotL} (h : rightT t = true) : knownB t.hood = true ∧ asc (-1) ((t.hood.length : Int) - 1) t.birth = true ∧ asc (-1) ((t.hood.length : Int) - 1) t.survive = true := by
  unfold rightT at h
  simp only [Bool.and_eq_true] at h
  exact ⟨h.1.1.1.1, h.1.2, h.2⟩
theorem known_cases {h : List (Int × Int)} (hk : knownB h = true) : h = mooreL 1 ∨ h = neumL 1 ∨ h = hexL := by
  unfold knownB at hk
  simp only [Bool.or_eq_true, decide_eq_true_eq] at hk
  rcases hk with (hk | hk) | hk
  · exact .inl hk
  · exact .inr (.inl hk)
  · exact .inr (.inr hk)
/-- a rule comes back from its text -/
theorem parse_text {t : TotL} (hr : rightT t = true) (h2 : t.states = 2) : parseL (textL t) = (t, 0) := by
  obtain ⟨hk, a1, a2⟩ := right_parts hr
  have RS := right_spec hr
  obtain ⟨b1, b2⟩ := nums_back RS.2.2.2.1
  obtain ⟨c1, c2⟩ := nums_back RS.2.2.2.2.1
  have hl9 : (t.hood.length : Int) - 1 ≤ 9 := by have := RS.2.2.1; omega
  have hb : digAsc (-1) (t.birth.map digC) = t.birth := by rw [dig_full_of _ _ b1 (by rw [b2]; exact asc_mono hl9 a1), b2]
  have hc : digAsc (-1) (t.survive.map digC) = t.survive := by rw [dig_full_of _ _ c1 (by rw [c2]; exact asc_mono hl9 a2), c2]
  have et : textL t = 66 :: (t.birth.map digC ++ 47 :: 83 :: (t.survive.map digC ++ (letterS t.hood).data.toList)) := by
    unfold textL
    rw [hr, h2]
    simp
  have hf : (digAsc (-1) (t.birth.map digC)).length = (t.birth.map digC).length := by rw [hb]; simp
  rw [et, parse_form _ _ hf, hb]
  have key : ∀ y : List UInt8, (y = [] ∨ ∃ e, y = [e] ∧ isDig e = false) → digAsc (-1) (t.survive.map digC ++ y) = t.survive ∧ (t.survive.map digC ++ y).drop t.survive.length = y := by
    intro y hy
    refine ⟨?_, ?_⟩
    · rcases hy with rfl | ⟨e, rfl, he⟩
      · rw [List.append_nil, hc]
      · rw [digAsc_stop he [], hc]
    · have : t.survive.length = (t.survive.map digC).length := by simp
      rw [this, List.drop_left]
  have eta : (⟨t.hood, 2, t.birth, t.survive⟩ : TotL) = t := by rw [← h2]
  have fit : ∀ hh, t.hood = hh → fitR t.birth t.survive hh = (t, 0) := by
    rintro hh rfl
    unfold fitR
    rw [a1, a2, eta]; rfl
  rcases known_cases hk with e | e | e
  · obtain ⟨k1, k2⟩ := key [] (.inl rfl)
    rw [e, letter_moore, k1, k2]
    unfold tailT
    rw [if_pos rfl]
    exact fit _ e
  · obtain ⟨k1, k2⟩ := key [86] (.inr ⟨86, rfl, by decide⟩)
    rw [e, letter_neum, k1, k2]
    unfold tailT
    rw [if_neg (by simp), if_pos rfl]
    exact fit _ e
  · obtain ⟨k1, k2⟩ := key [72] (.inr ⟨72, rfl, by decide⟩)
    rw [e, letter_hex, k1, k2]
    unfold tailT
    rw [if_neg (by simp), if_neg (by decide), if_pos rfl]
    exact fit _ e
theorem text_some {t : TotL} (h : textL t ≠ []) : rightT t = true ∧ t.states = 2 := by
  unfold textL at h
  by_cases hc : (rightT t && (t.states == 2)) = true
  · simp only [Bool.and_eq_true, beq_iff_eq] at hc
    exact hc
  · rw [if_neg hc] at h
    exact absurd rfl h

theorem asc_pair : ∀ {zs : List Int} {last n : Int}, asc last n zs = true → zs.Pairwise (· < ·) ∧ ∀ z ∈ zs, last < z ∧ z ≤ n
  | [], _, _, _ => ⟨List.Pairwise.nil, by simp⟩
  | k :: zs, last, n, h => by
    have h' : (decide (last < k) && decide (k ≤ n) && asc k n zs) = true := h
    simp only [Bool.and_eq_true, decide_eq_true_eq] at h'
    obtain ⟨i1, i2⟩ := asc_pair h'.2
    refine ⟨List.Pairwise.cons (fun z hz => (i2 z hz).1) i1, fun z hz => ?_⟩
    rcases List.mem_cons.1 hz with rfl | hz
    · exact h'.1
    · have := i2 z hz; omega
theorem pair_asc : ∀ {zs : List Int} {last n : Int}, zs.Pairwise (· < ·) → (∀ z ∈ zs, last < z ∧ z ≤ n) → asc last n zs = true
  | [], _, _, _, _ => rfl
  | k :: zs, last, n, h, hb => by
    obtain ⟨h1, h2⟩ := List.pairwise_cons.1 h
    obtain ⟨b1, b2⟩ := hb k List.mem_cons_self
    show (decide (last < k) && decide (k ≤ n) && asc k n zs) = true
    rw [decide_eq_true b1, decide_eq_true b2, pair_asc h2 fun z hz => ⟨h1 z hz, (hb z (List.mem_cons_of_mem _ hz)).2⟩]; rfl
theorem sorted_ext : ∀ {xs ys : List Int}, xs.Pairwise (· < ·) → ys.Pairwise (· < ·) → (∀ z, z ∈ xs ↔ z ∈ ys) → xs = ys
  | [], [], _, _, _ => rfl
  | [], y :: ys, _, _, h => absurd ((h y).2 List.mem_cons_self) (by simp)
  | x :: xs, [], _, _, h => absurd ((h x).1 List.mem_cons_self) (by simp)
  | x :: xs, y :: ys, hx, hy, h => by
    obtain ⟨x1, x2⟩ := List.pairwise_cons.1 hx
    obtain ⟨y1, y2⟩ := List.pairwise_cons.1 hy
    have e : x = y := by
      rcases List.mem_cons.1 ((h x).1 List.mem_cons_self) with e | hm
      · exact e
      · rcases List.mem_cons.1 ((h y).2 List.mem_cons_self) with e | hm'
        · exact e.symm
        · have := x1 _ hm'; have := y1 _ hm; omega
    subst e
    rw [sorted_ext x2 y2 fun z => ⟨fun hz => ?_, fun hz => ?_⟩]
    · rcases List.mem_cons.1 ((h z).1 (List.mem_cons_of_mem _ hz)) with e | hm
      · have := x1 _ hz; omega
      · exact hm
    · rcases List.mem_cons.1 ((h z).2 (List.mem_cons_of_mem _ hz)) with e | hm
      · have := y1 _ hz; omega
      · exact hm
theorem mem_rngF {p : Int → Bool} {n : Nat} {z : Int} : z ∈ rngF p n ↔ (0 ≤ z ∧ z < n) ∧ p z = true := by
  unfold rngF
  rw [List.mem_filter, List.mem_map]
  constructor
  · rintro ⟨⟨i, hi, rfl⟩, h⟩
    rw [List.mem_range] at hi
    exact ⟨⟨by omega, by omega⟩, h⟩
  · rintro ⟨⟨h0, h1⟩, h⟩
    exact ⟨⟨z.toNat, by rw [List.mem_range]; omega, by omega⟩, h⟩
theorem rngF_sorted (p : Int → Bool) (n : Nat) : (rngF p n).Pairwise (· < ·) := by
  unfold rngF
  refine List.Pairwise.filter _ ?_
  rw [List.pairwise_map]
  exact List.Pairwise.imp (fun h => by omega) (List.pairwise_lt_range (n := n))
theorem rngF_asc (p : Int → Bool) (n : Nat) : asc (-1) ((n : Int) - 1) (rngF p n) = true :=
  pair_asc (rngF_sorted p n) fun z hz => by
    have := (mem_rngF.1 hz).1
    omega
theorem compl_right {t : TotL} (hr : rightT t = true) (h2 : t.states = 2) : rightT (complT t) = true := by
  obtain ⟨hk, -, -⟩ := right_parts hr
  unfold complT
  rw [h2]
  exact right_of hk (rngF_asc _ _) (rngF_asc _ _)
theorem back_list {n : Nat} {xs : List Int} (h : asc (-1) ((n : Int) - 1) xs = true) :
    rngF (fun k => !decide ((n : Int) - 1 - k ∈ rngF (fun j => !decide ((n : Int) - 1 - j ∈ xs)) n)) n = xs := by
  obtain ⟨h1, h2⟩ := asc_pair h
  refine sorted_ext (rngF_sorted _ _) h1 fun z => ?_
  rw [mem_rngF]
  constructor
  · rintro ⟨⟨z0, z1⟩, hp⟩
    simp only [Bool.not_eq_true', decide_eq_false_iff_not] at hp
    rw [mem_rngF] at hp
    by_cases hz : z ∈ xs
    · exact hz
    · exfalso
      apply hp
      refine ⟨⟨by omega, by omega⟩, ?_⟩
      have e : (n : Int) - 1 - ((n : Int) - 1 - z) = z := by omega
      rw [e]
      simp [hz]
  · intro hz
    have hb := h2 z hz
    refine ⟨⟨by omega, by omega⟩, ?_⟩
    simp only [Bool.not_eq_true', decide_eq_false_iff_not]
    rw [mem_rngF]
    rintro ⟨-, hp⟩
    have e : (n : Int) - 1 - ((n : Int) - 1 - z) = z := by omega
    rw [e] at hp
    simp [hz] at hp
theorem compl_back {t : TotL} (hr : rightT t = true) : complT (complT t) = t := by
  obtain ⟨-, a1, a2⟩ := right_parts hr
  unfold complT
  simp only []
  rw [back_list a1, back_list a2]
theorem compl_twice {t : TotL} (h : (complL t).2 = 0) : rightT t = true ∧ t.states = 2 ∧ complL t = (complT t, 0) ∧ complL (complT t) = (t, 0) := by
  unfold complL at h
  by_cases hc : (rightT t && (t.states == 2)) = true
  · have hc' := hc
    simp only [Bool.and_eq_true, beq_iff_eq] at hc
    have h2' : (complT t).states = 2 := hc.2
    refine ⟨hc.1, hc.2, by unfold complL; rw [if_pos hc'], ?_⟩
    unfold complL
    rw [compl_right hc.1 hc.2, h2', compl_back hc.1]
    rfl
  · rw [if_neg hc] at h
    simp at h
end Go.Proofs.Ytnobnlbjgaanmaa
