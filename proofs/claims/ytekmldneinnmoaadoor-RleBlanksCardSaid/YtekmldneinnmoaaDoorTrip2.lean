/-
  Parse of Text: the pattern moved home, and the name. Plain.
-/
import Derived.Test.YtekmldneinnmoaaDoorTrip
namespace Go.Proofs.YtekmldneinnmoaaDoor
open Go.RowKit
set_option maxRecDepth 100000
set_option linter.unusedVariables false
set_option linter.unusedSimpArgs false

theorem wrap_inv {w h : Int} {two : Bool} {l : List (Int × Int)} (hd : List UInt8) (hl : ∀ r ∈ l, -1 ≤ r.2 ∧ r.2 ≤ 7 ∧ (two = true → r.2 ≤ 1) ∧ 1 ≤ r.1 ∧ r.1 < 10000000)
    (hin : ∀ c ∈ (exL ps0 l).out, c.x < w ∧ c.y < h) (hn : (exL ps0 l).out.length ≤ 5000) : ∀ k, k ≤ l.length → ∃ B, (wrapL hd ((l.map (itemC two)).take k)).1 ++ (wrapL hd ((l.map (itemC two)).take k)).2 = hd ++ B ∧ ∀ r, readM w h (B ++ r) [] ps0 = readM w h r [] (exL ps0 (l.take k)) := by
  intro k
  induction k with
  | zero => intro _; exact ⟨[], by simp [wrapL], fun r => rfl⟩
  | succ k ih =>
    intro hk
    obtain ⟨B, hB, hR⟩ := ih (by omega)
    have hkl : k < l.length := by omega
    have hki : k < (l.map (itemC two)).length := by rw [List.length_map]; exact hkl
    have hr := hl l[k] (List.getElem_mem hkl)
    have hrest : exL (exL ps0 (l.take k)) (l[k] :: l.drop (k + 1)) = exL ps0 l := by
      rw [← List.drop_eq_getElem_cons hkl]
      unfold exL
      rw [← List.foldl_append, List.take_append_drop]
    have hstep : stepP w h (exL ps0 (l.take k)) l[k].2 l[k].1 = (ex (exL ps0 (l.take k)) l[k], 0) := ex_ok hr.2.2.2.1 (by rw [hrest]; exact hin) (by rw [hrest]; exact hn)
    have hex : exL ps0 (l.take (k + 1)) = ex (exL ps0 (l.take k)) l[k] := by rw [List.take_succ_eq_append_getElem hkl, exL_snoc]
    have hit := fun r => item_read (r := r) (two := two) hr.1 hr.2.1 hr.2.2.1 hr.2.2.2.1 hr.2.2.2.2 hstep
    have hgi : (l.map (itemC two))[k] = itemC two (l[k].1, l[k].2) := by rw [List.getElem_map]
    rw [wrap_snoc hd hki, hgi, hex]
    by_cases hp : 70 < (wrapL hd ((l.map (itemC two)).take k)).2.length + (itemC two (l[k].1, l[k].2)).length
    · rw [put_yes hp]
      refine ⟨B ++ [10] ++ itemC two (l[k].1, l[k].2), ?_, fun r => ?_⟩
      · dsimp only
        rw [hB]
        simp [List.append_assoc]
      · rw [List.append_assoc, List.append_assoc, hR]
        show readM w h (10 :: (itemC two (l[k].1, l[k].2) ++ r)) [] _ = _
        rw [rd_blank (.inr rfl), hit]
    · rw [put_no hp]
      refine ⟨B ++ itemC two (l[k].1, l[k].2), ?_, fun r => ?_⟩
      · dsimp only
        rw [← List.append_assoc, hB, List.append_assoc]
      · rw [List.append_assoc, hR, hit]
theorem end_inv {w h : Int} {two : Bool} {l : List (Int × Int)} (hd : List UInt8) (hl : ∀ r ∈ l, -1 ≤ r.2 ∧ r.2 ≤ 7 ∧ (two = true → r.2 ≤ 1) ∧ 1 ≤ r.1 ∧ r.1 < 10000000)
    (hin : ∀ c ∈ (exL ps0 l).out, c.x < w ∧ c.y < h) (hn : (exL ps0 l).out.length ≤ 5000) : ∃ B, endL (wrapL hd (l.map (itemC two))) = hd ++ B ∧ readM w h B [] ps0 = ((exL ps0 l).out, 0) := by
  obtain ⟨B, hB, hR⟩ := wrap_inv hd hl hin hn l.length (Nat.le_refl _)
  have ht : (l.map (itemC two)).take l.length = l.map (itemC two) := List.take_of_length_le (by rw [List.length_map]; exact Nat.le_refl _)
  rw [ht] at hB
  rw [List.take_length] at hR
  unfold endL
  by_cases hp : 70 < (wrapL hd (l.map (itemC two))).2.length + ([33] : List UInt8).length
  · rw [put_yes hp]
    refine ⟨B ++ [10, 33, 10], ?_, ?_⟩
    · dsimp only
      rw [hB]
      simp [List.append_assoc]
    · rw [hR]
      rw [rd_blank (.inr rfl), rd_stop]
  · rw [put_no hp]
    refine ⟨B ++ [33, 10], ?_, ?_⟩
    · dsimp only
      rw [← List.append_assoc, hB]
      simp [List.append_assoc]
    · rw [hR, rd_stop]
theorem line_app : ∀ (a b : List UInt8), (∀ c ∈ a, c ≠ 10) → lineOf (a ++ 10 :: b) = a ∧ afterLine (a ++ 10 :: b) = b
  | [], b, _ => by
    have : lineOf ([] ++ 10 :: b) = [] := by unfold lineOf; rw [List.nil_append, List.takeWhile_cons, if_neg (by decide)]
    refine ⟨this, ?_⟩
    unfold afterLine
    rw [this]
    rfl
  | c :: a, b, h => by
    have hc : (c != 10) = true := by simpa using h c List.mem_cons_self
    obtain ⟨h1, h2⟩ := line_app a b (fun x hx => h x (List.mem_cons_of_mem _ hx))
    have e : lineOf (c :: a ++ 10 :: b) = c :: a := by
      unfold lineOf at *
      rw [List.cons_append, List.takeWhile_cons, if_pos hc, h1]
    refine ⟨e, ?_⟩
    unfold afterLine at *
    rw [e]
    rw [h1] at h2
    simp
theorem run_app : ∀ (ds : List UInt8) (c : UInt8) (r : List UInt8), (∀ x ∈ ds, isDig x = true) → isDig c = false → digRun (ds ++ c :: r) = ds
  | [], c, r, _, hc => by simp [digRun, hc]
  | d :: ds, c, r, h, hc => by
    have hd := h d List.mem_cons_self
    have ih := run_app ds c r (fun x hx => h x (List.mem_cons_of_mem _ hx)) hc
    rw [List.cons_append]
    simp only [digRun, hd, if_true, ih]
theorem strip_self (t x : List UInt8) : stripL t (t ++ x) = some x := by
  unfold stripL
  rw [if_pos (by rw [List.isPrefixOf_iff_prefix]; exact List.prefix_append t x), List.drop_left]
theorem itoa_ok {n : Int} (h0 : 0 ≤ n) (h1 : n < 10000000) : (∀ c ∈ Lib.itoa n, isDig c = true) ∧ numL (Lib.itoa n) = n ∧ okN 9 (Lib.itoa n) = true := by
  have hl := itoa_len n h0 h1
  obtain ⟨m, hm⟩ : ∃ m : Nat, n = (m : Int) := ⟨n.toNat, by omega⟩
  subst hm
  rw [itoa_nat] at hl ⊢
  refine ⟨dec_dig m, dec_num m, ?_⟩
  unfold okN
  rw [decide_eq_true (dec_ne m), decide_eq_true (show (Lib.decDigits m).length ≤ 9 by omega)]
  by_cases h2 : 1 < (Lib.decDigits m).length
  · have h3 : ¬ m < 10 := fun h => by rw [dec_small h] at h2; simp at h2
    have h4 := dec_head m (by omega)
    rw [show ((Lib.decDigits m).headD 0 == 48) = false by simpa using h4]
    simp
  · rw [decide_eq_false h2]
    simp
def preL (w h : Int) (rule : List UInt8) : List UInt8 := tx ++ (Lib.itoa w ++ (ty ++ (Lib.itoa h ++ (tr ++ rule))))
theorem hdr_pre {w h : Int} (rule : List UInt8) (h0 : 0 ≤ w) (h1 : w < 10000000) (h2 : 0 ≤ h) (h3 : h < 10000000) : hdrL (preL w h rule) = some (w, h, rule) := by
  have k1 := itoa_ok h0 h1
  have k2 := itoa_ok h2 h3
  unfold hdrL preL
  rw [show stripL [120, 32, 61, 32] (tx ++ (Lib.itoa w ++ (ty ++ (Lib.itoa h ++ (tr ++ rule))))) = some (Lib.itoa w ++ (ty ++ (Lib.itoa h ++ (tr ++ rule)))) from strip_self tx _]
  dsimp only
  have r1 : digRun (Lib.itoa w ++ (ty ++ (Lib.itoa h ++ (tr ++ rule)))) = Lib.itoa w := run_app (Lib.itoa w) 44 _ k1.1 (by decide)
  rw [r1, if_neg (by rw [k1.2.2]; simp), List.drop_left]
  rw [show stripL [44, 32, 121, 32, 61, 32] (ty ++ (Lib.itoa h ++ (tr ++ rule))) = some (Lib.itoa h ++ (tr ++ rule)) from strip_self ty _]
  dsimp only
  have r2 : digRun (Lib.itoa h ++ (tr ++ rule)) = Lib.itoa h := run_app (Lib.itoa h) 44 _ k2.1 (by decide)
  rw [r2, if_neg (by rw [k2.2.2]; simp), List.drop_left]
  rw [show stripL [44, 32, 114, 117, 108, 101, 32, 61, 32] (tr ++ rule) = some rule from strip_self tr _]
  dsimp only
  rw [k1.2.1, k2.2.1]
theorem pre_no10 {w h : Int} {rule : List UInt8} (h0 : 0 ≤ w) (h1 : w < 10000000) (h2 : 0 ≤ h) (h3 : h < 10000000) (hr : nameB rule = true) : ∀ c ∈ preL w h rule, c ≠ 10 := by
  have k1 := (itoa_ok h0 h1).1
  have k2 := (itoa_ok h2 h3).1
  have hdg : ∀ c : UInt8, isDig c = true → c ≠ 10 := fun c h => by rintro rfl; revert h; decide
  have hru : ∀ c ∈ rule, c ≠ 10 := by
    intro c hc
    unfold nameB at hr
    simp only [Bool.and_eq_true, List.all_eq_true] at hr
    rintro rfl
    have := hr.1 10 hc
    revert this
    decide
  intro c hc
  unfold preL at hc
  simp only [List.mem_append] at hc
  rcases hc with hc | hc | hc | hc | hc | hc
  · revert c; decide
  · exact hdg c (k1 c hc)
  · revert c; decide
  · exact hdg c (k2 c hc)
  · revert c; decide
  · exact hru c hc
theorem head_pre (b : Bx) (rule : List UInt8) : headL b rule = preL b.w b.h rule ++ [10] := by
  unfold headL preL tx ty tr
  simp only [List.append_assoc]
theorem full_split {ps : List Cel} {rule : List UInt8} (hr : rightC ps = true) : ∃ B, fullT ps rule = preL (boxC ps).1.w (boxC ps).1.h rule ++ 10 :: B ∧ readM (boxC ps).1.w (boxC ps).1.h B [] ps0 = (ps.map (mv (boxC ps).1.x (boxC ps).1.y), 0) := by
  have hsp := runs_spec ps
  have hout : (exL ps0 (runsL ps)).out = ps.map (mv (boxC ps).1.x (boxC ps).1.y) := by
    cases hb : (boxC ps).2
    · have he : ps = [] := by
        refine Classical.byContradiction fun hne => ?_
        unfold boxC at hb
        rw [if_pos ⟨hne, hr⟩] at hb
        cases hb
      subst he
      rfl
    · exact runs_home hb
  have hlen : ps.length ≤ 5000 := by unfold rightC at hr; simp only [Bool.and_eq_true, decide_eq_true_eq] at hr; exact hr.1
  have hin : ∀ c ∈ (exL ps0 (runsL ps)).out, c.x < (boxC ps).1.w ∧ c.y < (boxC ps).1.h := by
    rw [hout]
    intro c hc
    rw [List.mem_map] at hc
    obtain ⟨d, hd, rfl⟩ := hc
    have hne : ps ≠ [] := by rintro rfl; cases hd
    have hch : chainB none ps = true := by unfold rightC at hr; simp only [Bool.and_eq_true] at hr; exact hr.2
    obtain ⟨j, hj, rfl⟩ := List.mem_iff_getElem.1 hd
    have h1 := hi_ge (·.x) (ps := ps) ps.length j hj (Nat.le_refl _)
    have h2 := chain_last hch _ (List.getElem_mem hj)
    unfold boxC mv
    rw [if_pos ⟨hne, hr⟩]
    dsimp only at h1 h2 ⊢
    unfold lstC
    omega
  obtain ⟨B, hB, hR⟩ := end_inv (two := decide (topC ps ≤ 1)) (headL (boxC ps).1 rule) (l := runsL ps) (w := (boxC ps).1.w) (h := (boxC ps).1.h) (by
    intro r hr2
    have h := hsp.2.2 r hr2
    refine ⟨h.1.1, h.2, fun h2 => ?_, h.1.2.2.1, by have := h.1.2.2.2; omega⟩
    have h3 := h.1.2.1
    have h4 : topC ps ≤ 1 := by simpa using h2
    omega) hin (by rw [hout, List.length_map]; exact hlen)
  refine ⟨B, ?_, by rw [hR, hout]⟩
  show endL (wrapL (headL (boxC ps).1 rule) ((runsL ps).map (itemC (decide (topC ps ≤ 1))))) = _
  rw [hB, head_pre, List.append_assoc]
  rfl
theorem text_ok {ps : List Cel} {rule : List UInt8} (h : (textL ps rule).2 = 0) : rightC ps = true ∧ nameB rule = true ∧ (boxC ps).1.w ≤ 1048577 ∧ (boxC ps).1.h ≤ 1048577 ∧ (fullT ps rule).length ≤ 65536 ∧ (textL ps rule).1 = fullT ps rule := by
  unfold textL at *
  by_cases h1 : rightC ps = false
  · rw [if_pos h1] at h; cases h
  rw [if_neg h1] at h ⊢
  by_cases h2 : nameB rule = false
  · rw [if_pos h2] at h; cases h
  rw [if_neg h2] at h ⊢
  by_cases h3 : 1048577 < (boxC ps).1.w ∨ 1048577 < (boxC ps).1.h
  · rw [if_pos h3] at h; cases h
  rw [if_neg h3] at h ⊢
  by_cases h4 : 65536 < (fullT ps rule).length
  · rw [if_pos h4] at h; cases h
  rw [if_neg h4]
  exact ⟨by simpa using h1, by simpa using h2, by omega, by omega, by omega, rfl⟩
theorem bx_pos (ps : List Cel) : 0 ≤ (boxC ps).1.w ∧ 0 ≤ (boxC ps).1.h := by
  unfold boxC
  split
  · rename_i hc
    obtain ⟨hne, hr⟩ := hc
    have hch : chainB none ps = true := by unfold rightC at hr; simp only [Bool.and_eq_true] at hr; exact hr.2
    have hmem : hdC ps ∈ ps := by
      cases ps with
      | nil => exact absurd rfl hne
      | cons a l => exact List.mem_cons_self
    have h2 := chain_last hch _ hmem
    obtain ⟨j, hj, hd⟩ := List.mem_iff_getElem.1 hmem
    have h3 := hi_ge (·.x) (ps := ps) ps.length j hj (Nat.le_refl _)
    have h4 := lo_le (f := (·.x)) (ps := ps) ps.length j hj (Nat.le_refl _)
    dsimp only at h3 h4 ⊢
    unfold lstC
    omega
  · exact ⟨by decide, by decide⟩
theorem trip {ps : List Cel} {rule : List UInt8} (h : (textL ps rule).2 = 0) : parseL (textL ps rule).1 = (ps.map (mv (boxC ps).1.x (boxC ps).1.y), rule, 0) := by
  obtain ⟨hr, hn, hw, hh, hl, ht⟩ := text_ok h
  have hp := bx_pos ps
  obtain ⟨B, hB, hR⟩ := full_split (rule := rule) hr
  rw [ht]
  have hl2 := line_app (preL (boxC ps).1.w (boxC ps).1.h rule) B (pre_no10 hp.1 (by omega) hp.2 (by omega) hn)
  have hsk : skipC (fullT ps rule) = fullT ps rule := skipC_no (by rw [hB]; unfold preL tx; simp)
  unfold parseL
  rw [if_neg (by omega), hsk, hB, hl2.1, hl2.2, hdr_pre rule hp.1 (by omega) hp.2 (by omega)]
  dsimp only
  rw [if_neg (by rw [hn]; simp), if_neg (by omega), hR, if_neg (by simp)]
end Go.Proofs.YtekmldneinnmoaaDoor
