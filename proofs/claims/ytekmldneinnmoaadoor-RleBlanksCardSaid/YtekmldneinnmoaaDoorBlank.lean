/-
  Comment lines, and blanks and line feeds behind bytes that are no digits, change nothing. Plain.
-/
import Derived.Test.YtekmldneinnmoaaDoorTrip2
namespace Go.Proofs.YtekmldneinnmoaaDoor
open Go.RowKit
set_option maxRecDepth 100000
set_option linter.unusedVariables false
set_option linter.unusedSimpArgs false

def insX (f : Nat → Bool) (i : Nat) (c : UInt8) : List UInt8 := if isDig c = false ∧ f i = true then [32, 10] else []
def insB (f : Nat → Bool) : Nat → List UInt8 → List UInt8
  | _, [] => []
  | i, c :: r => c :: (insX f i c ++ insB f (i + 1) r)
theorem insB_snoc (f : Nat → Bool) : ∀ (a : List UInt8) (i : Nat) (c : UInt8), insB f i (a ++ [c]) = insB f i a ++ (c :: insX f (i + a.length) c)
  | [], i, c => by simp [insB]
  | b :: a, i, c => by
    rw [List.cons_append, insB, insB, insB_snoc f a (i + 1) c, List.length_cons, show i + 1 + a.length = i + (a.length + 1) by omega]
    simp [List.append_assoc]
theorem insB_len (f : Nat → Bool) : ∀ (a : List UInt8) (i : Nat), (insB f i a).length ≤ 3 * a.length
  | [], i => by simp [insB]
  | b :: a, i => by
    have := insB_len f a (i + 1)
    have h2 : (insX f i b).length ≤ 2 := by unfold insX; split <;> simp
    rw [insB, List.length_cons, List.length_append, List.length_cons]
    omega
theorem insX_read {w h : Int} (f : Nat → Bool) (i : Nat) (c : UInt8) (q : List UInt8) (s : PS) : readM w h (insX f i c ++ q) [] s = readM w h q [] s := by
  unfold insX
  split
  · show readM w h (32 :: 10 :: q) [] s = _
    rw [rd_blank (.inl rfl), rd_blank (.inr rfl)]
  · rfl
theorem ins_read {w h : Int} (f : Nat → Bool) : ∀ (r : List UInt8) (i : Nat) (ds : List UInt8) (s : PS), readM w h (insB f i r) ds s = readM w h r ds s
  | [], i, ds, s => rfl
  | c :: r, i, ds, s => by
    rw [insB]
    by_cases hd : isDig c = true
    · have hx : insX f i c = [] := by unfold insX; rw [if_neg (by rw [hd]; simp)]
      rw [hx, List.nil_append]
      by_cases h2 : (ds ++ [c]).headD 0 = 48 ∨ 7 ≤ ds.length
      · rw [rd_dig_bad hd h2, rd_dig_bad hd h2]
      · rw [rd_dig hd h2, rd_dig hd h2, ins_read f r]
    · have hd' : isDig c = false := by simpa using hd
      by_cases hb : ds = [] ∧ (c = 32 ∨ c = 10)
      · obtain ⟨rfl, hb⟩ := hb
        rw [rd_blank hb, rd_blank hb, insX_read, ins_read f r]
      · by_cases hs : ds = [] ∧ c = 33
        · obtain ⟨rfl, rfl⟩ := hs
          rw [rd_stop, rd_stop]
        · have h2 : ds = [] → ¬ (c = 32 ∨ c = 10) ∧ ¬ c = 33 := fun h => ⟨fun h3 => hb ⟨h, h3⟩, fun h3 => hs ⟨h, h3⟩⟩
          by_cases h3 : stateC c.toNat = -2
          · rw [rd_bad hd' h2 h3, rd_bad hd' h2 h3]
          · by_cases h4 : (stepP w h s (stateC c.toNat) (runN ds)).2 = 0
            · rw [rd_step hd' h2 h3 h4, rd_step hd' h2 h3 h4, insX_read, ins_read f r]
            · rw [rd_err hd' h2 h3 h4, rd_err hd' h2 h3 h4]
def cmL (rule : List UInt8) : List UInt8 := [35, 67, 32] ++ rule ++ [10, 35, 10]
theorem rule_no10 {rule : List UInt8} (hr : nameB rule = true) : ∀ c ∈ rule, c ≠ 10 := by
  intro c hc
  unfold nameB at hr
  simp only [Bool.and_eq_true, List.all_eq_true] at hr
  rintro rfl
  have := hr.1 10 hc
  revert this
  decide
theorem body_len {ps : List Cel} {rule B : List UInt8} (hr : rightC ps = true) (h8 : ps.length ≤ 800) (hB : fullT ps rule = preL (boxC ps).1.w (boxC ps).1.h rule ++ 10 :: B) : B.length ≤ 21603 := by
  have hsp := runs_spec ps
  have hits : ∀ x ∈ itemsL ps, x.length ≤ 8 := by
    intro x hx
    unfold itemsL at hx
    rw [List.mem_map] at hx
    obtain ⟨r, hr2, rfl⟩ := hx
    have h := (hsp.2.2 r hr2).1
    exact item_len _ r (by have := h.2.2.1; omega) (by have := h.2.2.2; omega)
  have h1 := wrap_len (headL (boxC ps).1 rule) (itemsL ps) hits
  have h2 : (itemsL ps).length ≤ 2400 := by
    unfold itemsL
    rw [List.length_map]
    have := hsp.1
    omega
  have h3 := put_len (wrapL (headL (boxC ps).1 rule) (itemsL ps)) [33]
  have h4 : (fullT ps rule).length ≤ (headL (boxC ps).1 rule).length + 9 * 2400 + 3 := by
    show (endL _).length ≤ _
    unfold endL
    rw [List.length_append, List.length_append]
    simp at h3 ⊢
    omega
  rw [hB, head_pre] at h4
  simp at h4
  omega
theorem pre_len {w h : Int} {rule : List UInt8} (h0 : 0 ≤ w) (h1 : w < 10000000) (h2 : 0 ≤ h) (h3 : h < 10000000) (hr : nameB rule = true) : (preL w h rule).length ≤ 133 ∧ rule.length ≤ 100 := by
  have hl : rule.length ≤ 100 := by unfold nameB at hr; simp only [Bool.and_eq_true, decide_eq_true_eq] at hr; omega
  have k1 := itoa_len w h0 h1
  have k2 := itoa_len h h2 h3
  refine ⟨?_, hl⟩
  unfold preL tx ty tr
  simp
  omega
theorem blanks {ps : List Cel} {rule B : List UInt8} (f : Nat → Bool) (h : (textL ps rule).2 = 0) (h8 : ps.length ≤ 800) (hB : fullT ps rule = preL (boxC ps).1.w (boxC ps).1.h rule ++ 10 :: B) :
    parseL (cmL rule ++ preL (boxC ps).1.w (boxC ps).1.h rule ++ insB f (preL (boxC ps).1.w (boxC ps).1.h rule).length (10 :: B)) = (ps.map (mv (boxC ps).1.x (boxC ps).1.y), rule, 0) ∧
    (cmL rule ++ preL (boxC ps).1.w (boxC ps).1.h rule ++ insB f (preL (boxC ps).1.w (boxC ps).1.h rule).length (10 :: B)).length ≤ 65536 := by
  obtain ⟨hr, hn, hw, hh, hl, ht⟩ := text_ok h
  have hp := bx_pos ps
  obtain ⟨B', hB', hR⟩ := full_split (rule := rule) hr
  rw [hB] at hB'
  have hBB := List.append_cancel_left hB'
  injection hBB with _ hBB
  subst hBB
  have hbl := body_len hr h8 hB
  have hpl := pre_len (rule := rule) hp.1 (show (boxC ps).1.w < 10000000 by omega) hp.2 (show (boxC ps).1.h < 10000000 by omega) hn
  have hpn := pre_no10 hp.1 (show (boxC ps).1.w < 10000000 by omega) hp.2 (show (boxC ps).1.h < 10000000 by omega) hn
  have hhp := hdr_pre rule hp.1 (show (boxC ps).1.w < 10000000 by omega) hp.2 (show (boxC ps).1.h < 10000000 by omega)
  obtain ⟨pre, hpre⟩ : ∃ p, p = preL (boxC ps).1.w (boxC ps).1.h rule := ⟨_, rfl⟩
  have h120 : pre.head? = some 120 := by rw [hpre]; rfl
  rw [← hpre] at hpl hpn hhp ⊢
  obtain ⟨n, hnn⟩ : ∃ n, n = pre.length := ⟨_, rfl⟩
  rw [← hnn]
  have hlen : (cmL rule ++ pre ++ insB f n (10 :: B)).length ≤ 65536 := by
    have h1 := insB_len f (10 :: B) n
    rw [List.length_cons] at h1
    unfold cmL
    simp
    omega
  refine ⟨?_, hlen⟩
  have hsk : skipC (cmL rule ++ pre ++ insB f n (10 :: B)) = pre ++ insB f n (10 :: B) := by
    have e1 : cmL rule ++ pre ++ insB f n (10 :: B) = ([35, 67, 32] ++ rule) ++ 10 :: ([35] ++ 10 :: (pre ++ insB f n (10 :: B))) := by unfold cmL; simp [List.append_assoc]
    have n1 : ∀ c ∈ [35, 67, 32] ++ rule, c ≠ 10 := by
      intro c hc
      rw [List.mem_append] at hc
      rcases hc with hc | hc
      · revert c; decide
      · exact rule_no10 hn c hc
    rw [e1, skipC_yes (by rfl), (line_app _ _ n1).2, skipC_yes (by rfl), (line_app _ _ (by decide)).2]
    refine skipC_no ?_
    rw [List.head?_append, h120]
    simp
  have hins : insB f n (10 :: B) = 10 :: (insX f n 10 ++ insB f (n + 1) B) := rfl
  have hl2 := line_app pre (insX f n 10 ++ insB f (n + 1) B) hpn
  unfold parseL
  rw [if_neg (by omega), hsk, hins, hl2.1, hl2.2, hhp]
  dsimp only
  rw [if_neg (by rw [hn]; simp), if_neg (by omega), insX_read, ins_read, hR, if_neg (by simp)]
end Go.Proofs.YtekmldneinnmoaaDoor
