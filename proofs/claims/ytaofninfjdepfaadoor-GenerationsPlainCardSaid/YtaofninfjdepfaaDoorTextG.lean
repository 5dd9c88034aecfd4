/-
  generations.Text: a rule by counts as a text. No condition.
-/
import Derived.Test.YtaofninfjdepfaaDoorText
import Derived.Test.YtaofninfjdepfaaDoorNext
import Derived.Test.YtaofninfjdepfaaDoorShelf
namespace Go.Proofs.YtaofninfjdepfaaDoor
open Go.RowKit
set_option maxRecDepth 100000
set_option linter.unusedVariables false
set_option linter.unusedSimpArgs false

/-- the plain rule's text, without its letter -/
def bodyP (t : TotL) : List UInt8 := [66] ++ t.birth.map digC ++ [47, 83] ++ t.survive.map digC
def textG (t : TotL) : List UInt8 := if rightT t = true ∧ t.states ≠ 2 then bodyP t ++ [47, 67] ++ [digC t.states] ++ (letterS t.hood).data.toList else []
theorem right_plain {t : TotL} (h : rightT t = true) : rightT ⟨t.hood, 2, t.birth, t.survive⟩ = true := by
  unfold rightT at *
  simp only [Bool.and_eq_true, decide_eq_true_eq] at *
  exact ⟨⟨⟨⟨h.1.1.1.1, by omega⟩, by omega⟩, h.1.2⟩, h.2⟩
theorem text_plain {t : TotL} (h : rightT t = true) : textL (plainT t) = bodyP t ++ (letterS t.hood).data.toList := by
  unfold plainT
  rw [if_pos h]
  unfold textL bodyP
  rw [right_plain h]
  simp
theorem bodyP_len {t : TotL} (h : rightT t = true) : (bodyP t).length ≤ 30 := by
  have := (right_spec h).2.2.2.2.2
  unfold bodyP
  simp
  omega
/-- the last byte of a plain text, where it has no letter, is a digit or 'S' -/
theorem bodyP_last {t : TotL} (h : rightT t = true) : ∃ l x, bodyP t = l ++ [x] ∧ x ≠ 86 ∧ x ≠ 72 := by
  have hs := (right_spec h).2.2.2.2.1
  rcases List.eq_nil_or_concat t.survive with h0 | ⟨l, z, h0⟩
  · refine ⟨[66] ++ t.birth.map digC ++ [47], 83, ?_, by decide, by decide⟩
    unfold bodyP
    simp [h0]
  · rw [List.concat_eq_append] at h0
    have hz := hs z (by rw [h0]; simp)
    have hv := digC_val hz.1 (by omega)
    refine ⟨[66] ++ t.birth.map digC ++ [47, 83] ++ l.map digC, digC z, ?_, ?_, ?_⟩
    · unfold bodyP
      simp [h0]
    · intro he
      rw [he] at hv
      simp at hv
      omega
    · intro he
      rw [he] at hv
      simp at hv
      omega
theorem bytes_eq {a b : ByteArray} (h : a.data.toList = b.data.toList) : a = b := by
  apply ByteArray.ext
  exact Array.toList_inj.1 h
theorem letter_cases (ps : List (Int × Int)) : letterS ps = ⟨#[]⟩ ∨ letterS ps = ⟨#[86]⟩ ∨ letterS ps = ⟨#[72]⟩ := by
  unfold letterS
  split
  · exact .inl rfl
  · split
    · exact .inr (.inl rfl)
    · split
      · exact .inr (.inr rfl)
      · exact .inl rfl
set_option maxHeartbeats 2000000 in
theorem gtext_any (A B C : Option Addr) (a b c : Nat) (t : TotL) (w : World) (ht : TotR w A B C t) :
    Calls Tryd.prog 14 #[totV A a B b C c t] w fun e w' => e = .returned (.string ⟨(textG t).toArray⟩) ∧ Below w.heap.size w w' := by
  have hb0 := below_new w (.cells #[.slice A t.hood.length a, .int .i64 t.states, .slice B t.birth.length b, .slice C t.survive.length c] 26)
  have X1 := Lib.hid (Box.new ht a b c)
  have HR := Lib.hid (right_any A B C a b c t _ X1.out.tot)
  cases k1 : rightT t
  · have e1 : textG t = [] := by unfold textG; rw [k1]; rfl
    rw [e1]
    rw [k1] at HR
    unfold totV at *
    clear k1 e1
    go_enter Tryd.func14, Tryd.ntmps14
    go_wp2_with fail
    refine HR.out.mono ?_
    rintro e w1 ⟨rfl, hb1⟩
    have hb2 := hb0.trans (hb1.mono hb0.size)
    go_wp2
    go_ret
    exact ⟨rfl, hb2⟩
  rw [k1] at HR
  have rs := right_states k1
  by_cases k2 : t.states = 2
  · have e1 : textG t = [] := by unfold textG; rw [if_neg (by rintro ⟨_, h⟩; exact h k2)]
    have d2 : decide (t.states < 3) = true := by simp [k2]
    rw [e1]
    unfold totV at *
    clear k1 e1 k2 rs
    go_enter Tryd.func14, Tryd.ntmps14
    go_wp2_with fail
    refine HR.out.mono ?_
    rintro e w1 ⟨rfl, hb1⟩
    have hb2 := hb0.trans (hb1.mono hb0.size)
    have X2 := Lib.hid (X1.out.ext hb1)
    have y1 := X2.out.c1
    go_wp2
    go_ret
    exact ⟨rfl, hb2⟩
  have e1 : textG t = bodyP t ++ [47, 67] ++ [digC t.states] ++ (letterS t.hood).data.toList := by
    unfold textG
    rw [if_pos ⟨k1, k2⟩]
  have d2 : decide (t.states < 3) = false := by simp; omega
  have HP := Lib.hid (text_plain k1)
  have HL := Lib.hid (bodyP_last k1)
  have HN := Lib.hid (bodyP_len k1)
  have HS : Hid (3 ≤ t.states ∧ t.states ≤ 8) := Lib.hid (by omega)
  have HX : Hid (rightT t = true) := Lib.hid k1
  rw [e1]
  clear e1 k2 rs k1
  have WP := fun (w : World) (h : TotR w A B C t) => plain_any A B C a b c t w h
  have HWP := Lib.hid WP
  unfold totV at *
  clear WP
  go_enter Tryd.func14, Tryd.ntmps14
  go_wp2_with fail
  refine HR.out.mono ?_
  rintro e w1 ⟨rfl, hb1⟩
  have HB2 := Lib.hid (hb0.trans (hb1.mono hb0.size))
  have X2 := Lib.hid (X1.out.ext hb1)
  have y0 := X2.out.c0
  have y1 := X2.out.c1
  have y2 := X2.out.c2
  have y3 := X2.out.c3
  clear hb1 hb0 X1 HR
  go_wp2_with fail
  refine (HWP.out _ X2.out.tot).mono ?_
  rintro e w2 ⟨⟨A', a', B', b', C', c', rfl, htp⟩, hb2⟩
  have HB3 := Lib.hid (HB2.out.trans (hb2.mono HB2.out.size))
  have X3 := Lib.hid (X2.out.ext hb2)
  have y1 := X3.out.c1
  have HTP := Lib.hid htp
  clear y0 y2 y3 X2 HWP hb2 htp HB2
  dsimp only [totV]
  go_wp2_with fail
  refine (text_any A' B' C' a' b' c' _ _ HTP.out).mono ?_
  rintro e w3 ⟨rfl, hb3⟩
  have HB4 := Lib.hid (HB3.out.trans (hb3.mono HB3.out.size))
  have X4 := Lib.hid (X3.out.ext hb3)
  have y1 := X4.out.c1
  rw [HP.out]
  clear X3 hb3 HB3 HTP
  obtain ⟨l, hl⟩ : ∃ l, l = bodyP t := ⟨_, rfl⟩
  rw [← hl] at HN HL ⊢
  have HB := Lib.hid hl
  clear hl
  have hI := Tryd.strconv_Itoa_small t.states.toNat (by have := HS.out; omega)
  rw [show ((t.states.toNat : Nat) : Int) = t.states from by have := HS.out; omega] at hI
  rw [show Lib.decDigits t.states.toNat = [digC t.states] from by
    have := HS.out
    unfold Lib.decDigits digC
    rw [dif_pos (by omega)]
    congr 2
    omega] at hI
  have HI := Lib.hid hI
  clear hI
  rcases letter_cases t.hood with hl | hl | hl
  · rw [hl]
    have HLL := Lib.hid hl
    clear hl
    obtain ⟨p, x, hp, hx86, hx72⟩ := HL.out
    obtain ⟨m, hm⟩ : ∃ m, m = p.length := ⟨_, rfl⟩
    have hlen : l.length = m + 1 := by rw [hp, hm]; simp
    have hm30 : m ≤ 30 := by have := HN.out; omega
    have hw : wrap64 (↑l.length - 1) = (m : Int) := by rw [hlen]; unfold wrap64; omega
    have hle : (m : Int) ≤ (l.length : Int) := by rw [hlen]; omega
    have hx : (⟨l.toArray⟩ : ByteArray).extract m l.length = ⟨#[x]⟩ := by
      apply bytes_eq
      rw [Lib.extract_data, hp, hm]
      simp
    have hz : (⟨#[x]⟩ : ByteArray).toList = [x] := by rw [Lib.toList_data]
    have f1 : (x == 86) = false := by simpa using hx86
    have f2 : (x == 72) = false := by simpa using hx72
    have hf2 : l ++ (⟨#[]⟩ : ByteArray).data.toList = l := by simp
    rw [hf2]
    obtain ⟨s1, q1⟩ : ∃ s1, s1 = l ++ [47, 67] := ⟨_, rfl⟩
    obtain ⟨s2, q2⟩ : ∃ s2, s2 = s1 ++ [digC t.states] := ⟨_, rfl⟩
    have sum : ∀ (x y z : List UInt8), z = x ++ y → x.length ≤ 100 → y.length ≤ 100 → ∀ w, (Op.stringOp .add ⟨x.toArray⟩ ⟨y.toArray⟩).run Tryd.prog w = .ok (.string ⟨z.toArray⟩) w := by
      intro x y z hz h1 h2 w
      rw [run_string_add_sum (P := Tryd.prog) w _ _ (by simp [ByteArray.size]; omega), text_end, hz]
    have n1 : s1.length = m + 3 := by rw [q1]; simp [hlen]
    have n2 : s2.length = m + 4 := by rw [q2]; simp [n1]
    have a1 := sum l [47, 67] s1 q1 (by omega) (by simp)
    have a2 := sum s1 [digC t.states] s2 q2 (by omega) (by simp)
    have a3 := sum s2 [] s2 (by simp) (by omega) (by simp)
    have HQ : Hid (s2 = l ++ [47, 67] ++ [digC t.states]) := Lib.hid (by rw [q2, q1])
    clear sum q1 q2 n1 n2 hp hm hlen hm30 hf2
    go_wp2_with fail
    refine (HI.out _).mono ?_
    rintro e w' ⟨rfl, hw'⟩
    have hw3 := hw'.symm
    clear hw'
    subst hw3
    go_wp2
    go_ret
    exact ⟨ret_string (by rw [HQ.out, HB.out, HLL.out]; simp), HB4.out⟩
  · rw [hl]
    have HLL := Lib.hid hl
    clear hl
    obtain ⟨f, hf⟩ : ∃ f, f = l ++ [86] := ⟨_, rfl⟩
    obtain ⟨m, hm⟩ : ∃ m, m = l.length := ⟨_, rfl⟩
    have hlen : f.length = m + 1 := by rw [hf, hm]; simp
    have hm30 : m ≤ 30 := by rw [hm]; exact HN.out
    have hw : wrap64 (↑f.length - 1) = (m : Int) := by rw [hlen]; unfold wrap64; omega
    have hle : (m : Int) ≤ (f.length : Int) := by rw [hlen]; omega
    have hx : (⟨f.toArray⟩ : ByteArray).extract m f.length = ⟨#[86]⟩ := by
      apply bytes_eq
      rw [Lib.extract_data, hf, hm]
      simp
    have hy : (⟨f.toArray⟩ : ByteArray).extract 0 m = ⟨l.toArray⟩ := by
      apply bytes_eq
      rw [Lib.extract_data, hf, hm]
      simp
    have hz : (⟨#[86]⟩ : ByteArray).toList = [86] := by rw [Lib.toList_data]
    have hf2 : l ++ (⟨#[86]⟩ : ByteArray).data.toList = f := hf.symm
    rw [hf2]
    obtain ⟨s1, q1⟩ : ∃ s1, s1 = l ++ [47, 67] := ⟨_, rfl⟩
    obtain ⟨s2, q2⟩ : ∃ s2, s2 = s1 ++ [digC t.states] := ⟨_, rfl⟩
    have sum : ∀ (x y z : List UInt8), z = x ++ y → x.length ≤ 100 → y.length ≤ 100 → ∀ w, (Op.stringOp .add ⟨x.toArray⟩ ⟨y.toArray⟩).run Tryd.prog w = .ok (.string ⟨z.toArray⟩) w := by
      intro x y z hz h1 h2 w
      rw [run_string_add_sum (P := Tryd.prog) w _ _ (by simp [ByteArray.size]; omega), text_end, hz]
    have n1 : s1.length = m + 2 := by rw [q1, hm]; simp
    have n2 : s2.length = m + 3 := by rw [q2]; simp [n1]
    have a1 := sum l [47, 67] s1 q1 (by omega) (by simp)
    have a2 := sum s1 [digC t.states] s2 q2 (by omega) (by simp)
    have a3 := sum s2 [86] (s2 ++ [86]) rfl (by omega) (by simp)
    have HQ : Hid (s2 = l ++ [47, 67] ++ [digC t.states]) := Lib.hid (by rw [q2, q1])
    obtain ⟨s3, q3⟩ : ∃ s3, s3 = s2 ++ [86] := ⟨_, rfl⟩
    rw [← q3] at a3
    have HQ3 := Lib.hid q3
    clear sum q1 q2 q3 n1 n2 hf hf2 hm hlen hm30
    go_wp2_with fail
    refine (HI.out _).mono ?_
    rintro e w' ⟨rfl, hw'⟩
    have hw3 := hw'.symm
    clear hw'
    subst hw3
    go_wp2
    go_ret
    exact ⟨ret_string (by rw [HQ3.out, HQ.out, HB.out, HLL.out]), HB4.out⟩
  · rw [hl]
    have HLL := Lib.hid hl
    clear hl
    obtain ⟨f, hf⟩ : ∃ f, f = l ++ [72] := ⟨_, rfl⟩
    obtain ⟨m, hm⟩ : ∃ m, m = l.length := ⟨_, rfl⟩
    have hlen : f.length = m + 1 := by rw [hf, hm]; simp
    have hm30 : m ≤ 30 := by rw [hm]; exact HN.out
    have hw : wrap64 (↑f.length - 1) = (m : Int) := by rw [hlen]; unfold wrap64; omega
    have hle : (m : Int) ≤ (f.length : Int) := by rw [hlen]; omega
    have hx : (⟨f.toArray⟩ : ByteArray).extract m f.length = ⟨#[72]⟩ := by
      apply bytes_eq
      rw [Lib.extract_data, hf, hm]
      simp
    have hy : (⟨f.toArray⟩ : ByteArray).extract 0 m = ⟨l.toArray⟩ := by
      apply bytes_eq
      rw [Lib.extract_data, hf, hm]
      simp
    have hz : (⟨#[72]⟩ : ByteArray).toList = [72] := by rw [Lib.toList_data]
    have hf2 : l ++ (⟨#[72]⟩ : ByteArray).data.toList = f := hf.symm
    rw [hf2]
    obtain ⟨s1, q1⟩ : ∃ s1, s1 = l ++ [47, 67] := ⟨_, rfl⟩
    obtain ⟨s2, q2⟩ : ∃ s2, s2 = s1 ++ [digC t.states] := ⟨_, rfl⟩
    have sum : ∀ (x y z : List UInt8), z = x ++ y → x.length ≤ 100 → y.length ≤ 100 → ∀ w, (Op.stringOp .add ⟨x.toArray⟩ ⟨y.toArray⟩).run Tryd.prog w = .ok (.string ⟨z.toArray⟩) w := by
      intro x y z hz h1 h2 w
      rw [run_string_add_sum (P := Tryd.prog) w _ _ (by simp [ByteArray.size]; omega), text_end, hz]
    have n1 : s1.length = m + 2 := by rw [q1, hm]; simp
    have n2 : s2.length = m + 3 := by rw [q2]; simp [n1]
    have a1 := sum l [47, 67] s1 q1 (by omega) (by simp)
    have a2 := sum s1 [digC t.states] s2 q2 (by omega) (by simp)
    have a3 := sum s2 [72] (s2 ++ [72]) rfl (by omega) (by simp)
    have HQ : Hid (s2 = l ++ [47, 67] ++ [digC t.states]) := Lib.hid (by rw [q2, q1])
    obtain ⟨s3, q3⟩ : ∃ s3, s3 = s2 ++ [72] := ⟨_, rfl⟩
    rw [← q3] at a3
    have HQ3 := Lib.hid q3
    clear sum q1 q2 q3 n1 n2 hf hf2 hm hlen hm30
    go_wp2_with fail
    refine (HI.out _).mono ?_
    rintro e w' ⟨rfl, hw'⟩
    have hw3 := hw'.symm
    clear hw'
    subst hw3
    go_wp2
    go_ret
    exact ⟨ret_string (by rw [HQ3.out, HQ.out, HB.out, HLL.out]), HB4.out⟩
end Go.Proofs.YtaofninfjdepfaaDoor
