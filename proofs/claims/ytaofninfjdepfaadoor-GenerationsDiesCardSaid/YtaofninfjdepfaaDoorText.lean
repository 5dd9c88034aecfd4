/-
  lifelike.Text: a rule by counts as a text. No condition.
-/
import Derived.Test.YtaofninfjdepfaaDoorDig
namespace Go.Proofs.YtaofninfjdepfaaDoor
open Go.RowKit
set_option maxRecDepth 100000
set_option linter.unusedVariables false

theorem builder_ext {T e : TypeId} {B b : Nat} {p : Value} {bs : List Value} {w w' : World} (h : Lib.BuilderAt T e B b p bs w) (hb : Below w.heap.size w w') : Lib.BuilderAt T e B b p bs w' := by
  have hlt := h.lt
  obtain ⟨hB, v, h1, h2, h3⟩ := h
  exact ⟨hB, v, by rw [hb.block b hlt]; exact h1, own_below h2 hb, h3⟩
theorem ret_string {a b : List UInt8} (h : a = b) : Ending.returned (.string ⟨a.toArray⟩) = .returned (.string ⟨b.toArray⟩) := by rw [h]
def digC (z : Int) : UInt8 := UInt8.ofNat (48 + z).toNat
theorem digC_val {z : Int} (h0 : 0 ≤ z) (h1 : z ≤ 9) : ((digC z).toNat : Int) = 48 + z := by
  unfold digC
  have : (48 + z).toNat < 256 := by omega
  simp [Nat.mod_eq_of_lt this]
  omega
theorem asc_range {n : Int} : ∀ {last : Int} {zs : List Int}, asc last n zs = true → ∀ z ∈ zs, last < z ∧ z ≤ n
  | last, [], _, z, hz => by cases hz
  | last, k :: l, h, z, hz => by
    simp only [asc, Bool.and_eq_true, decide_eq_true_eq] at h
    rcases List.mem_cons.1 hz with rfl | hz
    · exact ⟨h.1.1, h.1.2⟩
    · have := asc_range h.2 z hz
      exact ⟨by omega, this.2⟩
set_option maxHeartbeats 1000000 in
theorem text1_any (B b : Nat) (l : List UInt8) (s : ByteArray) (A : Option Addr) (c : Nat) (zs : List Int) (w0 w : World) (hI : Lib.IsBuilder 67 5 B b (Lib.byteCells l) w) (ha : Ints w0 A zs)
    (hw : Below w0.heap.size w0 w) (h0 : w0.heap.size ≤ B) (hBw : B ≤ w.heap.size) (hz : ∀ z ∈ zs, 0 ≤ z ∧ z ≤ 9) (hlen : l.length + s.size + zs.length ≤ 1000000) :
    Calls Tryd.prog 48 #[.string s, .slice A zs.length c, .pointer (some ⟨b, 0, none⟩)] w fun e w' => e = .returned (.tuple #[]) ∧
      Lib.BuilderAt 67 5 B b (.pointer (some ⟨b, 0, none⟩)) (Lib.byteCells (l ++ s.data.toList ++ zs.map digC)) w' ∧ Below B w w' := by
  have hn := ha.le
  have W1 := writeString_any B b (Lib.byteCells l) s w hI (by rw [Lib.byteCells_length]; omega) hBw
  have hsc : Lib.byteCells l ++ Lib.strCells s = Lib.byteCells (l ++ s.data.toList) := by simp [Lib.byteCells, Lib.strCells]
  rw [hsc] at W1
  have HW1 := Lib.hid W1
  have HZ := Lib.hid hz
  clear W1 hsc hz
  obtain ⟨n0, hn0⟩ : ∃ n0 : Nat, n0 = (l ++ s.data.toList).length := ⟨_, rfl⟩
  have hn0' : n0 = l.length + s.size := by rw [hn0, List.length_append]; rfl
  obtain ⟨pre, hpre⟩ : ∃ pre, pre = l ++ s.data.toList := ⟨_, rfl⟩
  rw [← hpre] at HW1 hn0 ⊢
  have hpl : pre.length + zs.length ≤ 1000000 := by omega
  clear hpre hn0 hn0'
  go_enter Tryd.func48, Tryd.ntmps48
  go_wp2_with fail
  refine HW1.out.mono ?_
  rintro e w1 ⟨rfl, hb1, hbe1⟩
  go_wp2
  go_loopw [11] (fun i wr => ∃ k : Nat, k ≤ zs.length ∧ i = .int .i64 k ∧ Lib.BuilderAt 67 5 B b (.pointer (some ⟨b, 0, none⟩)) (Lib.byteCells (pre ++ (zs.map digC).take k)) wr ∧ Below B w wr) (fun i _ => zs.length - (intOf i).toNat)
  case atStart => exact ⟨0, Nat.zero_le _, rfl, by simpa using hb1, hbe1⟩
  case round =>
    obtain ⟨k, hk, rfl, hbk, hbr⟩ := hrel
    by_cases hlt : k < zs.length
    · obtain ⟨b1, o1, rfl, -, hc⟩ := (ha.ext (hw.trans (hbr.mono h0))).at_ hlt
      obtain ⟨g0, g1⟩ := HZ.out _ (List.getElem_mem hlt)
      have hwr : IntKind.u8.wrap (48 + zs[k]) = 48 + zs[k] := IntWalk.u8_in _ (by omega)
      have W2 := writeByte_any B b (Lib.byteCells (pre ++ (zs.map digC).take k)) (48 + zs[k]) wr (.inr hbk) (by rw [Lib.byteCells_length, List.length_append, List.length_take]; omega) (Nat.le_trans hBw hbr.size)
      have hsc : Lib.byteCells (pre ++ (zs.map digC).take k) ++ [.int .u8 (48 + zs[k])] = Lib.byteCells (pre ++ (zs.map digC).take (k + 1)) := by
        rw [List.take_succ_eq_append_getElem (by simpa using hlt)]
        simp [Lib.byteCells, digC_val g0 g1]
      rw [hsc] at W2
      have HW2 := Lib.hid W2
      clear W2 hsc
      go_wp2_with fail
      refine HW2.out.mono ?_
      rintro e w2 ⟨rfl, hb2, hbe2⟩
      have hb3 := hbr.trans hbe2
      go_wp2
      go_roundw
      case rel => exact ⟨k + 1, by omega, by go_num, hb2, hb3⟩
      case measure => simp [intOf]; omega
    · obtain rfl : k = zs.length := by omega
      rw [List.take_of_length_le (by simp)] at hbk
      go_wp2
      go_end0
      exact ⟨rfl, hbk, hbr⟩

theorem asc_len {n : Int} : ∀ {last : Int} {zs : List Int}, asc last n zs = true → last ≤ n → (zs.length : Int) ≤ n - last
  | last, [], _, h => by simp; omega
  | last, k :: l, h, hl => by
    simp only [asc, Bool.and_eq_true, decide_eq_true_eq] at h
    have := asc_len h.2 h.1.2
    simp only [List.length_cons]
    omega
theorem known_len {ps : List (Int × Int)} (h : knownB ps = true) : 1 ≤ ps.length ∧ ps.length ≤ 9 := by
  unfold knownB at h
  simp only [Bool.or_eq_true, decide_eq_true_eq] at h
  rcases h with (h | h) | h <;> subst h <;> decide
theorem right_spec {t : TotL} (h : rightT t = true) : knownB t.hood = true ∧ 1 ≤ t.hood.length ∧ t.hood.length ≤ 9 ∧ (∀ z ∈ t.birth, 0 ≤ z ∧ z ≤ 8) ∧ (∀ z ∈ t.survive, 0 ≤ z ∧ z ≤ 8) ∧ t.birth.length ≤ 9 ∧ t.survive.length ≤ 9 := by
  unfold rightT at h
  simp only [Bool.and_eq_true] at h
  obtain ⟨⟨⟨⟨h1, _⟩, _⟩, h4⟩, h5⟩ := h
  obtain ⟨g1, g2⟩ := known_len h1
  refine ⟨h1, g1, g2, fun z hz => ?_, fun z hz => ?_, ?_, ?_⟩
  · have := asc_range h4 z hz; omega
  · have := asc_range h5 z hz; omega
  · have := asc_len h4 (by omega); omega
  · have := asc_len h5 (by omega); omega
def textL (t : TotL) : List UInt8 := if rightT t && (t.states == 2) then [66] ++ t.birth.map digC ++ [47, 83] ++ t.survive.map digC ++ (letterS t.hood).data.toList else []
theorem text_end (l : List UInt8) (s : ByteArray) : (⟨l.toArray⟩ : ByteArray) ++ s = ⟨(l ++ s.data.toList).toArray⟩ := by
  apply ByteArray.ext
  simp
theorem letter_len (ps : List (Int × Int)) : (letterS ps).size ≤ 1 := by
  unfold letterS
  split
  · decide
  · split
    · decide
    · split <;> decide
set_option maxHeartbeats 1000000 in
theorem text_any (A B C : Option Addr) (a b c : Nat) (t : TotL) (w : World) (ht : TotR w A B C t) :
    Calls Tryd.prog 22 #[totV A a B b C c t] w fun e w' => e = .returned (.string ⟨(textL t).toArray⟩) ∧ Below w.heap.size w w' := by
  have hb0 := (Below.refl w.heap.size w).alloc (Nat.le_refl _) (.cells #[.slice A t.hood.length a, .int .i64 t.states, .slice B t.birth.length b, .slice C t.survive.length c] 26)
  have HR := Lib.hid (right_any A B C a b c t _ (ht.ext hb0))
  unfold totV at *
  cases k1 : rightT t
  · have e1 : textL t = [] := by unfold textL; rw [k1]; rfl
    rw [e1]
    rw [k1] at HR
    clear k1 e1
    go_enter Tryd.func22, Tryd.ntmps22
    go_wp2_with fail
    refine HR.out.mono ?_
    rintro e w1 ⟨rfl, hb1⟩
    have hb2 := hb0.trans (hb1.mono hb0.size)
    go_wp2
    go_ret
    exact ⟨rfl, hb2⟩
  have RS := Lib.hid (right_spec k1)
  cases k2 : (t.states == 2)
  · have e1 : textL t = [] := by unfold textL; rw [k1, k2]; rfl
    have d1 : (t.states != 2) = true := by simpa [bne] using k2
    rw [e1]
    rw [k1] at HR
    clear k1 e1 k2
    go_enter Tryd.func22, Tryd.ntmps22
    go_wp2_with fail
    refine HR.out.mono ?_
    rintro e w1 ⟨rfl, hb1⟩
    have hb2 := hb0.trans (hb1.mono hb0.size)
    have c1 := box_cell hb1 1 _ rfl
    go_wp2
    go_ret
    exact ⟨rfl, hb2⟩
  have e1 : textL t = [66] ++ t.birth.map digC ++ [47, 83] ++ t.survive.map digC ++ (letterS t.hood).data.toList := by unfold textL; rw [k1, k2]; rfl
  have d1 : (t.states != 2) = false := by simpa [bne] using k2
  rw [e1]
  rw [k1] at HR
  clear k1 e1 k2
  go_enter Tryd.func22, Tryd.ntmps22
  go_wp2_with fail
  refine HR.out.mono ?_
  rintro e w1 ⟨rfl, hb1⟩
  have hb2 := hb0.trans (hb1.mono hb0.size)
  have c1 := box_cell hb1 1 _ rfl
  have c2 := box_cell hb1 2 _ rfl
  have hlt : w.heap.size < w1.heap.size := by have := hb1.size; simp at this; omega
  have hI := Lib.fresh_isBuilder 67 5 w1
  have hbx := (Below.refl w1.heap.size w1).alloc (Nat.le_refl _) (.cells #[.pointer none, .slice none 0 0] 67)
  have T1 := text1_any w1.heap.size w1.heap.size [] ⟨#[66]⟩ B b t.birth w1 _ hI (ht.birth.ext hb2) hbx (Nat.le_refl _) hbx.size (fun z hz => by have := RS.out.2.2.2.1 z hz; omega) (by have := RS.out.2.2.2.2.2.1; show 0 + 1 + _ ≤ _; omega)
  have HT1 := Lib.hid T1
  clear T1 hI
  go_wp2_with fail
  refine HT1.out.mono ?_
  rintro e w2 ⟨rfl, hB2, hb3⟩
  have hw2 := hbx.trans hb3
  have hbw2 : Below (w.alloc (.cells #[.slice A t.hood.length a, .int .i64 t.states, .slice B t.birth.length b, .slice C t.survive.length c] 26)).heap.size (w.alloc (.cells #[.slice A t.hood.length a, .int .i64 t.states, .slice B t.birth.length b, .slice C t.survive.length c] 26)) w2 := hb1.trans (hw2.mono hb1.size)
  have c0' := box_cell hbw2 0 _ rfl
  have c3' := box_cell hbw2 3 _ rfl
  have T2 := text1_any w1.heap.size w1.heap.size ([] ++ [66] ++ t.birth.map digC) ⟨#[47, 83]⟩ C c t.survive w1 _ (.inr hB2) (ht.survive.ext hb2) hw2 (Nat.le_refl _) hw2.size (fun z hz => by have := RS.out.2.2.2.2.1 z hz; omega) (by have := RS.out.2.2.2.2.2.1; have := RS.out.2.2.2.2.2.2; simp [ByteArray.size]; omega)
  have HT2 := Lib.hid T2
  clear T2 c1 c2 hB2 HT1
  go_wp2_with fail
  refine HT2.out.mono ?_
  rintro e w3 ⟨rfl, hB3, hb4⟩
  have hw3 := hw2.trans hb4
  have hbw3 := hbw2.trans (hb4.mono hb1.size)
  have c0' := box_cell hbw3 0 _ rfl
  have HL := Lib.hid (letter_any A t.hood a w3 (ht.hood.ext (hb0.trans (hbw3.mono hb0.size))))
  clear HT2 c0' c3' hbw2 hb3 hb4 hbx
  have c0 := box_cell hbw3 0 _ rfl
  go_wp2_with fail
  refine HL.out.mono ?_
  rintro e w4 ⟨rfl, hb5⟩
  have hB4 := builder_ext hB3 hb5
  have hw4 := hw3.trans (hb5.mono hw3.size)
  have S := Tryd.Builder_String_any w1.heap.size w1.heap.size ([] ++ [66] ++ t.birth.map digC ++ [47, 83] ++ t.survive.map digC) w4 (.inr hB4) hw4.size
  have HS := Lib.hid S
  obtain ⟨l, hl⟩ : ∃ l, l = [66] ++ t.birth.map digC ++ [47, 83] ++ t.survive.map digC := ⟨_, rfl⟩
  have hll : l.length ≤ 100 := by
    rw [hl]
    have := RS.out.2.2.2.2.2.1
    have := RS.out.2.2.2.2.2.2
    simp; omega
  have HL2 := Lib.hid hl
  have hsum : (⟨l.toArray⟩ : ByteArray).size + (letterS t.hood).size ≤ 9223372036854775807 := by
    have := letter_len t.hood
    have : (⟨l.toArray⟩ : ByteArray).size = l.length := by simp [ByteArray.size]
    omega
  clear S hl hB4 hB3 HL hbw3
  rw [List.nil_append, ← HL2.out] at HS
  go_wp2_with fail
  refine HS.out.mono ?_
  rintro e w5 ⟨rfl, hb6⟩
  have hw5 := hb2.trans ((hw4.trans hb6).mono hb2.size)
  have hadd := run_string_add_sum (P := Tryd.prog) w5 ⟨l.toArray⟩ (letterS t.hood) hsum
  have hte := text_end l (letterS t.hood)
  rw [hte] at hadd
  clear hte hsum
  go_wp2
  go_ret
  exact ⟨ret_string (by rw [HL2.out]; simp), hw5⟩
end Go.Proofs.YtaofninfjdepfaaDoor
