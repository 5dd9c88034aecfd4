/-
  cellularref09.fits, after: whether numbers fit a neighbourhood; the place behind a text. At most 2^31 bytes.
-/
import Derived.Test.YtaofninfjdepfaaDoorNum
namespace Go.Proofs.YtaofninfjdepfaaDoor
open Go.RowKit
set_option maxRecDepth 100000
set_option linter.unusedVariables false
set_option linter.unusedSimpArgs false

def fitsL (xs : List Int) (n : Nat) : Bool := xs.all fun x => decide (x < (n : Int))
theorem fits_take {xs : List Int} {n k : Nat} (hk : k < xs.length) (h : fitsL (xs.take k) n = true) (hb : xs[k] < (n : Int)) : fitsL (xs.take (k + 1)) n = true := by
  unfold fitsL at *
  rw [List.take_succ_eq_append_getElem hk, List.all_append, h]
  simp [hb]
theorem fits_bad {xs : List Int} {n k : Nat} (hk : k < xs.length) (hb : ¬ xs[k] < (n : Int)) : fitsL xs n = false := by
  cases h : fitsL xs n
  · rfl
  · unfold fitsL at h
    rw [List.all_eq_true] at h
    exact absurd (of_decide_eq_true (h _ (List.getElem_mem hk))) hb
set_option maxHeartbeats 800000 in
theorem fits_any (A B : Option Addr) (xs : List Int) (c d : Nat) (ps : List (Int × Int)) (w : World) (ha : Ints w A xs) (hp : ps.length ≤ 1000000) :
    Calls Tryd.prog 37 #[.slice A xs.length c, .slice B ps.length d] w fun e w' => e = .returned (.bool (fitsL xs ps.length)) ∧ w' = w := by
  have hn := ha.le
  go_enter Tryd.func37, Tryd.ntmps37
  go_wp2
  go_loopw [5] (fun i wr => ∃ k : Nat, k ≤ xs.length ∧ i = .int .i64 k ∧ wr = w ∧ Hid (fitsL (xs.take k) ps.length = true)) (fun i _ => xs.length - (intOf i).toNat)
  case atStart => exact ⟨0, Nat.zero_le _, rfl, rfl, Lib.hid rfl⟩
  case round =>
    obtain ⟨k, hk, rfl, hw, HT⟩ := hrel
    have hw2 := hw.symm
    clear hw
    subst hw2
    by_cases hlt : k < xs.length
    · obtain ⟨b1, o1, rfl, -, hc⟩ := ha.at_ hlt
      by_cases hb : xs[k] < (ps.length : Int)
      · have d1 : decide ((ps.length : Int) ≤ xs[k]) = false := decide_eq_false (by omega)
        have HN := Lib.hid (fits_take hlt HT.out hb)
        go_wp2
        go_roundw
        case rel => exact ⟨k + 1, by omega, by go_num, (by first | rfl | trivial), HN⟩
        case measure => simp [intOf]; omega
      · have d1 : decide ((ps.length : Int) ≤ xs[k]) = true := decide_eq_true (by omega)
        have HN := Lib.hid (fits_bad hlt hb)
        go_wp2
        go_ret
        exact ⟨ret_bool HN.out.symm, rfl⟩
    · obtain rfl : k = xs.length := by omega
      have HN : Hid (fitsL xs ps.length = true) := Lib.hid (by have := HT.out; rwa [List.take_length] at this)
      go_wp2
      go_ret
      exact ⟨ret_bool HN.out.symm, rfl⟩
def afterL (l : List UInt8) (p : Int) (t : List UInt8) : Int :=
  if 0 ≤ p ∧ p + t.length ≤ l.length ∧ (l.drop p.toNat).take t.length = t then p + t.length else -1
set_option maxHeartbeats 800000 in
theorem after_any (s t : ByteArray) (p : Int) (w : World) (hs : s.size ≤ 2147483648) (ht : t.size ≤ 10) (hp : p ≤ 2147483648) (hp2 : -10 ≤ p) :
    Calls Tryd.prog 61 #[.string s, .int .i64 p, .string t] w fun e w' => e = .returned (.int .i64 (afterL s.data.toList p t.data.toList)) ∧ w' = w := by
  by_cases h1 : p < 0
  · have d1 : decide (p < 0) = true := decide_eq_true h1
    have HN : Hid (afterL s.data.toList p t.data.toList = -1) := Lib.hid (by unfold afterL; rw [if_neg (by omega)])
    go_enter Tryd.func61, Tryd.ntmps61
    go_wp2
    go_ret
    exact ⟨ret_int HN.out.symm, rfl⟩
  · have d1 : decide (p < 0) = false := decide_eq_false h1
    by_cases h2 : (s.size : Int) < p + t.size
    · have d2 : decide ((s.size : Int) < p + t.size) = true := decide_eq_true h2
      have HN : Hid (afterL s.data.toList p t.data.toList = -1) := Lib.hid (by unfold afterL; rw [if_neg (by rw [← Lib.size_eq, ← Lib.size_eq]; omega)])
      go_enter Tryd.func61, Tryd.ntmps61
      go_wp2
      go_ret
      exact ⟨ret_int HN.out.symm, rfl⟩
    · have d2 : decide ((s.size : Int) < p + t.size) = false := decide_eq_false h2
      go_enter Tryd.func61, Tryd.ntmps61
      go_wp2
      · rename_i h
        have HN : afterL s.data.toList p t.data.toList = -1 := by
          unfold afterL
          rw [if_neg]
          rintro ⟨-, -, h3⟩
          rw [Lib.extract_toList, ByteArray.toList_eq] at h
          have e : (p + (t.size : Int)).toNat - p.toNat = t.data.toList.length := by rw [← Lib.size_eq]; omega
          rw [e, h3] at h
          simp at h
        go_ret
        exact ⟨ret_int HN.symm, rfl⟩
      · rename_i h
        have HN : afterL s.data.toList p t.data.toList = p + t.size := by
          unfold afterL
          have e : (p + (t.size : Int)).toNat - p.toNat = t.data.toList.length := by rw [← Lib.size_eq]; omega
          rw [Lib.extract_toList, ByteArray.toList_eq, e] at h
          have h3 : (s.data.toList.drop p.toNat).take t.data.toList.length = t.data.toList := by simpa using h
          rw [if_pos ⟨by omega, (by rw [← Lib.size_eq, ← Lib.size_eq]; omega), h3⟩, ← Lib.size_eq]
        go_ret
        exact ⟨ret_int HN.symm, rfl⟩
end Go.Proofs.YtaofninfjdepfaaDoor
