/-
  rle.ruleName, letter, state; cellularref30.named, state. At most 2^31 bytes.
-/
import Derived.Test.YtekmldneinnmoaaDoorRunsR
import Derived.Test.YtekmldneinnmoaaDoorBuilder
import Derived.Test.YtekmldneinnmoaaDoorShelf
import Derived.Laws.RangeAny
import Derived.Laws.Strings3
namespace Go.Proofs.YtekmldneinnmoaaDoor
open Go.RowKit
set_option maxRecDepth 100000
set_option linter.unusedVariables false
set_option linter.unusedSimpArgs false

def isDig (c : UInt8) : Bool := decide (48 ≤ (c.toNat : Int)) && decide ((c.toNat : Int) ≤ 57)
def digOf (c : UInt8) : Int := (c.toNat : Int) - 48
theorem get_byte (s : ByteArray) (j : Nat) (h : j < s.size) (h' : j < s.data.toList.length) : s.data.toList[j] = s[j] := by
  rfl
def nmB (c : UInt8) : Bool := !(decide ((c.toNat : Int) < 33) || decide (126 < (c.toNat : Int)))
/-- a rule name -/
def nameB (l : List UInt8) : Bool := l.all nmB && (decide (1 ≤ l.length) && decide (l.length ≤ 100))
theorem nameB_bad {l : List UInt8} {k : Nat} (hk : k < l.length) (hb : nmB l[k] = false) : nameB l = false := by
  unfold nameB
  have : l.all nmB = false := by
    cases h : l.all nmB
    · rfl
    · rw [List.all_eq_true] at h
      rw [h _ (List.getElem_mem hk)] at hb
      cases hb
  rw [this]; rfl
theorem nm_take {l : List UInt8} {k : Nat} (hk : k < l.length) (h : (l.take k).all nmB = true) (hb : nmB l[k] = true) : (l.take (k + 1)).all nmB = true := by
  rw [List.take_succ_eq_append_getElem hk, List.all_append, h]
  simp [hb]
theorem nameB_end {l : List UInt8} (h : (l.take l.length).all nmB = true) : nameB l = (decide (1 ≤ l.length) && decide (l.length ≤ 100)) := by
  rw [List.take_length] at h
  unfold nameB
  rw [h, Bool.true_and]
set_option maxHeartbeats 1600000 in
theorem ruleName_any (s : ByteArray) (w : World) (hs : s.size ≤ 2147483648) : Calls Tryd.prog 17 #[.string s] w fun e w' => e = .returned (.bool (nameB s.data.toList)) ∧ w' = w := by
  obtain ⟨l, hl⟩ : ∃ l, l = s.data.toList := ⟨_, rfl⟩
  have hgb : ∀ j (h : j < s.size) (h' : j < l.length), l[j] = s[j] := by subst hl; exact get_byte s
  have hlen : l.length = s.size := by rw [hl]; rfl
  rw [← hl]
  have HG := Lib.hid (And.intro hlen hgb)
  clear hl hgb hlen
  go_enter Tryd.func17, Tryd.ntmps17
  go_wp2
  go_loopw [6] (fun i wr => ∃ k : Nat, k ≤ s.size ∧ i = .int .i64 k ∧ wr = w ∧ Hid ((l.take k).all nmB = true)) (fun i _ => s.size - (intOf i).toNat)
  case atStart => exact ⟨0, Nat.zero_le _, rfl, rfl, Lib.hid rfl⟩
  case round =>
    obtain ⟨k, hk, rfl, hw, HT⟩ := hrel
    have hw2 := hw.symm
    clear hw
    subst hw2
    by_cases hlt : k < s.size
    · have hlt' : k < l.length := by rw [HG.out.1]; exact hlt
      have hc0 : (s[k].toNat : Int) ≤ 255 := by have := s[k].toNat_lt; omega
      have hnm : nmB l[k] = !(decide ((s[k].toNat : Int) < 33) || decide (126 < (s[k].toNat : Int))) := by rw [HG.out.2 k hlt hlt']; rfl
      have HD := Lib.hid hnm
      clear hnm
      by_cases h1 : (s[k].toNat : Int) < 33
      · have d1 : decide ((s[k].toNat : Int) < 33) = true := decide_eq_true h1
        have HN := Lib.hid (nameB_bad hlt' (by rw [HD.out, d1]; rfl))
        go_wp2
        go_ret
        exact ⟨ret_bool HN.out.symm, rfl⟩
      · have d1 : decide ((s[k].toNat : Int) < 33) = false := decide_eq_false h1
        by_cases h2 : 126 < (s[k].toNat : Int)
        · have d2 : decide (126 < (s[k].toNat : Int)) = true := decide_eq_true h2
          have HN := Lib.hid (nameB_bad hlt' (by rw [HD.out, d1, d2]; rfl))
          go_wp2
          go_ret
          exact ⟨ret_bool HN.out.symm, rfl⟩
        · have d2 : decide (126 < (s[k].toNat : Int)) = false := decide_eq_false h2
          have HN := Lib.hid (nm_take hlt' HT.out (by rw [HD.out, d1, d2]; rfl))
          go_wp2
          go_roundw
          case rel => exact ⟨k + 1, by omega, by go_num, (by first | rfl | trivial), HN⟩
          case measure => simp [intOf]; omega
    · obtain rfl : k = s.size := by omega
      have HN : Hid (nameB l = (decide (1 ≤ s.size) && decide (s.size ≤ 100))) := Lib.hid (by rw [nameB_end (by rw [HG.out.1]; exact HT.out), HG.out.1])
      by_cases h1 : 1 ≤ s.size
      · have d1 : decide (1 ≤ s.size) = true := decide_eq_true h1
        go_wp2
        go_ret
        rw [HN.out, d1]
        refine ⟨ret_bool ?_, rfl⟩
        simp <;> omega
      · have d1 : decide (1 ≤ s.size) = false := decide_eq_false h1
        go_wp2
        go_ret
        rw [HN.out, d1]
        exact ⟨rfl, rfl⟩
set_option maxHeartbeats 1600000 in
theorem named_any (s : ByteArray) (w : World) (hs : s.size ≤ 2147483648) : Calls Tryd.prog 28 #[.string s] w fun e w' => e = .returned (.bool (nameB s.data.toList)) ∧ w' = w := by
  obtain ⟨l, hl⟩ : ∃ l, l = s.data.toList := ⟨_, rfl⟩
  have hgb : ∀ j (h : j < s.size) (h' : j < l.length), l[j] = s[j] := by subst hl; exact get_byte s
  have hlen : l.length = s.size := by rw [hl]; rfl
  rw [← hl]
  have HG := Lib.hid (And.intro hlen hgb)
  clear hl hgb hlen
  go_enter Tryd.func28, Tryd.ntmps28
  go_wp2
  go_loopw [3] (fun i wr => ∃ k : Nat, k ≤ s.size ∧ i = .int .i64 k ∧ wr = w ∧ Hid ((l.take k).all nmB = true)) (fun i _ => s.size - (intOf i).toNat)
  case atStart => exact ⟨0, Nat.zero_le _, rfl, rfl, Lib.hid rfl⟩
  case round =>
    obtain ⟨k, hk, rfl, hw, HT⟩ := hrel
    have hw2 := hw.symm
    clear hw
    subst hw2
    by_cases hlt : k < s.size
    · have hlt' : k < l.length := by rw [HG.out.1]; exact hlt
      have hc0 : (s[k].toNat : Int) ≤ 255 := by have := s[k].toNat_lt; omega
      have hnm : nmB l[k] = !(decide ((s[k].toNat : Int) < 33) || decide (126 < (s[k].toNat : Int))) := by rw [HG.out.2 k hlt hlt']; rfl
      have HD := Lib.hid hnm
      clear hnm
      by_cases h1 : (s[k].toNat : Int) < 33
      · have d1 : decide ((s[k].toNat : Int) < 33) = true := decide_eq_true h1
        have HN := Lib.hid (nameB_bad hlt' (by rw [HD.out, d1]; rfl))
        go_wp2
        go_ret
        exact ⟨ret_bool HN.out.symm, rfl⟩
      · have d1 : decide ((s[k].toNat : Int) < 33) = false := decide_eq_false h1
        by_cases h2 : 126 < (s[k].toNat : Int)
        · have d2 : decide (126 < (s[k].toNat : Int)) = true := decide_eq_true h2
          have HN := Lib.hid (nameB_bad hlt' (by rw [HD.out, d1, d2]; rfl))
          go_wp2
          go_ret
          exact ⟨ret_bool HN.out.symm, rfl⟩
        · have d2 : decide (126 < (s[k].toNat : Int)) = false := decide_eq_false h2
          have HN := Lib.hid (nm_take hlt' HT.out (by rw [HD.out, d1, d2]; rfl))
          go_wp2
          go_roundw
          case rel => exact ⟨k + 1, by omega, by go_num, (by first | rfl | trivial), HN⟩
          case measure => simp [intOf]; omega
    · obtain rfl : k = s.size := by omega
      have HN : Hid (nameB l = (decide (1 ≤ s.size) && decide (s.size ≤ 100))) := Lib.hid (by rw [nameB_end (by rw [HG.out.1]; exact HT.out), HG.out.1])
      by_cases h1 : 1 ≤ s.size
      · have d1 : decide (1 ≤ s.size) = true := decide_eq_true h1
        go_wp2
        go_ret
        rw [HN.out, d1]
        refine ⟨ret_bool ?_, rfl⟩
        simp <;> omega
      · have d1 : decide (1 ≤ s.size) = false := decide_eq_false h1
        go_wp2
        go_ret
        rw [HN.out, d1]
        exact ⟨rfl, rfl⟩
def stateC (c : Int) : Int := if c = 98 ∨ c = 46 then 0 else if c = 111 then 1 else if 65 ≤ c ∧ c ≤ 71 then c - 65 + 1 else if c = 36 then -1 else -2
theorem stateC_b {c : Int} (h : c = 98 ∨ c = 46) : stateC c = 0 := by unfold stateC; rw [if_pos h]
theorem stateC_o {c : Int} (h : c = 111) : stateC c = 1 := by unfold stateC; rw [if_neg (by omega), if_pos h]
theorem stateC_l {c : Int} (h : 65 ≤ c ∧ c ≤ 71) : stateC c = c - 65 + 1 := by unfold stateC; rw [if_neg (by omega), if_neg (by omega), if_pos h]
theorem stateC_d {c : Int} (h : c = 36) : stateC c = -1 := by unfold stateC; rw [if_neg (by omega), if_neg (by omega), if_neg (by omega), if_pos h]
theorem stateC_n {c : Int} (h0 : ¬ (c = 98 ∨ c = 46)) (h1 : ¬ c = 111) (h2 : ¬ (65 ≤ c ∧ c ≤ 71)) (h3 : ¬ c = 36) : stateC c = -2 := by unfold stateC; rw [if_neg h0, if_neg h1, if_neg h2, if_neg h3]
set_option maxHeartbeats 1600000 in
theorem state_any (c : Int) (w : World) (h0 : 0 ≤ c) (h1 : c ≤ 2147483647) : Calls Tryd.prog 52 #[.int .i32 c] w fun e w' => e = .returned (.int .i64 (stateC c)) ∧ w' = w := by
  by_cases k1 : c = 98
  · have HN := Lib.hid (stateC_b (.inl k1))
    have d1 : (c == 98) = true := by simp [k1]
    go_enter Tryd.func52, Tryd.ntmps52
    go_wp2
    go_ret
    exact ⟨ret_int HN.out.symm, rfl⟩
  have d1 : (c == 98) = false := by simpa using k1
  by_cases k2 : c = 46
  · have HN := Lib.hid (stateC_b (.inr k2))
    have d2 : (c == 46) = true := by simp [k2]
    clear k1
    go_enter Tryd.func52, Tryd.ntmps52
    go_wp2
    go_ret
    exact ⟨ret_int HN.out.symm, rfl⟩
  have d2 : (c == 46) = false := by simpa using k2
  by_cases k3 : c = 111
  · have HN := Lib.hid (stateC_o k3)
    have d3 : (c == 111) = true := by simp [k3]
    clear k1 k2
    go_enter Tryd.func52, Tryd.ntmps52
    go_wp2
    go_ret
    exact ⟨ret_int HN.out.symm, rfl⟩
  have d3 : (c == 111) = false := by simpa using k3
  by_cases k4 : 65 ≤ c
  · have d4 : decide (65 ≤ c) = true := decide_eq_true k4
    by_cases k5 : c ≤ 71
    · have d5 : decide (c ≤ 71) = true := decide_eq_true k5
      have HN := Lib.hid (stateC_l (And.intro k4 k5))
      have hw1 : wrap32 (c - 65) = c - 65 := by unfold wrap32; omega
      have hw2 : wrap64 (c - 65) = c - 65 := by unfold wrap64; omega
      have hw3 : wrap64 (c - 65 + 1) = c - 65 + 1 := by unfold wrap64; omega
      clear k1 k2 k3
      go_enter Tryd.func52, Tryd.ntmps52
      go_wp2
      go_ret
      exact ⟨ret_int HN.out.symm, rfl⟩
    have d5 : decide (c ≤ 71) = false := decide_eq_false k5
    by_cases k6 : c = 36
    · omega
    have d6 : (c == 36) = false := by simpa using k6
    have HN := Lib.hid (stateC_n (c := c) (by omega) k3 (by omega) k6)
    clear k1 k2 k3 k6
    go_enter Tryd.func52, Tryd.ntmps52
    go_wp2
    go_ret
    exact ⟨ret_int HN.out.symm, rfl⟩
  have d4 : decide (65 ≤ c) = false := decide_eq_false k4
  by_cases k6 : c = 36
  · subst k6
    clear k1 k2 k3 k4 d1 d2 d3 d4
    go_enter Tryd.func52, Tryd.ntmps52
    go_wp2
    go_ret
    exact ⟨rfl, rfl⟩
  have d6 : (c == 36) = false := by simpa using k6
  have HN := Lib.hid (stateC_n (c := c) (by omega) k3 (by omega) k6)
  clear k1 k2 k3 k6
  go_enter Tryd.func52, Tryd.ntmps52
  go_wp2
  go_ret
  exact ⟨ret_int HN.out.symm, rfl⟩
set_option maxHeartbeats 1600000 in
theorem rstate_any (c : Int) (w : World) (h0 : 0 ≤ c) (h1 : c ≤ 255) : Calls Tryd.prog 39 #[.int .u8 c] w fun e w' => e = .returned (.int .i64 (stateC c)) ∧ w' = w := by
  by_cases k1 : c = 98
  · have HN := Lib.hid (stateC_b (.inl k1))
    have d1 : (c == 98) = true := by simp [k1]
    go_enter Tryd.func39, Tryd.ntmps39
    go_wp2
    go_ret
    exact ⟨ret_int HN.out.symm, rfl⟩
  have d1 : (c == 98) = false := by simpa using k1
  by_cases k2 : c = 46
  · have HN := Lib.hid (stateC_b (.inr k2))
    have d2 : (c == 46) = true := by simp [k2]
    clear k1
    go_enter Tryd.func39, Tryd.ntmps39
    go_wp2
    go_ret
    exact ⟨ret_int HN.out.symm, rfl⟩
  have d2 : (c == 46) = false := by simpa using k2
  by_cases k3 : c = 111
  · have HN := Lib.hid (stateC_o k3)
    have d3 : (c == 111) = true := by simp [k3]
    clear k1 k2
    go_enter Tryd.func39, Tryd.ntmps39
    go_wp2
    go_ret
    exact ⟨ret_int HN.out.symm, rfl⟩
  have d3 : (c == 111) = false := by simpa using k3
  by_cases k4 : 65 ≤ c
  · have d4 : decide (65 ≤ c) = true := decide_eq_true k4
    by_cases k5 : c ≤ 71
    · have d5 : decide (c ≤ 71) = true := decide_eq_true k5
      have HN := Lib.hid (stateC_l (And.intro k4 k5))
      have hw1 : wrap32 (c - 65) = c - 65 := by unfold wrap32; omega
      have hw2 : wrap64 (c - 65) = c - 65 := by unfold wrap64; omega
      have hw3 : wrap64 (c - 65 + 1) = c - 65 + 1 := by unfold wrap64; omega
      clear k1 k2 k3
      go_enter Tryd.func39, Tryd.ntmps39
      go_wp2
      go_ret
      exact ⟨ret_int HN.out.symm, rfl⟩
    have d5 : decide (c ≤ 71) = false := decide_eq_false k5
    by_cases k6 : c = 36
    · omega
    have d6 : (c == 36) = false := by simpa using k6
    have HN := Lib.hid (stateC_n (c := c) (by omega) k3 (by omega) k6)
    clear k1 k2 k3 k6
    go_enter Tryd.func39, Tryd.ntmps39
    go_wp2
    go_ret
    exact ⟨ret_int HN.out.symm, rfl⟩
  have d4 : decide (65 ≤ c) = false := decide_eq_false k4
  by_cases k6 : c = 36
  · subst k6
    clear k1 k2 k3 k4 d1 d2 d3 d4
    go_enter Tryd.func39, Tryd.ntmps39
    go_wp2
    go_ret
    exact ⟨rfl, rfl⟩
  have d6 : (c == 36) = false := by simpa using k6
  have HN := Lib.hid (stateC_n (c := c) (by omega) k3 (by omega) k6)
  clear k1 k2 k3 k6
  go_enter Tryd.func39, Tryd.ntmps39
  go_wp2
  go_ret
  exact ⟨ret_int HN.out.symm, rfl⟩
def boS (k : Int) : UInt8 := if k = 0 then 98 else 111
def abcS (k : Int) : UInt8 := if k = 0 then 46 else UInt8.ofNat (64 + k.toNat)
/-- the letter of a state -/
def letC (k : Int) (two : Bool) : List UInt8 := if k < 0 then [36] else if two then [boS k] else [abcS k]
set_option maxHeartbeats 1600000 in
theorem letter_any (k : Int) (two : Bool) (w : World) (h1 : k ≤ 7) (h2 : two = true → k ≤ 1) : Calls Tryd.prog 25 #[.int .i64 k, .bool two] w fun e w' => e = .returned (.string ⟨(letC k two).toArray⟩) ∧ w' = w := by
  by_cases h0 : k < 0
  · have d0 : decide (k < 0) = true := decide_eq_true h0
    have HN : Hid (letC k two = [36]) := Lib.hid (by unfold letC; rw [if_pos h0])
    go_enter Tryd.func25, Tryd.ntmps25
    go_wp2
    go_ret
    rw [HN.out]
    exact ⟨rfl, rfl⟩
  · cases two
    · obtain rfl | rfl | rfl | rfl | rfl | rfl | rfl | rfl : k = 0 ∨ k = 1 ∨ k = 2 ∨ k = 3 ∨ k = 4 ∨ k = 5 ∨ k = 6 ∨ k = 7 := by omega
      all_goals
        go_enter Tryd.func25, Tryd.ntmps25
        go_wp2
        go_ret
        exact ⟨rfl, rfl⟩
    · have := h2 rfl
      obtain rfl | rfl : k = 0 ∨ k = 1 := by omega
      all_goals
        go_enter Tryd.func25, Tryd.ntmps25
        go_wp2
        go_ret
        exact ⟨rfl, rfl⟩
end Go.Proofs.YtekmldneinnmoaaDoor
