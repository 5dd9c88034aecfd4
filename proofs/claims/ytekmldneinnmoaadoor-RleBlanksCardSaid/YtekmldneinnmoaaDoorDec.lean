/-
  cellularref30.decimal, item: a number's digits; the text of a run.
-/
import Derived.Test.YtekmldneinnmoaaDoorName
namespace Go.Proofs.YtekmldneinnmoaaDoor
open Go.RowKit
set_option maxRecDepth 100000
set_option linter.unusedVariables false
set_option linter.unusedSimpArgs false

theorem dec_small {n : Nat} (h : n < 10) : Lib.decDigits n = [UInt8.ofNat (48 + n)] := by rw [Lib.decDigits, dif_pos h]
theorem dec_big {n : Nat} (h : ¬ n < 10) : Lib.decDigits n = Lib.decDigits (n / 10) ++ Lib.decDigits (n % 10) := by
  rw [Lib.decDigits, dif_neg h, dec_small (n := n % 10) (by omega)]
theorem dec_len : ∀ {k : Nat} (n : Nat), n < 10 ^ k → (Lib.decDigits n).length ≤ k + 1
  | 0, n, h => by
    rw [dec_small (by omega)]; simp
  | k + 1, n, h => by
    by_cases hs : n < 10
    · rw [dec_small hs]; simp
    · rw [Lib.decDigits, dif_neg hs, List.length_append]
      have := dec_len (k := k) (n / 10) (by rw [Nat.pow_succ] at h; omega)
      simp; omega
theorem dec_len1 {k : Nat} (hk : 1 ≤ k) (n : Nat) (h : n < 10 ^ k) : (Lib.decDigits n).length ≤ k := by
  induction k generalizing n with
  | zero => omega
  | succ k ih =>
    by_cases hs : n < 10
    · rw [dec_small hs]; simp
    · by_cases hk0 : k = 0
      · subst hk0; simp at h; omega
      · rw [Lib.decDigits, dif_neg hs, List.length_append]
        have := ih (by omega) (n / 10) (by rw [Nat.pow_succ] at h; omega)
        simp; omega
theorem bytes_app (a b : List UInt8) : (⟨a.toArray⟩ : ByteArray) ++ ⟨b.toArray⟩ = ⟨(a ++ b).toArray⟩ := by
  rw [ByteArray.ext_iff, ByteArray.data_append]
  simp
theorem itoa_nat (n : Nat) : Lib.itoa (n : Int) = Lib.decDigits n := by
  unfold Lib.itoa
  rw [if_neg (by omega)]
  rfl
set_option maxHeartbeats 1600000 in
theorem decimal_any : ∀ (n : Nat) (w : World), n ≤ 9223372036854775807 → Calls Tryd.prog 29 #[.int .i64 n] w fun e w' => e = .returned (.string ⟨(Lib.decDigits n).toArray⟩) ∧ w' = w := by
  intro n
  induction n using Nat.strongRecOn with
  | ind n ih =>
    intro w hn
    by_cases h : n < 10
    · have HN := Lib.hid (dec_small h)
      obtain rfl | rfl | rfl | rfl | rfl | rfl | rfl | rfl | rfl | rfl : n = 0 ∨ n = 1 ∨ n = 2 ∨ n = 3 ∨ n = 4 ∨ n = 5 ∨ n = 6 ∨ n = 7 ∨ n = 8 ∨ n = 9 := by omega
      all_goals
        clear ih
        go_enter Tryd.func29, Tryd.ntmps29
        go_wp2
        go_ret
        rw [HN.out]
        exact ⟨rfl, rfl⟩
    · have IH1 : Hid (Calls Tryd.prog 29 #[.int .i64 ((n : Int) / 10)] w fun e w' => e = .returned (.string ⟨(Lib.decDigits (n / 10)).toArray⟩) ∧ w' = w) := Lib.hid (ih (n / 10) (by omega) w (by omega))
      have IH2 : Hid (Calls Tryd.prog 29 #[.int .i64 ((n : Int) % 10)] w fun e w' => e = .returned (.string ⟨(Lib.decDigits (n % 10)).toArray⟩) ∧ w' = w) := Lib.hid (ih (n % 10) (by omega) w (by omega))
      have HN := Lib.hid (dec_big h)
      have d0 : decide ((n : Int) < 10) = false := decide_eq_false (by omega)
      have hq : wrap64 (Int.tdiv (n : Int) 10) = ((n / 10 : Nat) : Int) := by rw [Int.tdiv_eq_ediv_of_nonneg (by omega)]; unfold wrap64; omega
      have hr : wrap64 (Int.tmod (n : Int) 10) = ((n % 10 : Nat) : Int) := by rw [Int.tmod_eq_emod_of_nonneg (by omega)]; unfold wrap64; omega
      have hl1 := dec_len (k := 20) (n / 10) (by omega)
      have hl2 := dec_len (k := 20) (n % 10) (by omega)
      have hle : ¬9223372036854775807 < (Lib.decDigits (n / 10)).length + (Lib.decDigits (n % 10)).length := by omega
      clear ih hl1 hl2
      go_enter Tryd.func29, Tryd.ntmps29
      go_wp2_with fail
      refine IH1.out.mono ?_
      rintro e w1 ⟨rfl, hw1⟩
      subst hw1
      go_wp2_with fail
      refine IH2.out.mono ?_
      rintro e w2 ⟨rfl, hw2⟩
      subst hw2
      go_wp2
      go_ret
      rw [HN.out]
      exact ⟨by rw [bytes_app]; rfl, rfl⟩
/-- the text of a run -/
def itemC (two : Bool) (r : Int × Int) : List UInt8 := (if 1 < r.1 then Lib.itoa r.1 else []) ++ letC r.2 two
set_option maxHeartbeats 8000000 in
theorem item_any (a k top : Int) (w : World) (ha : a ≤ 9223372036854775807) (hk : k ≤ 7) (hk2 : top ≤ 1 → k ≤ 1) :
    Calls Tryd.prog 30 #[.agg #[.int .i64 a, .int .i64 k], .int .i64 top] w fun e w' => e = .returned (.string ⟨(itemC (decide (top ≤ 1)) (a, k)).toArray⟩) ∧ Below w.heap.size w w' := by
  obtain ⟨w1, hw1⟩ : ∃ w1, w1 = w.alloc (.cells #[.int .i64 a, .int .i64 k] 31) := ⟨_, rfl⟩
  have b0 := below_new w (.cells #[.int .i64 a, .int .i64 k] 31)
  have br := Blk.new w 31 #[.int .i64 a, .int .i64 k]
  rw [← hw1] at b0 br
  have r0 := br.cell_ 0 (.int .i64 a) rfl
  have r1 := br.cell_ 1 (.int .i64 k) rfl
  have HB := Lib.hid b0
  have HW := Lib.hid hw1
  clear b0 br hw1
  by_cases h1 : 1 < a
  · have HI : Hid (∀ k two, itemC two (a, k) = Lib.decDigits a.toNat ++ letC k two) := Lib.hid (by intro k two; unfold itemC; dsimp only; rw [if_pos h1]; congr 1; rw [show a = ((a.toNat : Nat) : Int) by omega, itoa_nat]; rfl)
    have HD : Hid (Calls Tryd.prog 29 #[.int .i64 a] w1 fun e w' => e = .returned (.string ⟨(Lib.decDigits a.toNat).toArray⟩) ∧ w' = w1) := Lib.hid (by have := decimal_any a.toNat w1 (by omega); rwa [show ((a.toNat : Nat) : Int) = a by omega] at this)
    have hl0 := dec_len1 (k := 19) (by omega) a.toNat (by omega)
    have hle : ¬9223372036854775807 < (Lib.decDigits a.toNat).length + 1 := by omega
    have d1 : decide (1 < a) = true := decide_eq_true h1
    clear hl0
    by_cases h2 : k < 0
    · have d2 : decide (k < 0) = true := decide_eq_true h2
      have HL : Hid (∀ two, letC k two = [36]) := Lib.hid (by intro two; unfold letC; rw [if_pos h2])
      go_enter Tryd.func30, Tryd.ntmps30
      go_upto_region 2 with fail
      rw [← HW.out]
      go_wp2_with fail
      refine HD.out.mono ?_
      rintro e w2 ⟨rfl, hw2⟩
      subst hw2
      go_wp2
      go_ret
      refine ⟨?_, HB.out⟩
      rw [HI.out, HL.out, bytes_app]
      rfl
    · by_cases h3 : top ≤ 1
      · have d3 : decide (top ≤ 1) = true := decide_eq_true h3
        obtain rfl | rfl : k = 0 ∨ k = 1 := by have := hk2 h3; omega
        all_goals
          rw [d3]
          go_enter Tryd.func30, Tryd.ntmps30
          go_upto_region 2 with fail
          rw [← HW.out]
          go_wp2_with fail
          refine HD.out.mono ?_
          rintro e w2 ⟨rfl, hw2⟩
          subst hw2
          go_wp2
          go_ret
          refine ⟨?_, HB.out⟩
          rw [HI.out, bytes_app]
          rfl
      · have d3 : decide (top ≤ 1) = false := decide_eq_false h3
        obtain rfl | rfl | rfl | rfl | rfl | rfl | rfl | rfl : k = 0 ∨ k = 1 ∨ k = 2 ∨ k = 3 ∨ k = 4 ∨ k = 5 ∨ k = 6 ∨ k = 7 := by omega
        all_goals
          rw [d3]
          go_enter Tryd.func30, Tryd.ntmps30
          go_upto_region 2 with fail
          rw [← HW.out]
          go_wp2_with fail
          refine HD.out.mono ?_
          rintro e w2 ⟨rfl, hw2⟩
          subst hw2
          go_wp2
          go_ret
          refine ⟨?_, HB.out⟩
          rw [HI.out, bytes_app]
          rfl
  · have HI : Hid (∀ k two, itemC two (a, k) = letC k two) := Lib.hid (by intro k two; unfold itemC; dsimp only; rw [if_neg h1]; rfl)
    have d1 : decide (1 < a) = false := decide_eq_false h1
    by_cases h2 : k < 0
    · have d2 : decide (k < 0) = true := decide_eq_true h2
      have HL : Hid (∀ two, letC k two = [36]) := Lib.hid (by intro two; unfold letC; rw [if_pos h2])
      go_enter Tryd.func30, Tryd.ntmps30
      go_upto_region 2 with fail
      rw [← HW.out]
      go_wp2
      go_ret
      refine ⟨?_, HB.out⟩
      rw [HI.out, HL.out]
      rfl
    · by_cases h3 : top ≤ 1
      · have d3 : decide (top ≤ 1) = true := decide_eq_true h3
        obtain rfl | rfl : k = 0 ∨ k = 1 := by have := hk2 h3; omega
        all_goals
          rw [d3]
          go_enter Tryd.func30, Tryd.ntmps30
          go_upto_region 2 with fail
          rw [← HW.out]
          go_wp2
          go_ret
          refine ⟨?_, HB.out⟩
          rw [HI.out]
          rfl
      · have d3 : decide (top ≤ 1) = false := decide_eq_false h3
        obtain rfl | rfl | rfl | rfl | rfl | rfl | rfl | rfl : k = 0 ∨ k = 1 ∨ k = 2 ∨ k = 3 ∨ k = 4 ∨ k = 5 ∨ k = 6 ∨ k = 7 := by omega
        all_goals
          rw [d3]
          go_enter Tryd.func30, Tryd.ntmps30
          go_upto_region 2 with fail
          rw [← HW.out]
          go_wp2
          go_ret
          refine ⟨?_, HB.out⟩
          rw [HI.out]
          rfl
end Go.Proofs.YtekmldneinnmoaaDoor
