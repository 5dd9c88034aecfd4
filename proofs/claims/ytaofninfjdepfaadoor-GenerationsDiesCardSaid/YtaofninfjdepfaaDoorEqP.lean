/-
  slices.Equal on points: it answers whether the lists are equal. No condition but the reach.
-/
import Derived.Test.YtaofninfjdepfaaDoorRows
import Derived.Test.YtaofninfjdepfaaDoorInts
import Derived.Test.YtaofninfjdepfaaDoorEq
namespace Go.Proofs.YtaofninfjdepfaaDoor
open Go.RowKit
set_option maxRecDepth 100000
theorem Tryd.stood_pt : Tryd.prog.stoodInHeld 79 = false := by kernel_rfl
theorem Tryd.guard_pt : Tryd.prog.eqGuardType Tryd.prog.depth 79 = false := by kernel_rfl
theorem neq_pt (a b c d : Int) (w : World) : (binOp .neq 79 (.agg #[.int .i64 a, .int .i64 b]) (.agg #[.int .i64 c, .int .i64 d])).run Tryd.prog w = .ok (.bool (ptNe a b c d)) w := by
  have h1 := Tryd.stood_pt
  simp [go_sem, h1]
  unfold ptNe
  by_cases h2 : a = c <;> by_cases h3 : b = d <;> simp [h2, h3]
theorem eql_pt (a b c d : Int) (w : World) : (binOp .eql 79 (.agg #[.int .i64 a, .int .i64 b]) (.agg #[.int .i64 c, .int .i64 d])).run Tryd.prog w = .ok (.bool (ptEq a b c d)) w := by
  have h1 := Tryd.stood_pt
  simp [go_sem, h1]
  unfold ptEq
  by_cases h2 : a = c <;> by_cases h3 : b = d <;> simp [h2, h3]
set_option maxHeartbeats 400000 in
theorem equalPts (A B : Option Addr) (xs ys : List (Int × Int)) (c d : Nat) (w : World) (ha : Pts w A xs) (hb : Pts w B ys) :
    Calls Tryd.prog 79 #[.slice A xs.length c, .slice B ys.length d] w fun e w' => e = .returned (.bool (decide (xs = ys))) ∧ Qt w w' := by
  have hn := ha.le
  have hm := hb.le
  by_cases hl : xs.length = ys.length
  · have hd : ((xs.length : Int) != ys.length) = false := by simp [hl]
    have HL := Lib.hid hl
    clear hl
    go_enter Tryd.func79, Tryd.ntmps79
    go_wp2
    go_loopw [13] (fun i wr => ∃ k q : Nat, k ≤ xs.length ∧ i = .int .i64 k ∧ wr = w.drewN q ∧ Hid (xs.take k = ys.take k)) (fun i _ => xs.length - (intOf i).toNat)
    case atStart => exact ⟨0, 0, Nat.zero_le _, rfl, rfl, Lib.hid rfl⟩
    case round =>
      obtain ⟨k, q, hk, rfl, rfl, HT⟩ := hrel
      by_cases hlt : k < xs.length
      · have hlt2 : k < ys.length := by have := HL.out; omega
        obtain ⟨b1, o1, rfl, -, hc, hc'⟩ := ha.at_ hlt
        obtain ⟨b2, o2, rfl, -, hc2, hc2'⟩ := hb.at_ hlt2
        go_wp2
        have hst := Tryd.stood_pt
        have heg := Tryd.guard_pt
        have hnq := neq_pt
        go_quiet (fail)
        go_wp2
        · have hne : ¬ xs[k] = ys[k] := ptNe_true ‹_›
          go_ret
          refine ⟨ret_bool (decide_eq_false ?_).symm, (Qt.drewN _ _).step _⟩
          rintro rfl
          exact hne rfl
        · have he : xs[k] = ys[k] := ptNe_false ‹_›
          go_roundw
          case rel => exact ⟨k + 1, _, by omega, by go_num, rfl, Lib.hid (take_eq_snoc HT.out hlt hlt2 he)⟩
          case measure => simp [intOf]; omega
      · have hk' : k = xs.length := by omega
        have hfin : xs = ys := by
          have := HT.out
          rwa [hk', List.take_of_length_le (Nat.le_refl _), List.take_of_length_le (by rw [HL.out]; exact Nat.le_refl _)] at this
        clear hk'
        have HF := Lib.hid hfin
        clear hfin
        go_wp2
        go_ret
        exact ⟨ret_bool (decide_eq_true HF.out).symm, Qt.drewN _ _⟩
  · have hd : ((xs.length : Int) != ys.length) = true := by simp; omega
    have hf : ¬ xs = ys := by
      rintro rfl
      exact hl rfl
    have HF := Lib.hid hf
    clear hl hf
    go_enter Tryd.func79, Tryd.ntmps79
    go_wp2
    go_ret
    exact ⟨ret_bool (decide_eq_false HF.out).symm, Qt.refl _⟩
end Go.Proofs.YtaofninfjdepfaaDoor
