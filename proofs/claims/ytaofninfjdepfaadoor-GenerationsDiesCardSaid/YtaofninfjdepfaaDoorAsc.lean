/-
  Lists of numbers that ascend strictly within bounds: lifelike.ascends, cellularref08.numbers, cellularref08.Has. No condition.
-/
import Derived.Test.YtaofninfjdepfaaDoorEqR
namespace Go.Proofs.YtaofninfjdepfaaDoor
open Go.RowKit
set_option maxRecDepth 100000
set_option linter.unusedVariables false

/-- strictly ascending from above last, up to n -/
def asc (last n : Int) : List Int → Bool
  | [] => true
  | k :: l => decide (last < k) && decide (k ≤ n) && asc k n l
theorem asc_drop {last n : Int} {xs : List Int} {k : Nat} (h : k < xs.length) : asc last n (xs.drop k) = (decide (last < xs[k]) && decide (xs[k] ≤ n) && asc xs[k] n (xs.drop (k + 1))) := by
  rw [List.drop_eq_getElem_cons h]; rfl
set_option maxHeartbeats 400000 in
theorem ascends_any (A : Option Addr) (xs : List Int) (c : Nat) (n : Int) (w : World) (ha : Ints w A xs) :
    Calls Tryd.prog 47 #[.slice A xs.length c, .int .i64 n] w fun e w' => e = .returned (.bool (asc (-1) n xs)) ∧ w' = w := by
  have hn := ha.le
  go_enter Tryd.func47, Tryd.ntmps47
  go_wp2
  go_loop [5, 10] (fun l i => ∃ (k : Nat) (last : Int), k ≤ xs.length ∧ i = .int .i64 k ∧ l = .int .i64 last ∧ Hid (asc (-1) n xs = asc last n (xs.drop k))) (fun _ i => xs.length - (intOf i).toNat)
  case atStart => exact ⟨0, -1, Nat.zero_le _, rfl, rfl, Lib.hid rfl⟩
  case round =>
    obtain ⟨k, last, hk, rfl, rfl, HT⟩ := hrel
    by_cases hlt : k < xs.length
    · obtain ⟨b1, o1, rfl, -, hc⟩ := ha.at_ hlt
      have hd := asc_drop (last := last) (n := n) hlt
      rw [← HT.out] at hd
      have HD := Lib.hid hd
      clear hd HT
      by_cases h1 : xs[k] ≤ last
      · have hno : asc (-1) n xs = false := by rw [HD.out, decide_eq_false (by omega)]; rfl
        have HN := Lib.hid hno
        clear hno
        go_wp2
        go_ret
        exact ⟨ret_bool HN.out.symm, rfl⟩
      · by_cases h2 : n < xs[k]
        · have hno : asc (-1) n xs = false := by rw [HD.out, decide_eq_false (p := xs[k] ≤ n) (by omega)]; simp
          have HN := Lib.hid hno
          clear hno
          go_wp2
          go_ret
          exact ⟨ret_bool HN.out.symm, rfl⟩
        · have hyes : asc (-1) n xs = asc xs[k] n (xs.drop (k + 1)) := by rw [HD.out, decide_eq_true (p := last < xs[k]) (by omega), decide_eq_true (p := xs[k] ≤ n) (by omega)]; rfl
          have HY := Lib.hid hyes
          clear hyes
          go_wp2
          go_round
          case rel => exact ⟨k + 1, _, by omega, by go_num, rfl, HY⟩
          case measure => simp [intOf]; omega
    · obtain rfl : k = xs.length := by omega
      have hyes : asc (-1) n xs = true := by rw [HT.out, List.drop_length]; rfl
      have HY := Lib.hid hyes
      clear hyes
      go_wp2
      go_ret
      exact ⟨ret_bool HY.out.symm, rfl⟩

/-- what stands before place k: -1 ahead of the first -/
def prevOf (xs : List Int) : Nat → Int
  | 0 => -1
  | k + 1 => xs.getD k (-1)
set_option maxHeartbeats 800000 in
theorem numbers_any (A : Option Addr) (xs : List Int) (c : Nat) (n : Int) (w : World) (ha : Ints w A xs) :
    Calls Tryd.prog 45 #[.slice A xs.length c, .int .i64 n] w fun e w' => e = .returned (.bool (asc (-1) n xs)) ∧ Qt w w' := by
  have hn := ha.le
  go_enter Tryd.func45, Tryd.ntmps45
  go_wp2
  go_loopw [5] (fun i wr => ∃ (k q : Nat), k ≤ xs.length ∧ i = .int .i64 k ∧ wr = w.drewN q ∧ Hid (asc (-1) n xs = asc (prevOf xs k) n (xs.drop k) ∧ -1 ≤ prevOf xs k)) (fun i _ => xs.length - (intOf i).toNat)
  case atStart => exact ⟨0, 0, Nat.zero_le _, rfl, rfl, Lib.hid ⟨rfl, by simp [prevOf]⟩⟩
  case round =>
    obtain ⟨k, q, hk, rfl, rfl, HT⟩ := hrel
    by_cases hlt : k < xs.length
    · obtain ⟨b1, o1, rfl, -, hc⟩ := ha.at_ hlt
      have hd := asc_drop (last := prevOf xs k) (n := n) hlt
      rw [← HT.out.1] at hd
      have HD := Lib.hid hd
      clear hd
      by_cases h1 : xs[k] < 0
      · have d1 : decide (xs[k] < 0) = true := decide_eq_true h1
        have hno : asc (-1) n xs = false := by
          rw [HD.out, decide_eq_false]
          · rfl
          · have := HT.out.2; omega
        have HN := Lib.hid hno
        clear hno
        go_wp2
        go_quiet (fail)
        go_wp2
        go_ret
        exact ⟨ret_bool HN.out.symm, (Qt.drewN _ _).step _⟩
      · have hnext : prevOf xs (k + 1) = xs[k] := by simp [prevOf, List.getElem?_eq_getElem hlt]
        have d1 : decide (xs[k] < 0) = false := decide_eq_false h1
        by_cases h2 : n < xs[k]
        · have hno : asc (-1) n xs = false := by rw [HD.out, decide_eq_false (p := xs[k] ≤ n) (by omega)]; simp
          have HN := Lib.hid hno
          have d2 : decide (n < xs[k]) = true := decide_eq_true h2
          clear hno hnext
          go_wp2
          go_quiet (fail)
          go_wp2
          go_ret
          exact ⟨ret_bool HN.out.symm, (Qt.drewN _ _).step _⟩
        · have d2 : decide (n < xs[k]) = false := decide_eq_false h2
          by_cases h3 : 0 < k
          · have d3 : decide ((0 : Int) < (k : Int)) = true := decide_eq_true (by omega)
            have hlt' : k - 1 < xs.length := by omega
            obtain ⟨b2, o2, he, -, hc2⟩ := ha.at_ hlt'
            have hprev : prevOf xs k = xs[k - 1] := by
              obtain ⟨m, rfl⟩ : ∃ m, k = m + 1 := ⟨k - 1, by omega⟩
              show xs.getD m (-1) = xs[m]
              rw [List.getD_eq_getElem?_getD, List.getElem?_eq_getElem (by omega)]
              rfl
            rw [hprev] at HD
            clear hprev
            obtain ⟨rfl, rfl⟩ : b1 = b2 ∧ o1 = o2 := by injection he with he; injection he with h1 h2; exact ⟨h1, h2⟩
            clear he
            have hidx : ((k : Int) - 1).toNat = k - 1 := by omega
            by_cases h4 : xs[k] ≤ xs[k - 1]
            · have d4 : decide (xs[k] ≤ xs[k - 1]) = true := decide_eq_true h4
              have hno : asc (-1) n xs = false := by rw [HD.out, decide_eq_false (p := xs[k - 1] < xs[k]) (by omega)]; simp
              have HN := Lib.hid hno
              clear hno hnext
              go_wp2
              go_quiet (fail)
              go_wp2
              go_ret
              exact ⟨ret_bool HN.out.symm, (Qt.drewN _ _).step _⟩
            · have d4 : decide (xs[k] ≤ xs[k - 1]) = false := decide_eq_false h4
              have hyes : asc (-1) n xs = asc (prevOf xs (k + 1)) n (xs.drop (k + 1)) ∧ -1 ≤ prevOf xs (k + 1) := by
                rw [hnext, HD.out, decide_eq_true (p := xs[k - 1] < xs[k]) (by omega), decide_eq_true (p := xs[k] ≤ n) (by omega)]; exact ⟨rfl, by omega⟩
              have HY := Lib.hid hyes
              clear hyes hnext
              go_wp2
              go_quiet (fail)
              go_wp2
              go_roundw
              case rel => exact ⟨k + 1, _, by omega, by go_num, rfl, HY⟩
              case measure => simp [intOf]; omega
          · have d3 : decide ((0 : Int) < (k : Int)) = false := decide_eq_false (by omega)
            have d3' : decide (0 < k) = false := decide_eq_false h3
            have hyes : asc (-1) n xs = asc (prevOf xs (k + 1)) n (xs.drop (k + 1)) ∧ -1 ≤ prevOf xs (k + 1) := by
              obtain rfl : k = 0 := by omega
              rw [hnext, HD.out, decide_eq_true (p := prevOf xs 0 < xs[0]) (by show (-1 : Int) < xs[0]; omega), decide_eq_true (p := xs[0] ≤ n) (by omega)]; exact ⟨rfl, by omega⟩
            have HY := Lib.hid hyes
            clear hyes hnext h3
            go_wp2
            go_quiet (fail)
            go_wp2
            go_roundw
            case rel => exact ⟨k + 1, _, by omega, by go_num, rfl, HY⟩
            case measure => simp [intOf]; omega
    · obtain rfl : k = xs.length := by omega
      have hyes : asc (-1) n xs = true := by rw [HT.out.1, List.drop_length]; rfl
      have HY := Lib.hid hyes
      clear hyes
      go_wp2
      go_ret
      exact ⟨ret_bool HY.out.symm, Qt.drewN _ _⟩

set_option maxHeartbeats 400000 in
theorem has_any (A : Option Addr) (xs : List Int) (c : Nat) (n : Int) (w : World) (ha : Ints w A xs) :
    Calls Tryd.prog 43 #[.slice A xs.length c, .int .i64 n] w fun e w' => e = .returned (.bool (decide (n ∈ xs))) ∧ w' = w := by
  have hn := ha.le
  go_enter Tryd.func43, Tryd.ntmps43
  go_wp2
  go_loop [5] (fun i => ∃ k : Nat, k ≤ xs.length ∧ i = .int .i64 k ∧ Hid (decide (n ∈ xs) = decide (n ∈ xs.drop k))) (fun i => xs.length - (intOf i).toNat)
  case atStart => exact ⟨0, Nat.zero_le _, rfl, Lib.hid rfl⟩
  case round =>
    obtain ⟨k, hk, rfl, HT⟩ := hrel
    by_cases hlt : k < xs.length
    · obtain ⟨b1, o1, rfl, -, hc⟩ := ha.at_ hlt
      have hd : decide (n ∈ xs.drop k) = decide (n = xs[k] ∨ n ∈ xs.drop (k + 1)) := by rw [List.drop_eq_getElem_cons hlt]; simp only [List.mem_cons]
      by_cases h1 : xs[k] = n
      · have hyes : decide (n ∈ xs) = true := by rw [HT.out, hd]; exact decide_eq_true (.inl h1.symm)
        have HN := Lib.hid hyes
        have d1 : (xs[k] == n) = true := by simp [h1]
        clear hyes hd h1
        go_wp2
        go_ret
        exact ⟨ret_bool HN.out.symm, rfl⟩
      · have hyes : decide (n ∈ xs) = decide (n ∈ xs.drop (k + 1)) := by
          rw [HT.out, hd]
          exact decide_eq_decide.2 ⟨fun h => h.resolve_left (fun h => h1 h.symm), .inr⟩
        have d1 : (xs[k] == n) = false := by simp [h1]
        have HY := Lib.hid hyes
        clear hyes hd h1
        go_wp2
        go_round
        case rel => exact ⟨k + 1, by omega, by go_num, HY⟩
        case measure => simp [intOf]; omega
    · obtain rfl : k = xs.length := by omega
      have hno : decide (n ∈ xs) = false := by rw [HT.out, List.drop_length]; simp
      have HN := Lib.hid hno
      clear hno
      go_wp2
      go_ret
      exact ⟨ret_bool HN.out.symm, rfl⟩
end Go.Proofs.YtaofninfjdepfaaDoor
