/-
  The reference's neighbourhoods: cellularref07.Moore, Neumann, Hex, Abs, Same. No condition but the radius and the reach.
  Lists of numbers that ascend strictly within bounds: lifelike.ascends, cellularref14.ascending, cellularref14.Has. No condition.
  Rules by counts: lifelike.letter, Right, Same; cellularref08.known, Right, Same; the law's short. No condition.
  Rules by counts: lifelike.Right, Same; cellularref14.Right, Same; the law's short. No condition.
-/
import Derived.Test.YtmlhkbgifnifdaaGreatDoorZG17
import Derived.Test.YtmlhkbgifnifdaaGreatDoorZG9
namespace Go.Proofs.YtmlhkbgifnifdaaGreatDoor
set_option linter.unusedSimpArgs false
open Go.RowKit
set_option maxRecDepth 100000
set_option linter.unusedVariables false

set_option maxHeartbeats 400000 in
theorem abs_any (x : Int) (w : World) (h1 : -1000000 ≤ x) (h2 : x ≤ 1000000) : Calls Tryz.prog 86 #[.int .i64 x] w fun e w' => e = .returned (.int .i64 x.natAbs) ∧ w' = w := by
  go_enter Tryz.func86, Tryz.ntmps86
  go_wp2
  all_goals go_ret
  all_goals exact ⟨ret_int (by omega), rfl⟩

set_option maxHeartbeats 400000 in
theorem rmoore_any (r : Nat) (hr : r ≤ 2) (w : World) :
    Calls Tryz.prog 17 #[.int .i64 r] w (RetPts (mooreL r) w) := by
  go_enter Tryz.func17, Tryz.ntmps17
  go_wp2
  go_loopw [3, 4] (fun v y wr => ∃ j : Nat, j ≤ 2 * r + 1 ∧ y = .int .i64 ((j : Int) - r) ∧ OwnP 51 wr w.heap.size v (gridOf r inAll j) ∧ Below w.heap.size w wr) (fun _ y _ => (r + 1 - intOf y).toNat)
  case atStart => exact ⟨0, by omega, by go_num, OwnP.nil _ _ _, Below.refl _ _⟩
  case round =>
    obtain ⟨j, hj, rfl, hown, hb⟩ := hrel
    by_cases hlt : j < 2 * r + 1
    · have hdec : decide (((j : Int) - r) ≤ (r : Int)) = true := decide_eq_true (by omega)
      go_wp2
      obtain ⟨wo, rfl⟩ : ∃ wo : World, wo = wr := ⟨_, rfl⟩
      go_loopw [3, 5] (fun v x wr => ∃ i : Nat, i ≤ 2 * r + 1 ∧ x = .int .i64 ((i : Int) - r) ∧ OwnP 51 wr w.heap.size v (gridOf r inAll j ++ rowOf r inAll ((j : Int) - r) i) ∧ Below w.heap.size w wr) (fun _ x _ => (r + 1 - intOf x).toNat)
      case atStart => exact ⟨0, by omega, by go_num, by simpa [rowOf] using hown, hb⟩
      case round =>
        obtain ⟨i, hi, rfl, hown2, hb2⟩ := hrel
        clear hown
        by_cases hlt2 : i < 2 * r + 1
        · have hlen := gridOf_len r inAll j (by omega)
          have hlen2 := rowOf_len r inAll ((j : Int) - r) i
          have hlen3 : j * (2 * r + 1) ≤ 5 * 5 := Nat.mul_le_mul (by omega) (by omega)
          have hlen4 : (gridOf r inAll j ++ rowOf r inAll ((j : Int) - r) i).length < 1000000000000 := by
            rw [List.length_append]; omega
          clear hlen hlen2 hlen3
          have HP := rowOf_yes (p := inAll) (y := (j : Int) - r) hlt2 rfl
          have HP2 := Lib.hid HP
          clear HP
          go_wp2_with (at_builtin; refine wpList_pushP rfl _ _ _ rfl w.heap.size 51 Tryz.underlying22 Tryz.infoPt _ _ rfl hown2 _ _ rfl hlen4 hb2.size ?_)
          intro v' w1 hown3 hb3
          have hb4 := hb2.trans hb3
          go_wp2
          go_roundw
          case rel => exact ⟨i + 1, by omega, by go_num, by rw [HP2.out]; exact hown3, hb4⟩
          case measure => simp [intOf]; omega
        · obtain rfl : i = 2 * r + 1 := by omega
          have HG := Lib.hid (gridOf_succ (p := inAll) hlt)
          go_wp2
          go_roundw
          case rel => exact ⟨j + 1, by omega, by go_num, by rw [HG.out]; exact hown2, hb2⟩
          case measure => simp [intOf]; omega
    · obtain rfl : j = 2 * r + 1 := by omega
      obtain ⟨A, c, hv, hp, hnew⟩ := hown.pts
      subst hv
      go_wp2
      go_ret
      exact ⟨A, c, rfl, hp, hnew, hb⟩
theorem neum_eq : ∀ r : Nat, r ≤ 2 → (mooreL r).filter (fun p => inDia r p.1 p.2) = neumL r := by decide
theorem moore_len : ∀ r : Nat, r ≤ 2 → (mooreL r).length ≤ 25 := by decide
theorem moore_rng : ∀ r : Nat, r ≤ 2 → ∀ p ∈ mooreL r, -2 ≤ p.1 ∧ p.1 ≤ 2 ∧ -2 ≤ p.2 ∧ p.2 ≤ 2 := by decide
set_option maxHeartbeats 400000 in
theorem rneum_any (r : Nat) (hr : r ≤ 2) (w : World) :
    Calls Tryz.prog 64 #[.int .i64 r] w (RetPts (neumL r) w) := by
  rw [← neum_eq r hr]
  have hM := Lib.hid (rmoore_any r hr w)
  have hlen := moore_len r hr
  have hrng := Lib.hid (moore_rng r hr)
  go_enter Tryz.func64, Tryz.ntmps64
  go_wp2_with fail
  refine hM.out.mono ?_
  rintro e w1 ⟨A, c, rfl, hp, hnew, hb⟩
  clear hM
  go_wp2
  go_loopw [4, 5] (fun v i wr => ∃ k : Nat, k ≤ (mooreL r).length ∧ i = .int .i64 k ∧ OwnP 51 wr w1.heap.size v (((mooreL r).take k).filter (fun p => inDia r p.1 p.2)) ∧ Below w1.heap.size w1 wr) (fun _ i _ => (mooreL r).length - (intOf i).toNat)
  case atStart => exact ⟨0, by omega, rfl, OwnP.nil _ _ _, Below.refl _ _⟩
  case round =>
    obtain ⟨k, hk, rfl, hown, hbr⟩ := hrel
    have hpr := hp.ext hbr
    by_cases hlt : k < (mooreL r).length
    · obtain ⟨b1, o1, rfl, hbb, hc, hc'⟩ := hpr.at_ hlt
      have hg := hrng.out _ (List.getElem_mem hlt)
      obtain ⟨g1, g2, g3, g4⟩ := hg
      have hta := Lib.hid (List.take_succ_eq_append_getElem hlt)
      go_wp2
      go_quiet ((go_at_call 86; exact Calls.quiet_of_same (abs_any _ _ (by omega) (by omega))))
      have hl2 : (((mooreL r).take k).filter (fun p => inDia r p.1 p.2)).length < 1000000000000 := by
        have := List.length_filter_le (fun p : Int × Int => inDia r p.1 p.2) ((mooreL r).take k)
        have := List.length_take_le k (mooreL r)
        omega
      by_cases hin : (((mooreL r)[k].1.natAbs : Int) + ((mooreL r)[k].2.natAbs : Int)) ≤ (r : Int)
      · have hf : ((mooreL r).take (k + 1)).filter (fun p => inDia r p.1 p.2) = ((mooreL r).take k).filter (fun p => inDia r p.1 p.2) ++ [((mooreL r)[k].1, (mooreL r)[k].2)] := by
          rw [hta.out, List.filter_append]
          have : inDia r (mooreL r)[k].1 (mooreL r)[k].2 = true := decide_eq_true (by omega)
          simp [this]
        have HF := Lib.hid hf
        clear hf
        go_wp2_with (at_builtin; refine wpList_pushP rfl _ _ _ rfl w1.heap.size 51 Tryz.underlying22 Tryz.infoPt _ _ rfl (hown.drewN _) _ _ rfl hl2 hbr.size ?_)
        intro v' w2 hown2 hb2
        have hb3 := (below_drewN hbr nq).trans hb2
        go_wp2
        go_roundw
        case rel => exact ⟨k + 1, by omega, by go_num, by rw [HF.out]; exact hown2, hb3⟩
        case measure => simp [intOf]; omega
      · have hf : ((mooreL r).take (k + 1)).filter (fun p => inDia r p.1 p.2) = ((mooreL r).take k).filter (fun p => inDia r p.1 p.2) := by
          rw [hta.out, List.filter_append]
          have : inDia r (mooreL r)[k].1 (mooreL r)[k].2 = false := decide_eq_false (by omega)
          simp [this]
        have HF := Lib.hid hf
        clear hf
        go_wp2
        go_roundw
        case rel => exact ⟨k + 1, by omega, by go_num, by rw [HF.out]; exact hown.drewN _, below_drewN hbr nq⟩
        case measure => simp [intOf]; omega
    · obtain rfl : k = (mooreL r).length := by omega
      rw [List.take_length] at hown
      obtain ⟨A2, c2, hv, hp2, hnew2⟩ := hown.pts
      subst hv
      have hb2 := hb.trans (hbr.mono hb.size)
      go_wp2
      go_ret
      exact ⟨A2, c2, rfl, hp2, hnew2.mono hb.size, hb2⟩
theorem hex_eq : hexL = [(-1, -1), (0, -1), (-1, 0), (0, 0), (1, 0), (0, 1), (1, 1)] := by decide
set_option maxHeartbeats 400000 in
theorem rhex_any (w : World) :
    Calls Tryz.prog 65 #[] w (RetPts hexL w) := by
  go_enter Tryz.func65, Tryz.ntmps65
  go_wp2
  go_ret
  refine ⟨_, _, rfl, ?_, (by intro ad e; injection e with e; subst e; exact Nat.le_refl _), (Below.refl _ _).alloc (Nat.le_refl _) _⟩
  refine ⟨⟨by decide, fun _ => ⟨_, rfl, by simp, fun j u hj => ?_⟩⟩, by decide⟩
  rw [addr_add, cell_of_row _ _ _ _ _ _ (heap_alloc_new w _)]
  rw [hex_eq] at hj
  simpa [ptCells] using hj
end Go.Proofs.YtmlhkbgifnifdaaGreatDoor
namespace Go.Proofs.YtmlhkbgifnifdaaGreatDoor
set_option linter.unusedSimpArgs false
open Go.RowKit
set_option maxRecDepth 100000
set_option linter.unusedVariables false

/-- strictly ascending from above last, up to n -/
def asc (last n : Int) : List Int → Bool
  | [] => true
  | k :: l => decide (last < k) && decide (k ≤ n) && asc k n l
theorem asc_drop {last n : Int} {xs : List Int} {k : Nat} (h : k < xs.length) : asc last n (xs.drop k) = (decide (last < xs[k]) && decide (xs[k] ≤ n) && asc xs[k] n (xs.drop (k + 1))) := by
  rw [List.drop_eq_getElem_cons h]; rfl
set_option maxHeartbeats 400000 in
theorem ascends_any (A : Option Addr) (xs : List Int) (c : Nat) (n : Int) (w : World) (ha : Ints w A xs) :
    Calls Tryz.prog 56 #[.slice A xs.length c, .int .i64 n] w fun e w' => e = .returned (.bool (asc (-1) n xs)) ∧ w' = w := by
  have hn := ha.le
  go_enter Tryz.func56, Tryz.ntmps56
  go_wp2
  go_loop [5, 10] (fun l i => ∃ (k : Nat) (last : Int), k ≤ xs.length ∧ i = .int .i64 k ∧ l = .int .i64 last ∧ Hid (asc (-1) n xs = asc last n (xs.drop k))) (fun _ i => xs.length - (intOf i).toNat)
  case atStart => exact ⟨0, -1, Nat.zero_le _, rfl, rfl, Lib.hid rfl⟩
  case round =>
    obtain ⟨k, last, hk, rfl, rfl, HT⟩ := hrel
    by_cases hlt : k < xs.length
    · obtain ⟨b1, o1, rfl, -, hc⟩ := ha.at_ hlt
      have hd := asc_drop (last := last) (n := n) hlt
      rw [← HT.out] at hd
      have HD := Lib.hid hd
      clear hd HT
      by_cases h1 : xs[k] ≤ last
      · have hno : asc (-1) n xs = false := by rw [HD.out, decide_eq_false (by omega)]; rfl
        have HN := Lib.hid hno
        clear hno
        go_wp2
        go_ret
        exact ⟨ret_bool HN.out.symm, rfl⟩
      · by_cases h2 : n < xs[k]
        · have hno : asc (-1) n xs = false := by rw [HD.out, decide_eq_false (p := xs[k] ≤ n) (by omega)]; simp
          have HN := Lib.hid hno
          clear hno
          go_wp2
          go_ret
          exact ⟨ret_bool HN.out.symm, rfl⟩
        · have hyes : asc (-1) n xs = asc xs[k] n (xs.drop (k + 1)) := by rw [HD.out, decide_eq_true (p := last < xs[k]) (by omega), decide_eq_true (p := xs[k] ≤ n) (by omega)]; rfl
          have HY := Lib.hid hyes
          clear hyes
          go_wp2
          go_round
          case rel => exact ⟨k + 1, _, by omega, by go_num, rfl, HY⟩
          case measure => simp [intOf]; omega
    · obtain rfl : k = xs.length := by omega
      have hyes : asc (-1) n xs = true := by rw [HT.out, List.drop_length]; rfl
      have HY := Lib.hid hyes
      clear hyes
      go_wp2
      go_ret
      exact ⟨ret_bool HY.out.symm, rfl⟩

/-- what stands before place k: -1 ahead of the first -/
def prevOf (xs : List Int) : Nat → Int
  | 0 => -1
  | k + 1 => xs.getD k (-1)
set_option maxHeartbeats 800000 in
theorem ascending_any (A : Option Addr) (xs : List Int) (c : Nat) (n : Int) (w : World) (ha : Ints w A xs) :
    Calls Tryz.prog 73 #[.slice A xs.length c, .int .i64 n] w fun e w' => e = .returned (.bool (asc (-1) n xs)) ∧ Qt w w' := by
  have hn := ha.le
  go_enter Tryz.func73, Tryz.ntmps73
  go_wp2
  go_loopw [5] (fun i wr => ∃ (k q : Nat), k ≤ xs.length ∧ i = .int .i64 k ∧ wr = w.drewN q ∧ Hid (asc (-1) n xs = asc (prevOf xs k) n (xs.drop k) ∧ -1 ≤ prevOf xs k)) (fun i _ => xs.length - (intOf i).toNat)
  case atStart => exact ⟨0, 0, Nat.zero_le _, rfl, rfl, Lib.hid ⟨rfl, by simp [prevOf]⟩⟩
  case round =>
    obtain ⟨k, q, hk, rfl, rfl, HT⟩ := hrel
    by_cases hlt : k < xs.length
    · obtain ⟨b1, o1, rfl, -, hc⟩ := ha.at_ hlt
      have hd := asc_drop (last := prevOf xs k) (n := n) hlt
      rw [← HT.out.1] at hd
      have HD := Lib.hid hd
      clear hd
      by_cases h1 : xs[k] < 0
      · have d1 : decide (xs[k] < 0) = true := decide_eq_true h1
        have hno : asc (-1) n xs = false := by
          rw [HD.out, decide_eq_false]
          · rfl
          · have := HT.out.2; omega
        have HN := Lib.hid hno
        clear hno
        go_wp2
        go_quiet (fail)
        go_wp2
        go_ret
        exact ⟨ret_bool HN.out.symm, (Qt.drewN _ _).step _⟩
      · have hnext : prevOf xs (k + 1) = xs[k] := by simp [prevOf, List.getElem?_eq_getElem hlt]
        have d1 : decide (xs[k] < 0) = false := decide_eq_false h1
        by_cases h2 : n < xs[k]
        · have hno : asc (-1) n xs = false := by rw [HD.out, decide_eq_false (p := xs[k] ≤ n) (by omega)]; simp
          have HN := Lib.hid hno
          have d2 : decide (n < xs[k]) = true := decide_eq_true h2
          clear hno hnext
          go_wp2
          go_quiet (fail)
          go_wp2
          go_ret
          exact ⟨ret_bool HN.out.symm, (Qt.drewN _ _).step _⟩
        · have d2 : decide (n < xs[k]) = false := decide_eq_false h2
          by_cases h3 : 0 < k
          · have d3 : decide ((0 : Int) < (k : Int)) = true := decide_eq_true (by omega)
            have hlt' : k - 1 < xs.length := by omega
            obtain ⟨b2, o2, he, -, hc2⟩ := ha.at_ hlt'
            have hprev : prevOf xs k = xs[k - 1] := by
              obtain ⟨m, rfl⟩ : ∃ m, k = m + 1 := ⟨k - 1, by omega⟩
              show xs.getD m (-1) = xs[m]
              rw [List.getD_eq_getElem?_getD, List.getElem?_eq_getElem (by omega)]
              rfl
            rw [hprev] at HD
            clear hprev
            obtain ⟨rfl, rfl⟩ : b1 = b2 ∧ o1 = o2 := by injection he with he; injection he with h1 h2; exact ⟨h1, h2⟩
            clear he
            have hidx : ((k : Int) - 1).toNat = k - 1 := by omega
            by_cases h4 : xs[k] ≤ xs[k - 1]
            · have d4 : decide (xs[k] ≤ xs[k - 1]) = true := decide_eq_true h4
              have hno : asc (-1) n xs = false := by rw [HD.out, decide_eq_false (p := xs[k - 1] < xs[k]) (by omega)]; simp
              have HN := Lib.hid hno
              clear hno hnext
              go_wp2
              go_quiet (fail)
              go_wp2
              go_ret
              exact ⟨ret_bool HN.out.symm, (Qt.drewN _ _).step _⟩
            · have d4 : decide (xs[k] ≤ xs[k - 1]) = false := decide_eq_false h4
              have hyes : asc (-1) n xs = asc (prevOf xs (k + 1)) n (xs.drop (k + 1)) ∧ -1 ≤ prevOf xs (k + 1) := by
                rw [hnext, HD.out, decide_eq_true (p := xs[k - 1] < xs[k]) (by omega), decide_eq_true (p := xs[k] ≤ n) (by omega)]; exact ⟨rfl, by omega⟩
              have HY := Lib.hid hyes
              clear hyes hnext
              go_wp2
              go_quiet (fail)
              go_wp2
              go_roundw
              case rel => exact ⟨k + 1, _, by omega, by go_num, rfl, HY⟩
              case measure => simp [intOf]; omega
          · have d3 : decide ((0 : Int) < (k : Int)) = false := decide_eq_false (by omega)
            have d3' : decide (0 < k) = false := decide_eq_false h3
            have hyes : asc (-1) n xs = asc (prevOf xs (k + 1)) n (xs.drop (k + 1)) ∧ -1 ≤ prevOf xs (k + 1) := by
              obtain rfl : k = 0 := by omega
              rw [hnext, HD.out, decide_eq_true (p := prevOf xs 0 < xs[0]) (by show (-1 : Int) < xs[0]; omega), decide_eq_true (p := xs[0] ≤ n) (by omega)]; exact ⟨rfl, by omega⟩
            have HY := Lib.hid hyes
            clear hyes hnext h3
            go_wp2
            go_quiet (fail)
            go_wp2
            go_roundw
            case rel => exact ⟨k + 1, _, by omega, by go_num, rfl, HY⟩
            case measure => simp [intOf]; omega
    · obtain rfl : k = xs.length := by omega
      have hyes : asc (-1) n xs = true := by rw [HT.out.1, List.drop_length]; rfl
      have HY := Lib.hid hyes
      clear hyes
      go_wp2
      go_ret
      exact ⟨ret_bool HY.out.symm, Qt.drewN _ _⟩

set_option maxHeartbeats 400000 in
theorem has_any (A : Option Addr) (xs : List Int) (c : Nat) (n : Int) (w : World) (ha : Ints w A xs) :
    Calls Tryz.prog 16 #[.slice A xs.length c, .int .i64 n] w fun e w' => e = .returned (.bool (decide (n ∈ xs))) ∧ w' = w := by
  have hn := ha.le
  go_enter Tryz.func16, Tryz.ntmps16
  go_wp2
  go_loop [5] (fun i => ∃ k : Nat, k ≤ xs.length ∧ i = .int .i64 k ∧ Hid (decide (n ∈ xs) = decide (n ∈ xs.drop k))) (fun i => xs.length - (intOf i).toNat)
  case atStart => exact ⟨0, Nat.zero_le _, rfl, Lib.hid rfl⟩
  case round =>
    obtain ⟨k, hk, rfl, HT⟩ := hrel
    by_cases hlt : k < xs.length
    · obtain ⟨b1, o1, rfl, -, hc⟩ := ha.at_ hlt
      have hd : decide (n ∈ xs.drop k) = decide (n = xs[k] ∨ n ∈ xs.drop (k + 1)) := by rw [List.drop_eq_getElem_cons hlt]; simp only [List.mem_cons]
      by_cases h1 : xs[k] = n
      · have hyes : decide (n ∈ xs) = true := by rw [HT.out, hd]; exact decide_eq_true (.inl h1.symm)
        have HN := Lib.hid hyes
        have d1 : (xs[k] == n) = true := by simp [h1]
        clear hyes hd h1
        go_wp2
        go_ret
        exact ⟨ret_bool HN.out.symm, rfl⟩
      · have hyes : decide (n ∈ xs) = decide (n ∈ xs.drop (k + 1)) := by
          rw [HT.out, hd]
          exact decide_eq_decide.2 ⟨fun h => h.resolve_left (fun h => h1 h.symm), .inr⟩
        have d1 : (xs[k] == n) = false := by simp [h1]
        have HY := Lib.hid hyes
        clear hyes hd h1
        go_wp2
        go_round
        case rel => exact ⟨k + 1, by omega, by go_num, HY⟩
        case measure => simp [intOf]; omega
    · obtain rfl : k = xs.length := by omega
      have hno : decide (n ∈ xs) = false := by rw [HT.out, List.drop_length]; simp
      have HN := Lib.hid hno
      clear hno
      go_wp2
      go_ret
      exact ⟨ret_bool HN.out.symm, rfl⟩
end Go.Proofs.YtmlhkbgifnifdaaGreatDoor
namespace Go.Proofs.YtmlhkbgifnifdaaGreatDoor
set_option linter.unusedSimpArgs false
open Go.RowKit
set_option maxRecDepth 100000
set_option linter.unusedVariables false

structure TotL where
  hood : List (Int × Int)
  states : Int
  birth : List Int
  survive : List Int
  deriving DecidableEq

/-- the value of a rule by counts: its slices at A, B, C -/
def totV (A : Option Addr) (a : Nat) (B : Option Addr) (b : Nat) (C : Option Addr) (c : Nat) (t : TotL) : Value :=
  .agg #[.slice A t.hood.length a, .int .i64 t.states, .slice B t.birth.length b, .slice C t.survive.length c]
/-- the slices at A, B, C read as the rule's -/
structure TotR (w : World) (A B C : Option Addr) (t : TotL) : Prop where
  hood : Pts w A t.hood
  birth : Ints w B t.birth
  survive : Ints w C t.survive
theorem TotR.ext {w w' : World} {A B C : Option Addr} {t : TotL} (h : TotR w A B C t) (hb : Below w.heap.size w w') : TotR w' A B C t :=
  ⟨h.hood.ext hb, h.birth.ext hb, h.survive.ext hb⟩
def knownB (ps : List (Int × Int)) : Bool := decide (ps = mooreL 1) || decide (ps = neumL 1) || decide (ps = hexL)
def letterS (ps : List (Int × Int)) : ByteArray := if ps = mooreL 1 then ⟨#[]⟩ else if ps = neumL 1 then ⟨#[86]⟩ else if ps = hexL then ⟨#[72]⟩ else ⟨#[]⟩
def rightT (t : TotL) : Bool := knownB t.hood && decide (2 ≤ t.states) && decide (t.states ≤ 8) && asc (-1) ((t.hood.length : Int) - 1) t.birth && asc (-1) ((t.hood.length : Int) - 1) t.survive
def shortT (t : TotL) : Bool := decide (t.hood.length ≤ 100) && decide (t.birth.length ≤ 100) && decide (t.survive.length ≤ 100)
theorem moore_one (w : World) : Calls Tryz.prog 78 #[.int .i64 1] w (RetPts (mooreL 1) w) := moore_any 1 (by omega) w
theorem neum_one (w : World) : Calls Tryz.prog 79 #[.int .i64 1] w (RetPts (neumL 1) w) := neum_any 1 (by omega) w
theorem rmoore_one (w : World) : Calls Tryz.prog 17 #[.int .i64 1] w (RetPts (mooreL 1) w) := rmoore_any 1 (by omega) w
theorem rneum_one (w : World) : Calls Tryz.prog 64 #[.int .i64 1] w (RetPts (neumL 1) w) := rneum_any 1 (by omega) w
set_option maxHeartbeats 800000 in
theorem letter_any (A : Option Addr) (ps : List (Int × Int)) (c : Nat) (w : World) (ha : Pts w A ps) :
    Calls Tryz.prog 55 #[.slice A ps.length c] w fun e w' => e = .returned (.tuple #[.string (letterS ps), .bool (knownB ps)]) ∧ Below w.heap.size w w' := by
  by_cases h1 : ps = mooreL 1
  · have e1 : letterS ps = ⟨#[]⟩ := by unfold letterS; rw [if_pos h1]
    have e2 : knownB ps = true := by unfold knownB; rw [decide_eq_true h1]; rfl
    rw [e1, e2]
    have d1 : decide (ps = mooreL 1) = true := decide_eq_true h1
    clear e1 e2 h1
    go_enter Tryz.func55, Tryz.ntmps55
    go_wp2_with fail
    refine (moore_one _).mono ?_
    rintro e w1 ⟨A1, c1, rfl, hp1, -, hb1⟩
    go_wp2_with fail
    refine (hsame_any _ _ _ _ _ _ _ (ha.ext hb1) hp1).mono ?_
    rintro e w2 ⟨rfl, hq⟩
    go_wp2
    go_ret2
    exact ⟨rfl, hb1.trans (hq.mono hb1.size)⟩
  · have d1 : decide (ps = mooreL 1) = false := decide_eq_false h1
    by_cases h2 : ps = neumL 1
    · have e1 : letterS ps = ⟨#[86]⟩ := by unfold letterS; rw [if_neg h1, if_pos h2]
      have e2 : knownB ps = true := by unfold knownB; rw [d1, decide_eq_true h2]; rfl
      rw [e1, e2]
      have d2 : decide (ps = neumL 1) = true := decide_eq_true h2
      clear e1 e2 h1 h2
      go_enter Tryz.func55, Tryz.ntmps55
      go_wp2_with fail
      refine (moore_one _).mono ?_
      rintro e w1 ⟨A1, c1, rfl, hp1, -, hb1⟩
      go_wp2_with fail
      refine (hsame_any _ _ _ _ _ _ _ (ha.ext hb1) hp1).mono ?_
      rintro e w2 ⟨rfl, hq⟩
      have hb2 := hb1.trans (hq.mono hb1.size)
      go_wp2_with fail
      refine (neum_one _).mono ?_
      rintro e w3 ⟨A3, c3, rfl, hp3, -, hb3⟩
      have hb4 := hb2.trans (hb3.mono hb2.size)
      go_wp2_with fail
      refine (hsame_any _ _ _ _ _ _ _ (ha.ext hb4) hp3).mono ?_
      rintro e w4 ⟨rfl, hq4⟩
      go_wp2
      go_ret2
      exact ⟨rfl, hb4.trans (hq4.mono hb4.size)⟩
    · have d2 : decide (ps = neumL 1) = false := decide_eq_false h2
      have e1 : letterS ps = if ps = hexL then ⟨#[72]⟩ else ⟨#[]⟩ := by unfold letterS; rw [if_neg h1, if_neg h2]
      have e2 : knownB ps = decide (ps = hexL) := by unfold knownB; rw [d1, d2]; rfl
      rw [e1, e2]
      clear e1 e2 h1 h2
      by_cases h3 : ps = hexL
      · rw [if_pos h3]
        have d3 : decide (ps = hexL) = true := decide_eq_true h3
        rw [d3]
        clear h3
        go_enter Tryz.func55, Tryz.ntmps55
        go_wp2_with fail
        refine (moore_one _).mono ?_
        rintro e w1 ⟨A1, c1, rfl, hp1, -, hb1⟩
        go_wp2_with fail
        refine (hsame_any _ _ _ _ _ _ _ (ha.ext hb1) hp1).mono ?_
        rintro e w2 ⟨rfl, hq⟩
        have hb2 := hb1.trans (hq.mono hb1.size)
        go_wp2_with fail
        refine (neum_one _).mono ?_
        rintro e w3 ⟨A3, c3, rfl, hp3, -, hb3⟩
        have hb4 := hb2.trans (hb3.mono hb2.size)
        go_wp2_with fail
        refine (hsame_any _ _ _ _ _ _ _ (ha.ext hb4) hp3).mono ?_
        rintro e w4 ⟨rfl, hq4⟩
        have hb5 := hb4.trans (hq4.mono hb4.size)
        go_wp2_with fail
        refine (hex_any _).mono ?_
        rintro e w5 ⟨A5, c5, rfl, hp5, -, hb5'⟩
        have hb6 := hb5.trans (hb5'.mono hb5.size)
        go_wp2_with fail
        refine (hsame_any _ _ _ _ _ _ _ (ha.ext hb6) hp5).mono ?_
        rintro e w6 ⟨rfl, hq6⟩
        go_wp2
        go_ret2
        exact ⟨rfl, hb6.trans (hq6.mono hb6.size)⟩
      · rw [if_neg h3]
        have d3 : decide (ps = hexL) = false := decide_eq_false h3
        rw [d3]
        clear h3
        go_enter Tryz.func55, Tryz.ntmps55
        go_wp2_with fail
        refine (moore_one _).mono ?_
        rintro e w1 ⟨A1, c1, rfl, hp1, -, hb1⟩
        go_wp2_with fail
        refine (hsame_any _ _ _ _ _ _ _ (ha.ext hb1) hp1).mono ?_
        rintro e w2 ⟨rfl, hq⟩
        have hb2 := hb1.trans (hq.mono hb1.size)
        go_wp2_with fail
        refine (neum_one _).mono ?_
        rintro e w3 ⟨A3, c3, rfl, hp3, -, hb3⟩
        have hb4 := hb2.trans (hb3.mono hb2.size)
        go_wp2_with fail
        refine (hsame_any _ _ _ _ _ _ _ (ha.ext hb4) hp3).mono ?_
        rintro e w4 ⟨rfl, hq4⟩
        have hb5 := hb4.trans (hq4.mono hb4.size)
        go_wp2_with fail
        refine (hex_any _).mono ?_
        rintro e w5 ⟨A5, c5, rfl, hp5, -, hb5'⟩
        have hb6 := hb5.trans (hb5'.mono hb5.size)
        go_wp2_with fail
        refine (hsame_any _ _ _ _ _ _ _ (ha.ext hb6) hp5).mono ?_
        rintro e w6 ⟨rfl, hq6⟩
        go_wp2
        go_ret2
        exact ⟨rfl, hb6.trans (hq6.mono hb6.size)⟩
set_option maxHeartbeats 800000 in
theorem known_any (A : Option Addr) (ps : List (Int × Int)) (c : Nat) (w : World) (ha : Pts w A ps) :
    Calls Tryz.prog 29 #[.slice A ps.length c] w fun e w' => e = .returned (.bool (knownB ps)) ∧ Below w.heap.size w w' := by
  by_cases h1 : ps = mooreL 1
  · have e2 : knownB ps = true := by unfold knownB; rw [decide_eq_true h1]; rfl
    rw [e2]
    have d1 : decide (ps = mooreL 1) = true := decide_eq_true h1
    clear e2 h1
    go_enter Tryz.func29, Tryz.ntmps29
    go_wp2_with fail
    refine (rmoore_one _).mono ?_
    rintro e w1 ⟨A1, c1, rfl, hp1, -, hb1⟩
    go_wp2_with fail
    refine (samePtsR _ _ _ _ _ _ _ (ha.ext hb1) hp1).mono ?_
    rintro e w2 ⟨rfl, hq⟩
    go_wp2
    go_ret
    exact ⟨rfl, hb1.trans (hq.below _)⟩
  · have d1 : decide (ps = mooreL 1) = false := decide_eq_false h1
    by_cases h2 : ps = neumL 1
    · have e2 : knownB ps = true := by unfold knownB; rw [d1, decide_eq_true h2]; rfl
      rw [e2]
      have d2 : decide (ps = neumL 1) = true := decide_eq_true h2
      clear e2 h1 h2
      go_enter Tryz.func29, Tryz.ntmps29
      go_wp2_with fail
      refine (rmoore_one _).mono ?_
      rintro e w1 ⟨A1, c1, rfl, hp1, -, hb1⟩
      go_wp2_with fail
      refine (samePtsR _ _ _ _ _ _ _ (ha.ext hb1) hp1).mono ?_
      rintro e w2 ⟨rfl, hq⟩
      have hb2 := hb1.trans (hq.below _)
      go_wp2_with fail
      refine (rneum_one _).mono ?_
      rintro e w3 ⟨A3, c3, rfl, hp3, -, hb3⟩
      have hb4 := hb2.trans (hb3.mono hb2.size)
      go_wp2_with fail
      refine (samePtsR _ _ _ _ _ _ _ (ha.ext hb4) hp3).mono ?_
      rintro e w4 ⟨rfl, hq4⟩
      go_wp2
      go_ret
      exact ⟨rfl, hb4.trans (hq4.below _)⟩
    · have d2 : decide (ps = neumL 1) = false := decide_eq_false h2
      have e2 : knownB ps = decide (ps = hexL) := by unfold knownB; rw [d1, d2]; rfl
      rw [e2]
      clear e2 h1 h2
      go_enter Tryz.func29, Tryz.ntmps29
      go_wp2_with fail
      refine (rmoore_one _).mono ?_
      rintro e w1 ⟨A1, c1, rfl, hp1, -, hb1⟩
      go_wp2_with fail
      refine (samePtsR _ _ _ _ _ _ _ (ha.ext hb1) hp1).mono ?_
      rintro e w2 ⟨rfl, hq⟩
      have hb2 := hb1.trans (hq.below _)
      go_wp2_with fail
      refine (rneum_one _).mono ?_
      rintro e w3 ⟨A3, c3, rfl, hp3, -, hb3⟩
      have hb4 := hb2.trans (hb3.mono hb2.size)
      go_wp2_with fail
      refine (samePtsR _ _ _ _ _ _ _ (ha.ext hb4) hp3).mono ?_
      rintro e w4 ⟨rfl, hq4⟩
      have hb5 := hb4.trans (hq4.below _)
      go_wp2_with fail
      refine (rhex_any _).mono ?_
      rintro e w5 ⟨A5, c5, rfl, hp5, -, hb5'⟩
      have hb6 := hb5.trans (hb5'.mono hb5.size)
      go_wp2_with fail
      refine (samePtsR _ _ _ _ _ _ _ (ha.ext hb6) hp5).mono ?_
      rintro e w6 ⟨rfl, hq6⟩
      go_wp2
      go_ret
      exact ⟨rfl, hb6.trans (hq6.below _)⟩
end Go.Proofs.YtmlhkbgifnifdaaGreatDoor
namespace Go.Proofs.YtmlhkbgifnifdaaGreatDoor
set_option linter.unusedSimpArgs false
open Go.RowKit
set_option linter.unusedVariables false

set_option maxHeartbeats 800000 in
theorem lright_any (A B C : Option Addr) (a b c : Nat) (t : TotL) (w : World) (ht : TotR w A B C t) :
    Calls Tryz.prog 23 #[totV A a B b C c t] w fun e w' => e = .returned (.bool (rightT t)) ∧ Below w.heap.size w w' := by
  unfold rightT totV
  have hb0 := (Below.refl w.heap.size w).alloc (Nat.le_refl _) (.cells #[.slice A t.hood.length a, .int .i64 t.states, .slice B t.birth.length b, .slice C t.survive.length c] 30)
  have HL := Lib.hid (letter_any A t.hood a _ (ht.hood.ext hb0))
  have hn := ht.hood.le
  go_enter Tryz.func23, Tryz.ntmps23
  go_wp2_with fail
  refine HL.out.mono ?_
  rintro e w1 ⟨rfl, hb1⟩
  have hb2 := hb0.trans (hb1.mono hb0.size)
  have c0 := box_cell hb1 0 _ rfl
  have c1 := box_cell hb1 1 _ rfl
  have c2 := box_cell hb1 2 _ rfl
  have c3 := box_cell hb1 3 _ rfl
  have r2 := ascends_any B t.birth b ((t.hood.length : Int) - 1) w1 (ht.birth.ext hb2)
  have r3 := ascends_any C t.survive c ((t.hood.length : Int) - 1) w1 (ht.survive.ext hb2)
  have R := Lib.hid (And.intro r2 r3)
  clear r2 r3 HL hb0 hb1
  cases k1 : knownB t.hood
  · go_wp2
    go_ret
    exact ⟨ret_bool (by rw [k1]; rfl), hb2⟩
  cases k2 : decide (2 ≤ t.states)
  · go_wp2
    go_ret
    exact ⟨ret_bool (by rw [k1, k2]; rfl), hb2⟩
  cases k3 : decide (t.states ≤ 8)
  · go_wp2
    go_ret
    exact ⟨ret_bool (by rw [k1, k2, k3]; rfl), hb2⟩
  go_wp2_with fail
  refine R.out.1.mono ?_
  rintro e w' ⟨rfl, rfl⟩
  cases k4 : asc (-1) ((t.hood.length : Int) - 1) t.birth
  · go_wp2
    go_ret
    exact ⟨ret_bool (by rw [k1, k2, k3, k4]; rfl), hb2⟩
  go_wp2_with fail
  refine R.out.2.mono ?_
  rintro e w' ⟨rfl, rfl⟩
  go_wp2
  go_ret
  exact ⟨ret_bool (by rw [k1, k2, k3, k4]; simp), hb2⟩
set_option maxHeartbeats 800000 in
theorem tright_any (A B C : Option Addr) (a b c : Nat) (t : TotL) (w : World) (ht : TotR w A B C t) :
    Calls Tryz.prog 40 #[totV A a B b C c t] w fun e w' => e = .returned (.bool (rightT t)) ∧ Below w.heap.size w w' := by
  unfold rightT totV
  have hb0 := (Below.refl w.heap.size w).alloc (Nat.le_refl _) (.cells #[.slice A t.hood.length a, .int .i64 t.states, .slice B t.birth.length b, .slice C t.survive.length c] 30)
  have HL := Lib.hid (known_any A t.hood a _ (ht.hood.ext hb0))
  have hn := ht.hood.le
  go_enter Tryz.func40, Tryz.ntmps40
  go_wp2_with fail
  refine HL.out.mono ?_
  rintro e w1 ⟨rfl, hb1⟩
  have hb2 := hb0.trans (hb1.mono hb0.size)
  have c0 := box_cell hb1 0 _ rfl
  have c1 := box_cell hb1 1 _ rfl
  have c2 := box_cell hb1 2 _ rfl
  have c3 := box_cell hb1 3 _ rfl
  have r2 := ascending_any B t.birth b ((t.hood.length : Int) - 1) w1 (ht.birth.ext hb2)
  have R := Lib.hid r2
  clear r2 HL hb0
  cases k1 : knownB t.hood
  · go_wp2
    go_ret
    exact ⟨ret_bool (by rw [k1]; rfl), hb2⟩
  cases k2 : decide (2 ≤ t.states)
  · go_wp2
    go_ret
    exact ⟨ret_bool (by rw [k1, k2]; rfl), hb2⟩
  cases k3 : decide (t.states ≤ 8)
  · go_wp2
    go_ret
    exact ⟨ret_bool (by rw [k1, k2, k3]; rfl), hb2⟩
  go_wp2_with fail
  refine R.out.mono ?_
  rintro e w2 ⟨rfl, hq2⟩
  have hb3 := hb2.trans (hq2.below _)
  have hb1' := hb1.trans (hq2.below _)
  have c0' := box_cell hb1' 0 _ rfl
  have c2' := box_cell hb1' 2 _ rfl
  have c3' := box_cell hb1' 3 _ rfl
  have r3 := ascending_any C t.survive c ((t.hood.length : Int) - 1) w2 (ht.survive.ext hb3)
  have R3 := Lib.hid r3
  clear r3 R c0 c1 c2 c3
  cases k4 : asc (-1) ((t.hood.length : Int) - 1) t.birth
  · go_wp2
    go_ret
    exact ⟨ret_bool (by rw [k1, k2, k3, k4]; rfl), hb3⟩
  go_wp2_with fail
  refine R3.out.mono ?_
  rintro e w3 ⟨rfl, hq3⟩
  go_wp2
  go_ret
  exact ⟨ret_bool (by rw [k1, k2, k3, k4]; simp), hb3.trans (hq3.below _)⟩

set_option maxHeartbeats 800000 in
theorem short_any (A B C : Option Addr) (a b c : Nat) (t : TotL) (w : World) (ht : TotR w A B C t) :
    Calls Tryz.prog 13 #[totV A a B b C c t] w fun e w' => e = .returned (.bool (shortT t)) ∧ Below w.heap.size w w' := by
  unfold shortT totV
  have hb0 := (Below.refl w.heap.size w).alloc (Nat.le_refl _) (.cells #[.slice A t.hood.length a, .int .i64 t.states, .slice B t.birth.length b, .slice C t.survive.length c] 30)
  by_cases k1 : t.hood.length ≤ 100
  · have d1 : decide (t.hood.length ≤ 100) = true := decide_eq_true k1
    have d1' : decide ((t.hood.length : Int) ≤ 100) = true := decide_eq_true (by omega)
    by_cases k2 : t.birth.length ≤ 100
    · have d2 : decide (t.birth.length ≤ 100) = true := decide_eq_true k2
      have d2' : decide ((t.birth.length : Int) ≤ 100) = true := decide_eq_true (by omega)
      by_cases k3 : t.survive.length ≤ 100
      · have d3 : decide (t.survive.length ≤ 100) = true := decide_eq_true k3
        have d3' : decide ((t.survive.length : Int) ≤ 100) = true := decide_eq_true (by omega)
        go_enter Tryz.func13, Tryz.ntmps13
        go_wp2
        go_ret
        exact ⟨ret_bool (by rw [d1, d2, d3]; rfl), hb0⟩
      · have d3 : decide (t.survive.length ≤ 100) = false := decide_eq_false k3
        have d3' : decide ((t.survive.length : Int) ≤ 100) = false := decide_eq_false (by omega)
        go_enter Tryz.func13, Tryz.ntmps13
        go_wp2
        go_ret
        exact ⟨ret_bool (by rw [d1, d2, d3]; rfl), hb0⟩
    · have d2 : decide (t.birth.length ≤ 100) = false := decide_eq_false k2
      have d2' : decide ((t.birth.length : Int) ≤ 100) = false := decide_eq_false (by omega)
      go_enter Tryz.func13, Tryz.ntmps13
      go_wp2
      go_ret
      exact ⟨ret_bool (by rw [d1, d2]; rfl), hb0⟩
  · have d1 : decide (t.hood.length ≤ 100) = false := decide_eq_false k1
    have d1' : decide ((t.hood.length : Int) ≤ 100) = false := decide_eq_false (by omega)
    go_enter Tryz.func13, Tryz.ntmps13
    go_wp2
    go_ret
    exact ⟨ret_bool (by rw [d1]; rfl), hb0⟩
end Go.Proofs.YtmlhkbgifnifdaaGreatDoor
