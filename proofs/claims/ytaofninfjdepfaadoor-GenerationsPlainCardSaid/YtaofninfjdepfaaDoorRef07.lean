/-
  The reference's neighbourhoods: cellularref07.Moore, Neumann, Hex, Abs, Same. No condition but the radius and the reach.
-/
import Derived.Test.YtaofninfjdepfaaDoorHood
namespace Go.Proofs.YtaofninfjdepfaaDoor
open Go.RowKit
set_option maxRecDepth 100000
set_option linter.unusedVariables false

set_option maxHeartbeats 400000 in
theorem abs_any (x : Int) (w : World) (h1 : -1000000 ≤ x) (h2 : x ≤ 1000000) : Calls Tryd.prog 63 #[.int .i64 x] w fun e w' => e = .returned (.int .i64 x.natAbs) ∧ w' = w := by
  go_enter Tryd.func63, Tryd.ntmps63
  go_wp2
  all_goals go_ret
  all_goals exact ⟨ret_int (by omega), rfl⟩

set_option maxHeartbeats 400000 in
theorem rmoore_any (r : Nat) (hr : r ≤ 2) (w : World) :
    Calls Tryd.prog 34 #[.int .i64 r] w (RetPts (mooreL r) w) := by
  go_enter Tryd.func34, Tryd.ntmps34
  go_wp2
  go_loopw [3, 4] (fun v y wr => ∃ j : Nat, j ≤ 2 * r + 1 ∧ y = .int .i64 ((j : Int) - r) ∧ OwnP 79 wr w.heap.size v (gridOf r inAll j) ∧ Below w.heap.size w wr) (fun _ y _ => (r + 1 - intOf y).toNat)
  case atStart => exact ⟨0, by omega, by go_num, OwnP.nil _ _ _, Below.refl _ _⟩
  case round =>
    obtain ⟨j, hj, rfl, hown, hb⟩ := hrel
    by_cases hlt : j < 2 * r + 1
    · have hdec : decide (((j : Int) - r) ≤ (r : Int)) = true := decide_eq_true (by omega)
      go_wp2
      obtain ⟨wo, rfl⟩ : ∃ wo : World, wo = wr := ⟨_, rfl⟩
      go_loopw [3, 5] (fun v x wr => ∃ i : Nat, i ≤ 2 * r + 1 ∧ x = .int .i64 ((i : Int) - r) ∧ OwnP 79 wr w.heap.size v (gridOf r inAll j ++ rowOf r inAll ((j : Int) - r) i) ∧ Below w.heap.size w wr) (fun _ x _ => (r + 1 - intOf x).toNat)
      case atStart => exact ⟨0, by omega, by go_num, by simpa [rowOf] using hown, hb⟩
      case round =>
        obtain ⟨i, hi, rfl, hown2, hb2⟩ := hrel
        clear hown
        by_cases hlt2 : i < 2 * r + 1
        · have hlen := gridOf_len r inAll j (by omega)
          have hlen2 := rowOf_len r inAll ((j : Int) - r) i
          have hlen3 : j * (2 * r + 1) ≤ 5 * 5 := Nat.mul_le_mul (by omega) (by omega)
          have hlen4 : (gridOf r inAll j ++ rowOf r inAll ((j : Int) - r) i).length < 4294967296 := by
            rw [List.length_append]; omega
          clear hlen hlen2 hlen3
          have HP := rowOf_yes (p := inAll) (y := (j : Int) - r) hlt2 rfl
          have HP2 := Lib.hid HP
          clear HP
          go_wp2_with (at_builtin; refine wpList_pushP rfl _ _ _ rfl w.heap.size 79 Tryd.underlying23 Tryd.infoPt _ _ rfl hown2 _ _ rfl hlen4 hb2.size ?_)
          intro v' w1 hown3 hb3
          have hb4 := hb2.trans hb3
          go_wp2
          go_roundw
          case rel => exact ⟨i + 1, by omega, by go_num, by rw [HP2.out]; exact hown3, hb4⟩
          case measure => simp [intOf]; omega
        · obtain rfl : i = 2 * r + 1 := by omega
          have HG := Lib.hid (gridOf_succ (p := inAll) hlt)
          go_wp2
          go_roundw
          case rel => exact ⟨j + 1, by omega, by go_num, by rw [HG.out]; exact hown2, hb2⟩
          case measure => simp [intOf]; omega
    · obtain rfl : j = 2 * r + 1 := by omega
      obtain ⟨A, c, hv, hp, hnew⟩ := hown.pts
      subst hv
      go_wp2
      go_ret
      exact ⟨A, c, rfl, hp, hnew, hb⟩
theorem neum_eq : ∀ r : Nat, r ≤ 2 → (mooreL r).filter (fun p => inDia r p.1 p.2) = neumL r := by decide
theorem moore_len : ∀ r : Nat, r ≤ 2 → (mooreL r).length ≤ 25 := by decide
theorem moore_rng : ∀ r : Nat, r ≤ 2 → ∀ p ∈ mooreL r, -2 ≤ p.1 ∧ p.1 ≤ 2 ∧ -2 ≤ p.2 ∧ p.2 ≤ 2 := by decide
set_option maxHeartbeats 400000 in
theorem rneum_any (r : Nat) (hr : r ≤ 2) (w : World) :
    Calls Tryd.prog 35 #[.int .i64 r] w (RetPts (neumL r) w) := by
  rw [← neum_eq r hr]
  have hM := Lib.hid (rmoore_any r hr w)
  have hlen := moore_len r hr
  have hrng := Lib.hid (moore_rng r hr)
  go_enter Tryd.func35, Tryd.ntmps35
  go_wp2_with fail
  refine hM.out.mono ?_
  rintro e w1 ⟨A, c, rfl, hp, hnew, hb⟩
  clear hM
  go_wp2
  go_loopw [4, 5] (fun v i wr => ∃ k : Nat, k ≤ (mooreL r).length ∧ i = .int .i64 k ∧ OwnP 79 wr w1.heap.size v (((mooreL r).take k).filter (fun p => inDia r p.1 p.2)) ∧ Below w1.heap.size w1 wr) (fun _ i _ => (mooreL r).length - (intOf i).toNat)
  case atStart => exact ⟨0, by omega, rfl, OwnP.nil _ _ _, Below.refl _ _⟩
  case round =>
    obtain ⟨k, hk, rfl, hown, hbr⟩ := hrel
    have hpr := hp.ext hbr
    by_cases hlt : k < (mooreL r).length
    · obtain ⟨b1, o1, rfl, hbb, hc, hc'⟩ := hpr.at_ hlt
      have hg := hrng.out _ (List.getElem_mem hlt)
      obtain ⟨g1, g2, g3, g4⟩ := hg
      have hta := Lib.hid (List.take_succ_eq_append_getElem hlt)
      go_wp2
      go_quiet ((go_at_call 63; exact Calls.quiet_of_same (abs_any _ _ (by omega) (by omega))))
      have hl2 : (((mooreL r).take k).filter (fun p => inDia r p.1 p.2)).length < 4294967296 := by
        have := List.length_filter_le (fun p : Int × Int => inDia r p.1 p.2) ((mooreL r).take k)
        have := List.length_take_le k (mooreL r)
        omega
      by_cases hin : (((mooreL r)[k].1.natAbs : Int) + ((mooreL r)[k].2.natAbs : Int)) ≤ (r : Int)
      · have hf : ((mooreL r).take (k + 1)).filter (fun p => inDia r p.1 p.2) = ((mooreL r).take k).filter (fun p => inDia r p.1 p.2) ++ [((mooreL r)[k].1, (mooreL r)[k].2)] := by
          rw [hta.out, List.filter_append]
          have : inDia r (mooreL r)[k].1 (mooreL r)[k].2 = true := decide_eq_true (by omega)
          simp [this]
        have HF := Lib.hid hf
        clear hf
        go_wp2_with (at_builtin; refine wpList_pushP rfl _ _ _ rfl w1.heap.size 79 Tryd.underlying23 Tryd.infoPt _ _ rfl (hown.drewN _) _ _ rfl hl2 hbr.size ?_)
        intro v' w2 hown2 hb2
        have hb3 := (below_drewN hbr nq).trans hb2
        go_wp2
        go_roundw
        case rel => exact ⟨k + 1, by omega, by go_num, by rw [HF.out]; exact hown2, hb3⟩
        case measure => simp [intOf]; omega
      · have hf : ((mooreL r).take (k + 1)).filter (fun p => inDia r p.1 p.2) = ((mooreL r).take k).filter (fun p => inDia r p.1 p.2) := by
          rw [hta.out, List.filter_append]
          have : inDia r (mooreL r)[k].1 (mooreL r)[k].2 = false := decide_eq_false (by omega)
          simp [this]
        have HF := Lib.hid hf
        clear hf
        go_wp2
        go_roundw
        case rel => exact ⟨k + 1, by omega, by go_num, by rw [HF.out]; exact hown.drewN _, below_drewN hbr nq⟩
        case measure => simp [intOf]; omega
    · obtain rfl : k = (mooreL r).length := by omega
      rw [List.take_length] at hown
      obtain ⟨A2, c2, hv, hp2, hnew2⟩ := hown.pts
      subst hv
      have hb2 := hb.trans (hbr.mono hb.size)
      go_wp2
      go_ret
      exact ⟨A2, c2, rfl, hp2, hnew2.mono hb.size, hb2⟩
theorem hex_eq : hexL = [(-1, -1), (0, -1), (-1, 0), (0, 0), (1, 0), (0, 1), (1, 1)] := by decide
set_option maxHeartbeats 400000 in
theorem rhex_any (w : World) :
    Calls Tryd.prog 36 #[] w (RetPts hexL w) := by
  go_enter Tryd.func36, Tryd.ntmps36
  go_wp2
  go_ret
  refine ⟨_, _, rfl, ?_, (by intro ad e; injection e with e; subst e; exact Nat.le_refl _), (Below.refl _ _).alloc (Nat.le_refl _) _⟩
  refine ⟨⟨by decide, fun _ => ⟨_, rfl, by simp, fun j u hj => ?_⟩⟩, by decide⟩
  rw [addr_add, cell_of_row _ _ _ _ _ _ (heap_alloc_new w _)]
  rw [hex_eq] at hj
  simpa [ptCells] using hj
end Go.Proofs.YtaofninfjdepfaaDoor
