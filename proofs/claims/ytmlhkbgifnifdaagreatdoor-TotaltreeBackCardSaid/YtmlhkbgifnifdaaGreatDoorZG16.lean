/-
  wolfram.Elementary, the reference's. No condition.
  A tree variable in memory, the contracts over trees. No condition.
-/
import Derived.Test.YtmlhkbgifnifdaaGreatDoorZG15
import Derived.Test.YtmlhkbgifnifdaaGreatDoorZG9
import Derived.Test.YtmlhkbgifnifdaaGreatDoorZG13
namespace Go.Proofs.YtmlhkbgifnifdaaGreatDoor
open Go.RowKit
set_option maxRecDepth 100000
set_option linter.unusedVariables false
set_option linter.unusedSimpArgs false

theorem digR_div : ∀ (k : Nat) (n : Int), digR 2 k n = n / (2 ^ k : Nat)
  | 0, n => by simp [digR]
  | k + 1, n => by
    show digR 2 k (n / 2) = _
    rw [digR_div k, Int.ediv_ediv_of_nonneg (by decide : (0 : Int) ≤ 2)]
    congr 1
    rw [Nat.pow_succ, Nat.mul_comm]
    simp
theorem and1 : ∀ m : Nat, m < 256 → bits .and .i64 (m : Int) 1 = (m : Int) % 2 := by decide
theorem shr_dig {n : Int} (h0 : 0 ≤ n) (h1 : n ≤ 255) (k : Nat) : bits .and .i64 (n / 2 ^ k) 1 = digR 2 k n % 2 := by
  have e : n / 2 ^ k = digR 2 k n := by rw [digR_div]; simp
  obtain ⟨a, b⟩ := digR_rng (q := 2) (by decide) k n h0
  rw [e]
  have := and1 (digR 2 k n).toNat (by omega)
  rwa [Int.toNat_of_nonneg a] at this
def okE (n : Int) : Bool := decide (0 ≤ n) && decide (n ≤ 255)
/-- the eight new states -/
def elemL (n : Int) : List Int := if okE n = true then digT 2 8 n else [0, 0, 0, 0, 0, 0, 0, 0]
def elemE (n : Int) : Int := if okE n = true then 0 else 5
def arrK (n : Int) (k : Nat) : List Int := digT 2 k n ++ List.replicate (8 - k) 0
theorem arrK_succ (n : Int) {k : Nat} (hk : k < 8) : arrK n (k + 1) = (arrK n k).set k (digR 2 k n % 2) := by
  unfold arrK
  rw [digT_snoc, List.set_append_right _ _ (by rw [digT_len]; exact Nat.le_refl _), digT_len, Nat.sub_self]
  obtain ⟨m, hm⟩ : ∃ m, 8 - k = m + 1 := ⟨8 - k - 1, by omega⟩
  rw [hm, show 8 - (k + 1) = m by omega, List.replicate_succ, List.set_cons_zero, List.append_assoc]
  rfl
def arrV (l : List Int) : Array Value := (l.map (Value.int .i64)).toArray
theorem arrV_set (l : List Int) (k : Nat) (v : Int) : (arrV l).setIfInBounds k (.int .i64 v) = arrV (l.set k v) := by
  unfold arrV
  rw [List.map_set]
  simp
theorem Tryz.sizeArr : (Tryz.prog.info? 67).map (·.size) = some 8 := by kernel_rfl
def RetEl (n : Int) (w : World) (e : Ending) (w' : World) : Prop := e = .returned (.tuple #[.agg (arrV (elemL n)), .int .i64 (elemE n)]) ∧ Below w.heap.size w w'
set_option maxHeartbeats 8000000 in
theorem elem_any (n : Int) (w : World) : Calls Tryz.prog 44 #[.int .i64 n] w (RetEl n w) := by
  obtain ⟨w0, hw0⟩ : ∃ w0, w0 = (w.alloc (.cells #[.int .i64 0, .int .i64 0, .int .i64 0, .int .i64 0, .int .i64 0, .int .i64 0, .int .i64 0, .int .i64 0] 67)).alloc (.cells #[.int .i64 0, .int .i64 0, .int .i64 0, .int .i64 0, .int .i64 0, .int .i64 0, .int .i64 0, .int .i64 0] 67) := ⟨_, rfl⟩
  have hal : w0 = alc w [.cells #[.int .i64 0, .int .i64 0, .int .i64 0, .int .i64 0, .int .i64 0, .int .i64 0, .int .i64 0, .int .i64 0] 67, .cells #[.int .i64 0, .int .i64 0, .int .i64 0, .int .i64 0, .int .i64 0, .int .i64 0, .int .i64 0, .int .i64 0] 67] := hw0
  have hb0 : Below w.heap.size w w0 := by rw [hal]; exact alc_below _ _
  have b0 : Blk w0 w.heap.size 67 (arrV [0, 0, 0, 0, 0, 0, 0, 0]) := by rw [hal]; exact alc_blk (i := 0) rfl rfl
  have b1 : Blk w0 (w.heap.size + 1) 67 (arrV [0, 0, 0, 0, 0, 0, 0, 0]) := by rw [hal]; exact alc_blk (i := 1) rfl rfl
  by_cases h0 : n < 0
  · have d1 : decide (n < 0) = true := decide_eq_true h0
    have HE : Hid (okE n = false) := Lib.hid (by unfold okE; rw [decide_eq_false (by omega : ¬ 0 ≤ n)]; rfl)
    clear h0
    go_enter Tryz.func44, Tryz.ntmps44
    go_upto_region 2 with fail
    rw [← hw0]
    clear hal hw0
    have l0 := b1.cell_ 0 (.int .i64 0) rfl
    have z0 := b0.cell_ 0 (.int .i64 0) rfl
    have f0 := b0.frozen 0
    have l1 := b1.cell_ 1 (.int .i64 0) rfl
    have z1 := b0.cell_ 1 (.int .i64 0) rfl
    have f1 := b0.frozen 1
    have l2 := b1.cell_ 2 (.int .i64 0) rfl
    have z2 := b0.cell_ 2 (.int .i64 0) rfl
    have f2 := b0.frozen 2
    have l3 := b1.cell_ 3 (.int .i64 0) rfl
    have z3 := b0.cell_ 3 (.int .i64 0) rfl
    have f3 := b0.frozen 3
    have l4 := b1.cell_ 4 (.int .i64 0) rfl
    have z4 := b0.cell_ 4 (.int .i64 0) rfl
    have f4 := b0.frozen 4
    have l5 := b1.cell_ 5 (.int .i64 0) rfl
    have z5 := b0.cell_ 5 (.int .i64 0) rfl
    have f5 := b0.frozen 5
    have l6 := b1.cell_ 6 (.int .i64 0) rfl
    have z6 := b0.cell_ 6 (.int .i64 0) rfl
    have f6 := b0.frozen 6
    have l7 := b1.cell_ 7 (.int .i64 0) rfl
    have z7 := b0.cell_ 7 (.int .i64 0) rfl
    have f7 := b0.frozen 7
    go_wp2
    have hq : Blk ((((((((w0.setCell ⟨w.heap.size, 0, none⟩ (.int .i64 0)).setCell ⟨w.heap.size, 1, none⟩ (.int .i64 0)).setCell ⟨w.heap.size, 2, none⟩ (.int .i64 0)).setCell ⟨w.heap.size, 3, none⟩ (.int .i64 0)).setCell ⟨w.heap.size, 4, none⟩ (.int .i64 0)).setCell ⟨w.heap.size, 5, none⟩ (.int .i64 0)).setCell ⟨w.heap.size, 6, none⟩ (.int .i64 0)).setCell ⟨w.heap.size, 7, none⟩ (.int .i64 0)) w.heap.size 67 #[.int .i64 0, .int .i64 0, .int .i64 0, .int .i64 0, .int .i64 0, .int .i64 0, .int .i64 0, .int .i64 0] := ((((((((b0.set_ 0 (.int .i64 0)).set_ 1 (.int .i64 0)).set_ 2 (.int .i64 0)).set_ 3 (.int .i64 0)).set_ 4 (.int .i64 0)).set_ 5 (.int .i64 0)).set_ 6 (.int .i64 0)).set_ 7 (.int .i64 0))
    refine bodyPost_ret (results_ct Tryz.results44 _ _ w.heap.size 67 #[.int .i64 0, .int .i64 0, .int .i64 0, .int .i64 0, .int .i64 0, .int .i64 0, .int .i64 0, .int .i64 0] (0, 0) _ rfl hq Tryz.underlying67 rfl Tryz.sizeArr) rfl ⟨?_, (((((((((hb0).setCell (p := ⟨w.heap.size, 0, none⟩) (Nat.le_refl _) _).setCell (p := ⟨w.heap.size, 1, none⟩) (Nat.le_refl _) _).setCell (p := ⟨w.heap.size, 2, none⟩) (Nat.le_refl _) _).setCell (p := ⟨w.heap.size, 3, none⟩) (Nat.le_refl _) _).setCell (p := ⟨w.heap.size, 4, none⟩) (Nat.le_refl _) _).setCell (p := ⟨w.heap.size, 5, none⟩) (Nat.le_refl _) _).setCell (p := ⟨w.heap.size, 6, none⟩) (Nat.le_refl _) _).setCell (p := ⟨w.heap.size, 7, none⟩) (Nat.le_refl _) _)⟩
    unfold elemL elemE
    rw [HE.out]
    first | rfl | done
  have d1 : decide (n < 0) = false := decide_eq_false h0
  by_cases h5 : 255 < n
  · have d2 : decide (255 < n) = true := decide_eq_true h5
    have HE : Hid (okE n = false) := Lib.hid (by unfold okE; rw [decide_eq_false (by omega : ¬ n ≤ 255), Bool.and_false])
    clear h0 h5
    go_enter Tryz.func44, Tryz.ntmps44
    go_upto_region 2 with fail
    rw [← hw0]
    clear hal hw0
    have l0 := b1.cell_ 0 (.int .i64 0) rfl
    have z0 := b0.cell_ 0 (.int .i64 0) rfl
    have f0 := b0.frozen 0
    have l1 := b1.cell_ 1 (.int .i64 0) rfl
    have z1 := b0.cell_ 1 (.int .i64 0) rfl
    have f1 := b0.frozen 1
    have l2 := b1.cell_ 2 (.int .i64 0) rfl
    have z2 := b0.cell_ 2 (.int .i64 0) rfl
    have f2 := b0.frozen 2
    have l3 := b1.cell_ 3 (.int .i64 0) rfl
    have z3 := b0.cell_ 3 (.int .i64 0) rfl
    have f3 := b0.frozen 3
    have l4 := b1.cell_ 4 (.int .i64 0) rfl
    have z4 := b0.cell_ 4 (.int .i64 0) rfl
    have f4 := b0.frozen 4
    have l5 := b1.cell_ 5 (.int .i64 0) rfl
    have z5 := b0.cell_ 5 (.int .i64 0) rfl
    have f5 := b0.frozen 5
    have l6 := b1.cell_ 6 (.int .i64 0) rfl
    have z6 := b0.cell_ 6 (.int .i64 0) rfl
    have f6 := b0.frozen 6
    have l7 := b1.cell_ 7 (.int .i64 0) rfl
    have z7 := b0.cell_ 7 (.int .i64 0) rfl
    have f7 := b0.frozen 7
    go_wp2
    have hq : Blk ((((((((w0.setCell ⟨w.heap.size, 0, none⟩ (.int .i64 0)).setCell ⟨w.heap.size, 1, none⟩ (.int .i64 0)).setCell ⟨w.heap.size, 2, none⟩ (.int .i64 0)).setCell ⟨w.heap.size, 3, none⟩ (.int .i64 0)).setCell ⟨w.heap.size, 4, none⟩ (.int .i64 0)).setCell ⟨w.heap.size, 5, none⟩ (.int .i64 0)).setCell ⟨w.heap.size, 6, none⟩ (.int .i64 0)).setCell ⟨w.heap.size, 7, none⟩ (.int .i64 0)) w.heap.size 67 #[.int .i64 0, .int .i64 0, .int .i64 0, .int .i64 0, .int .i64 0, .int .i64 0, .int .i64 0, .int .i64 0] := ((((((((b0.set_ 0 (.int .i64 0)).set_ 1 (.int .i64 0)).set_ 2 (.int .i64 0)).set_ 3 (.int .i64 0)).set_ 4 (.int .i64 0)).set_ 5 (.int .i64 0)).set_ 6 (.int .i64 0)).set_ 7 (.int .i64 0))
    refine bodyPost_ret (results_ct Tryz.results44 _ _ w.heap.size 67 #[.int .i64 0, .int .i64 0, .int .i64 0, .int .i64 0, .int .i64 0, .int .i64 0, .int .i64 0, .int .i64 0] (0, 0) _ rfl hq Tryz.underlying67 rfl Tryz.sizeArr) rfl ⟨?_, (((((((((hb0).setCell (p := ⟨w.heap.size, 0, none⟩) (Nat.le_refl _) _).setCell (p := ⟨w.heap.size, 1, none⟩) (Nat.le_refl _) _).setCell (p := ⟨w.heap.size, 2, none⟩) (Nat.le_refl _) _).setCell (p := ⟨w.heap.size, 3, none⟩) (Nat.le_refl _) _).setCell (p := ⟨w.heap.size, 4, none⟩) (Nat.le_refl _) _).setCell (p := ⟨w.heap.size, 5, none⟩) (Nat.le_refl _) _).setCell (p := ⟨w.heap.size, 6, none⟩) (Nat.le_refl _) _).setCell (p := ⟨w.heap.size, 7, none⟩) (Nat.le_refl _) _)⟩
    unfold elemL elemE
    rw [HE.out]
    first | rfl | done
  have d2 : decide (255 < n) = false := decide_eq_false h5
  have HE : Hid (okE n = true) := Lib.hid (by unfold okE; rw [decide_eq_true (by omega : 0 ≤ n), decide_eq_true (by omega : n ≤ 255)]; rfl)
  have HN : Hid (0 ≤ n ∧ n ≤ 255) := Lib.hid (by omega)
  have HB0 := Lib.hid hb0
  have HK0 := Lib.hid b0
  have HK1 := Lib.hid b1
  clear h0 h5 hb0 b0 b1
  go_enter Tryz.func44, Tryz.ntmps44
  go_upto_region 2 with fail
  rw [← hw0]
  clear hal hw0
  go_wp2
  clear d1 d2
  go_loopw [13] (fun iv wr => ∃ k : Nat, k ≤ 8 ∧ iv = .int .i64 k ∧ Hid (Blk wr w.heap.size 67 (arrV [0, 0, 0, 0, 0, 0, 0, 0])) ∧ Hid (Blk wr (w.heap.size + 1) 67 (arrV (arrK n k))) ∧ Hid (Below w.heap.size w wr)) (fun iv _ => 8 - (intOf iv).toNat)
  case atStart => exact ⟨0, by decide, rfl, HK0, HK1, HB0⟩
  case round =>
    clear HK0 HK1 HB0
    obtain ⟨k, hk, rfl, HK0, HK1, HB⟩ := hrel
    have hwk : wrap64 ((k : Int) + 1) = (k : Int) + 1 := by unfold wrap64; omega
    by_cases hk8 : k < 8
    · have hr := digR_rng (q := 2) (by decide) k n HN.out.1
      obtain ⟨r, hrd⟩ : ∃ r, r = digR 2 k n := ⟨_, rfl⟩
      have hzv : bits .and .i64 (n / 2 ^ k) 1 = digR 2 k n % 2 := shr_dig HN.out.1 HN.out.2 k
      have hkc : (arrK n k).length = 8 := by unfold arrK; rw [List.length_append, digT_len, List.length_replicate]; omega
      obtain ⟨z, hz⟩ : ∃ z : Value, (arrV (arrK n k))[k]? = some z := ⟨_, Array.getElem?_eq_getElem (by unfold arrV; simp; omega)⟩
      have hc1 := HK1.out.cell_ k z hz
      have hf1 := HK1.out.frozen k
      have HK2 : Hid (Blk (wr.setCell ⟨w.heap.size + 1, k, none⟩ (.int .i64 (bits .and .i64 (n / 2 ^ k) 1))) (w.heap.size + 1) 67 (arrV (arrK n (k + 1)))) := Lib.hid (by
        rw [hzv, arrK_succ n hk8, ← arrV_set]
        exact HK1.out.set_ k _)
      have HKz : Hid (Blk (wr.setCell ⟨w.heap.size + 1, k, none⟩ (.int .i64 (bits .and .i64 (n / 2 ^ k) 1))) w.heap.size 67 (arrV [0, 0, 0, 0, 0, 0, 0, 0])) := Lib.hid (HK0.out.far (p := ⟨w.heap.size + 1, k, none⟩) (by simp) _)
      have HB2 : Hid (Below w.heap.size w (wr.setCell ⟨w.heap.size + 1, k, none⟩ (.int .i64 (bits .and .i64 (n / 2 ^ k) 1)))) := Lib.hid (HB.out.setCell (p := ⟨w.heap.size + 1, k, none⟩) (Nat.le_succ _) _)
      have HK8 := Lib.hid hk8
      have HRD := Lib.hid hrd
      have HR2 : Hid (0 ≤ r ∧ r ≤ n) := Lib.hid (by rw [hrd]; exact hr)
      clear hr hrd hz hzv hkc hk
      go_wp2
      go_roundw
      case rel => exact ⟨k + 1, HK8.out, (by first | rfl | (rw [hwk]; rfl)), HKz, HK2, HB2⟩
      case measure => (try rw [hwk]); exact meas_step HK8.out
    · have hke : k = 8 := Nat.le_antisymm hk (Nat.le_of_not_lt hk8)
      subst hke
      obtain ⟨d0, h0⟩ : ∃ d, d = n % 2 := ⟨_, rfl⟩
      have hl : ∃ d1 d2 d3 d4 d5 d6 d7, digT 2 8 n = [d0, d1, d2, d3, d4, d5, d6, d7] := ⟨_, _, _, _, _, _, _, by rw [h0]; rfl⟩
      obtain ⟨d1, d2, d3, d4, d5, d6, d7, hl⟩ := hl
      have b1 := HK1.out
      rw [show arrK n 8 = digT 2 8 n from by unfold arrK; simp, hl] at b1
      have b0 := HK0.out
      have HLE : Hid (elemL n = [d0, d1, d2, d3, d4, d5, d6, d7] ∧ elemE n = 0) := Lib.hid (by unfold elemL elemE; rw [HE.out]; exact ⟨hl, rfl⟩)
      clear h0 hl hk
      have l0 := b1.cell_ 0 (.int .i64 d0) rfl
      have z0 := b0.cell_ 0 (.int .i64 0) rfl
      have f0 := b0.frozen 0
      have l1 := b1.cell_ 1 (.int .i64 d1) rfl
      have z1 := b0.cell_ 1 (.int .i64 0) rfl
      have f1 := b0.frozen 1
      have l2 := b1.cell_ 2 (.int .i64 d2) rfl
      have z2 := b0.cell_ 2 (.int .i64 0) rfl
      have f2 := b0.frozen 2
      have l3 := b1.cell_ 3 (.int .i64 d3) rfl
      have z3 := b0.cell_ 3 (.int .i64 0) rfl
      have f3 := b0.frozen 3
      have l4 := b1.cell_ 4 (.int .i64 d4) rfl
      have z4 := b0.cell_ 4 (.int .i64 0) rfl
      have f4 := b0.frozen 4
      have l5 := b1.cell_ 5 (.int .i64 d5) rfl
      have z5 := b0.cell_ 5 (.int .i64 0) rfl
      have f5 := b0.frozen 5
      have l6 := b1.cell_ 6 (.int .i64 d6) rfl
      have z6 := b0.cell_ 6 (.int .i64 0) rfl
      have f6 := b0.frozen 6
      have l7 := b1.cell_ 7 (.int .i64 d7) rfl
      have z7 := b0.cell_ 7 (.int .i64 0) rfl
      have f7 := b0.frozen 7
      go_wp2
      have hq : Blk ((((((((wr.setCell ⟨w.heap.size, 0, none⟩ (.int .i64 d0)).setCell ⟨w.heap.size, 1, none⟩ (.int .i64 d1)).setCell ⟨w.heap.size, 2, none⟩ (.int .i64 d2)).setCell ⟨w.heap.size, 3, none⟩ (.int .i64 d3)).setCell ⟨w.heap.size, 4, none⟩ (.int .i64 d4)).setCell ⟨w.heap.size, 5, none⟩ (.int .i64 d5)).setCell ⟨w.heap.size, 6, none⟩ (.int .i64 d6)).setCell ⟨w.heap.size, 7, none⟩ (.int .i64 d7)) w.heap.size 67 #[.int .i64 d0, .int .i64 d1, .int .i64 d2, .int .i64 d3, .int .i64 d4, .int .i64 d5, .int .i64 d6, .int .i64 d7] := ((((((((b0.set_ 0 (.int .i64 d0)).set_ 1 (.int .i64 d1)).set_ 2 (.int .i64 d2)).set_ 3 (.int .i64 d3)).set_ 4 (.int .i64 d4)).set_ 5 (.int .i64 d5)).set_ 6 (.int .i64 d6)).set_ 7 (.int .i64 d7))
      refine bodyPost_ret (results_ct Tryz.results44 _ _ w.heap.size 67 #[.int .i64 d0, .int .i64 d1, .int .i64 d2, .int .i64 d3, .int .i64 d4, .int .i64 d5, .int .i64 d6, .int .i64 d7] (0, 0) _ rfl hq Tryz.underlying67 rfl Tryz.sizeArr) rfl ⟨?_, (((((((((HB.out).setCell (p := ⟨w.heap.size, 0, none⟩) (Nat.le_refl _) _).setCell (p := ⟨w.heap.size, 1, none⟩) (Nat.le_refl _) _).setCell (p := ⟨w.heap.size, 2, none⟩) (Nat.le_refl _) _).setCell (p := ⟨w.heap.size, 3, none⟩) (Nat.le_refl _) _).setCell (p := ⟨w.heap.size, 4, none⟩) (Nat.le_refl _) _).setCell (p := ⟨w.heap.size, 5, none⟩) (Nat.le_refl _) _).setCell (p := ⟨w.heap.size, 6, none⟩) (Nat.le_refl _) _).setCell (p := ⟨w.heap.size, 7, none⟩) (Nat.le_refl _) _)⟩
      rw [HLE.out.1, HLE.out.2]
      first | rfl | done
end Go.Proofs.YtmlhkbgifnifdaaGreatDoor
namespace Go.Proofs.YtmlhkbgifnifdaaGreatDoor
open Go.RowKit Go.Maps
set_option maxRecDepth 100000
set_option linter.unusedVariables false
set_option linter.unusedSimpArgs false

/-- the three cells of a tree -/
structure TrV (w : World) (p : Nat) (st : Int) (A : Option Addr) (n c : Nat) (B : Option Addr) (m d : Nat) (t : PT) : Prop where
  blk : Blk w p 25 #[.int .i64 st, .slice A n c, .slice B m d]
  at_ : TreeAt w (.agg #[.int .i64 st, .slice A n c, .slice B m d]) t
section
variable {w w' : World} {p : Nat} {st : Int} {A : Option Addr} {n c : Nat} {B : Option Addr} {m d : Nat} {t u : PT} {v x : Value} {k s : Int}
theorem TrV.ext (h : TrV w p st A n c B m d t) (hb : Below w.heap.size w w') : TrV w' p st A n c B m d t := ⟨h.blk.below hb h.blk.lt, h.at_.ext hb⟩
theorem TrV.new (h : TreeAt w (.agg #[.int .i64 st, .slice A n c, .slice B m d]) t) : TrV (w.alloc (.cells #[.int .i64 st, .slice A n c, .slice B m d] 25)) w.heap.size st A n c B m d t := ⟨Blk.new _ _ _, h.ext (below_new _ _)⟩
theorem TrV.cells (h : TrV w p st A n c B m d t) : w.cell? ⟨p, 0, none⟩ = some (.int .i64 st) ∧ w.cell? ⟨p, 1, none⟩ = some (.slice A n c) ∧ w.cell? ⟨p, 2, none⟩ = some (.slice B m d) :=
  ⟨h.blk.cell_ 0 (.int .i64 st) rfl, h.blk.cell_ 1 (.slice A n c) rfl, h.blk.cell_ 2 (.slice B m d) rfl⟩
theorem TreeAt.len_ (h : TreeAt w (.agg #[.int .i64 st, .slice A n c, .slice B m d]) t) : m = t.ns.length := by
  obtain ⟨A', c', B', d', os, e, h1, h2, h3⟩ := h
  injection e with e
  simp only [Array.mk.injEq, List.cons.injEq, Value.int.injEq, Value.slice.injEq, true_and, and_true] at e
  obtain ⟨-, -, -, rfl, -⟩ := e
  rw [← h3, List.length_map]
def RetA (t : PT) (w : World) (e : Ending) (w' : World) : Prop := ∃ st A n c B m d, e = .returned (.agg #[.int .i64 st, .slice A n c, .slice B m d]) ∧ TreeAt w' (.agg #[.int .i64 st, .slice A n c, .slice B m d]) t ∧ Below w.heap.size w w'
def RetAE (te : PT × Int) (w : World) (e : Ending) (w' : World) : Prop := ∃ st A n c B m d, e = .returned (.tuple #[.agg #[.int .i64 st, .slice A n c, .slice B m d], .int .i64 te.2]) ∧ TreeAt w' (.agg #[.int .i64 st, .slice A n c, .slice B m d]) te.1 ∧ Below w.heap.size w w'
theorem TreeAt.form (h : TreeAt w v t) : ∃ st A n c B m d, v = .agg #[.int .i64 st, .slice A n c, .slice B m d] := by
  obtain ⟨A, c, B, d, os, rfl, -⟩ := h
  exact ⟨_, _, _, _, _, _, _, rfl⟩
theorem RetT.a {e : Ending} (h : RetT t w e w') : RetA t w e w' := by
  obtain ⟨v, rfl, h2, h3⟩ := h.treeAt
  obtain ⟨st, A, n, c, B, m, d, rfl⟩ := h2.form
  exact ⟨st, A, n, c, B, m, d, rfl, h2, h3⟩
theorem RetAt.a {e : Ending} (h : RetAt t w e w') : RetA t w e w' := by
  obtain ⟨v, rfl, h2, h3⟩ := h
  obtain ⟨st, A, n, c, B, m, d, rfl⟩ := h2.form
  exact ⟨st, A, n, c, B, m, d, rfl, h2, h3⟩
theorem red_tv (h : TreeAt w v t) (ht : TabB w.heap.size w) : Calls Tryz.prog 27 #[v] w (RetA (redT t) w) := by
  obtain ⟨A, c, B, d, os, rfl, h1, h2, h3⟩ := h
  have := reduce_any t.st A c t.ps B d os w h1 h2 ht
  rw [h3] at this
  exact this.mono fun _ _ h => h.a
end
theorem OwnN.reads {w : World} {base : Nat} {A : Option Addr} {n c : Nat} {hs : List Hd} (h : OwnNA w base (.slice A n c) hs) : Nds w A hs := by
  obtain ⟨A', c', e, hi, -⟩ := h.nds
  injection e with e
  subst e
  exact hi
end Go.Proofs.YtmlhkbgifnifdaaGreatDoor
