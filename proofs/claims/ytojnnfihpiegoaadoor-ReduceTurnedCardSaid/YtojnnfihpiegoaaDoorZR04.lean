/-
  cellularref04.Apply: one quarter turn after the other. No condition but numbers below 2 ^ 62.
-/
import Derived.Test.YtojnnfihpiegoaaDoorZCm
namespace Go.Proofs.YtojnnfihpiegoaaDoor
open Go.RowKit
set_option maxRecDepth 100000
set_option linter.unusedVariables false
set_option linter.unusedSimpArgs false

theorem tmod8 (k : Int) : -8 < Int.tmod k 8 ∧ Int.tmod k 8 < 8 ∧ Int.tmod (Int.tmod k 8 + 8) 8 = (symJ k : Int) := by
 have e := Int.mul_tdiv_add_tmod k 8
 have b1 := Int.tmod_lt_of_pos k (show (0 : Int) < 8 by decide)
 have b2 := Int.lt_tmod_of_pos k (show (0 : Int) < 8 by decide)
 generalize Int.tmod k 8 = r at *
 generalize Int.tdiv k 8 = q at *
 refine ⟨b2, b1, ?_⟩
 rw [Int.tmod_eq_emod_of_nonneg (by omega)]
 unfold symJ
 omega
theorem rmod_any (k : Int) (w : World) : Calls Tryd.prog 59 #[.int .i64 k] w fun e w' => e = .returned (.int .i64 (symJ k)) ∧ w' = w := by
 obtain ⟨t1, t2, h3⟩ := tmod8 k
 have h1 : wrap64 (Int.tmod k 8) = Int.tmod k 8 := by generalize Int.tmod k 8 = r at *; unfold wrap64; omega
 have h2 : wrap64 (Int.tmod k 8 + 8) = Int.tmod k 8 + 8 := by generalize Int.tmod k 8 = r at *; unfold wrap64; omega
 have h4 : wrap64 (symJ k : Int) = (symJ k : Int) := by have := symJ_lt k; unfold wrap64; omega
 have HH := Lib.hid (And.intro h2 h3)
 clear t1 t2 h3
 go_enter Tryd.func59, Tryd.ntmps59
 rw [← HH.out.2]
 clear h4
 go_wp2
 go_ret
 exact ⟨ret_int (by first | rfl | (rw [HH.out.1, HH.out.2]; rfl)), rfl⟩
/-- quarter turns -/
def rotP : Nat → Int × Int → Int × Int
 | 0, p => p
 | n + 1, p => (-(rotP n p).2, (rotP n p).1)
theorem rotP_in {p : Int × Int} (hx : -4611686018427387904 < p.1 ∧ p.1 < 4611686018427387904) (hy : -4611686018427387904 < p.2 ∧ p.2 < 4611686018427387904) : ∀ n, (-4611686018427387904 < (rotP n p).1 ∧ (rotP n p).1 < 4611686018427387904) ∧ (-4611686018427387904 < (rotP n p).2 ∧ (rotP n p).2 < 4611686018427387904)
 | 0 => ⟨hx, hy⟩
 | n + 1 => by
  obtain ⟨h1, h2⟩ := rotP_in hx hy n
  simp only [rotP]
  omega
theorem rot_sym (k x y : Int) : rotP (symJ k % 4) (if symJ k < 4 then (x, y) else (-x, y)) = symP k (x, y) := by
 have hj := symJ_lt k
 unfold symP
 generalize symJ k = j at hj ⊢
 obtain rfl | rfl | rfl | rfl | rfl | rfl | rfl | rfl : j = 0 ∨ j = 1 ∨ j = 2 ∨ j = 3 ∨ j = 4 ∨ j = 5 ∨ j = 6 ∨ j = 7 := by omega
 all_goals
  simp [rotP, matL]
set_option maxHeartbeats 4000000 in
theorem rapply_any (k x y : Int) (w : World) (hx : -4611686018427387904 < x ∧ x < 4611686018427387904) (hy : -4611686018427387904 < y ∧ y < 4611686018427387904) :
  Calls Tryd.prog 31 #[.int .i64 k, .agg #[.int .i64 x, .int .i64 y]] w fun e w' => e = .returned (.agg #[.int .i64 (symP k (x, y)).1, .int .i64 (symP k (x, y)).2]) ∧ Below w.heap.size w w' := by
 obtain ⟨w0, hw0⟩ : ∃ w0, w0 = (w.alloc (.cells #[.int .i64 x, .int .i64 y] 49)).alloc (.cells #[.int .i64 0, .int .i64 0] 49) := ⟨_, rfl⟩
 have hb1 := below_new w (.cells #[.int .i64 x, .int .i64 y] 49)
 have hb0 : Below w.heap.size w w0 := by rw [hw0]; exact hb1.alloc hb1.size _
 have p0 : Blk w0 w.heap.size 49 #[.int .i64 x, .int .i64 y] := by rw [hw0]; exact (Blk.new w _ _).alloc _
 have q0 : Blk w0 (w.heap.size + 1) 49 #[.int .i64 0, .int .i64 0] := by
  rw [hw0]
  have := Blk.new (w.alloc (.cells #[.int .i64 x, .int .i64 y] 49)) 49 #[.int .i64 0, .int .i64 0]
  simpa using this
 have HMOD := Lib.hid (rmod_any k w0)
 have hrs := rot_sym k x y
 have hj := symJ_lt k
 obtain ⟨j, hje⟩ : ∃ j, j = symJ k := ⟨_, rfl⟩
 rw [← hje] at hrs hj HMOD
 obtain ⟨s, hs⟩ : ∃ s, s = symP k (x, y) := ⟨_, rfl⟩
 rw [← hs] at hrs ⊢
 have HB0 := Lib.hid hb0
 have HP0 := Lib.hid p0
 have HQ0 := Lib.hid q0
 have HW0 := Lib.hid hw0
 have c0 := p0.cell_ 0 (.int .i64 x) rfl
 have c1 := p0.cell_ 1 (.int .i64 y) rfl
 have f0 := p0.frozen 0
 have f1 := p0.frozen 1
 clear hb1 hb0 p0 q0 hw0 hje hs
 by_cases h4 : j < 4
 ·have d1 : decide ((4 : Int) ≤ (j : Int)) = false := decide_eq_false (by omega)
  have d2 : decide (4 ≤ j) = false := decide_eq_false (by omega)
  rw [if_pos h4, Nat.mod_eq_of_lt h4] at hrs
  have HRS := Lib.hid hrs
  have HJ := Lib.hid h4
  have HIN := Lib.hid (rotP_in (p := (x, y)) hx hy)
  clear h4 hrs hj hx hy
  go_enter Tryd.func31, Tryd.ntmps31
  go_upto_region 1 with fail
  rw [← HW0.out]
  go_wp2_with (go_at_call 59; refine HMOD.out.mono ?_; intro e w1 hx; obtain ⟨rfl, hw1⟩ := hx; rw [hw1]; clear hw1; refine Hid.out ?_)
  refine Lib.hid ?_
  obtain ⟨p, hp⟩ : ∃ p : Int × Int, p = (x, y) := ⟨_, rfl⟩
  rw [← hp] at HRS HIN
  have HP1 : Hid (Blk w0 w.heap.size 49 #[.int .i64 (rotP 0 p).1, .int .i64 (rotP 0 p).2]) := Lib.hid (by rw [hp]; exact HP0.out)
  clear c0 c1 f0 f1 hp
  go_wp2
  go_loopw [5] (fun iv wr => ∃ i : Nat, i ≤ j ∧ iv = .int .i64 i ∧ Hid (Blk wr w.heap.size 49 #[.int .i64 (rotP i p).1, .int .i64 (rotP i p).2]) ∧ Hid (Blk wr (w.heap.size + 1) 49 #[.int .i64 0, .int .i64 0]) ∧ Hid (Below w.heap.size w wr)) (fun iv _ => j - (intOf iv).toNat)
  case atStart => exact ⟨0, Nat.zero_le _, rfl, HP1, HQ0, HB0⟩
  case round =>
   obtain ⟨i, hi, rfl, HPI, HQI, HBI⟩ := hrel
   have hwi : wrap64 ((i : Int) + 1) = (i : Int) + 1 := by have := HJ.out; unfold wrap64; omega
   obtain ⟨a, ha⟩ : ∃ a, a = rotP i p := ⟨_, rfl⟩
   have hin := HIN.out i
   rw [← ha] at HPI hin
   obtain ⟨a1, a2⟩ := a
   dsimp only at HPI hin
   have e0 := HPI.out.cell_ 0 (.int .i64 a1) rfl
   have e1 := HPI.out.cell_ 1 (.int .i64 a2) rfl
   have g0 := HPI.out.frozen 0
   have g1 := HPI.out.frozen 1
   have hwa : wrap64 (-a2) = -a2 := by unfold wrap64; omega
   have HA := Lib.hid ha
   clear hin ha
   by_cases hij : i < j
   ·have HIJ := Lib.hid hij
    have HK : Hid (Kept (fun g => g = w.heap.size) wr ((wr.setCell ⟨w.heap.size, 0, none⟩ (.int .i64 (-a2))).setCell ⟨w.heap.size, 1, none⟩ (.int .i64 a1))) := Lib.hid (((Kept.refl (fun g => g = w.heap.size) wr).setCell (p := ⟨w.heap.size, 0, none⟩) (Or.inl rfl) _).setCell (p := ⟨w.heap.size, 1, none⟩) (Or.inl rfl) _)
    have HP2 : Hid (Blk ((wr.setCell ⟨w.heap.size, 0, none⟩ (.int .i64 (-a2))).setCell ⟨w.heap.size, 1, none⟩ (.int .i64 a1)) w.heap.size 49 #[.int .i64 (rotP (i + 1) p).1, .int .i64 (rotP (i + 1) p).2]) := Lib.hid (by
     have h1 : rotP (i + 1) p = (-a2, a1) := by show (-(rotP i p).2, (rotP i p).1) = _; rw [← HA.out]
     rw [h1]
     exact (HPI.out.set_ 0 (.int .i64 (-a2))).set_ 1 (.int .i64 a1))
    go_wp2
    go_roundw
    case rel => exact ⟨i + 1, HIJ.out, (by first | rfl | (rw [hwi]; rfl)), HP2, Lib.hid (HK.out.blk HQI.out (fun e => absurd e (Nat.succ_ne_self _))), Lib.hid (HBI.out.trans (HK.out.to_below HBI.out.size (fun g hg e => by rw [e] at hg; exact Nat.lt_irrefl _ hg)))⟩
    case measure => (try rw [hwi]); exact meas_step HIJ.out
   ·have hie : i = j := Nat.le_antisymm hi (Nat.le_of_not_lt hij)
    have q0 := HQI.out.cell_ 0 (.int .i64 0) rfl
    have q1 := HQI.out.cell_ 1 (.int .i64 0) rfl
    have r0 := HQI.out.frozen 0
    have r1 := HQI.out.frozen 1
    have HS : Hid (s = (a1, a2)) := Lib.hid (by rw [← HRS.out, ← hie, HA.out])
    clear hie
    go_wp2
    have hq : Blk ((wr.setCell ⟨w.heap.size + 1, 0, none⟩ (.int .i64 a1)).setCell ⟨w.heap.size + 1, 1, none⟩ (.int .i64 a2)) (w.heap.size + 1) 49 #[.int .i64 a1, .int .i64 a2] := (HQI.out.set_ 0 (.int .i64 a1)).set_ 1 (.int .i64 a2)
    rw [HS.out]
    exact bodyPost_ret (results_cell_row Tryd.results31 _ _ (w.heap.size + 1) 49 #[.int .i64 a1, .int .i64 a2] (0, 0) _ rfl hq Tryd.underlying49 rfl Tryd.sizePoint) rfl
     ⟨rfl, (HBI.out.setCell (p := ⟨w.heap.size + 1, 0, none⟩) (Nat.le_succ _) _).setCell (p := ⟨w.heap.size + 1, 1, none⟩) (Nat.le_succ _) _⟩
 ·have d1 : decide ((4 : Int) ≤ (j : Int)) = true := decide_eq_true (by omega)
  have d2 : decide (4 ≤ j) = true := decide_eq_true (by omega)
  obtain ⟨j', rfl⟩ : ∃ j', j = j' + 4 := ⟨j - 4, by omega⟩
  have hwj : wrap64 (((j' + 4 : Nat) : Int) - 4) = (j' : Int) := by unfold wrap64; omega
  have hwj2 : wrap64 ((j' : Int) + 4 - 4) = (j' : Int) := by unfold wrap64; omega
  have hwj3 : wrap64 (j' : Int) = (j' : Int) := by unfold wrap64; omega
  have hwx : wrap64 (-x) = -x := by unfold wrap64; omega
  rw [if_neg h4, show (j' + 4) % 4 = j' by omega] at hrs
  have HRS := Lib.hid hrs
  have HJ : Hid (j' < 4) := Lib.hid (by omega)
  have HIN := Lib.hid (rotP_in (p := (-x, y)) (by dsimp only; omega) hy)
  clear h4 hrs hj hx hy
  go_enter Tryd.func31, Tryd.ntmps31
  go_upto_region 1 with fail
  rw [← HW0.out]
  go_wp2_with (go_at_call 59; refine HMOD.out.mono ?_; intro e w1 hx; obtain ⟨rfl, hw1⟩ := hx; rw [hw1]; clear hw1; refine Hid.out ?_)
  refine Lib.hid ?_
  obtain ⟨p, hp⟩ : ∃ p : Int × Int, p = (-x, y) := ⟨_, rfl⟩
  rw [← hp] at HRS HIN
  obtain ⟨w2, hw2⟩ : ∃ w2, w2 = (w0.setCell ⟨w.heap.size, 0, none⟩ (.int .i64 (-x))).setCell ⟨w.heap.size, 1, none⟩ (.int .i64 y) := ⟨_, rfl⟩
  have hp1 : Blk w2 w.heap.size 49 #[.int .i64 (rotP 0 p).1, .int .i64 (rotP 0 p).2] := by rw [hw2, hp]; exact (HP0.out.set_ 0 (.int .i64 (-x))).set_ 1 (.int .i64 y)
  have hk : Kept (fun g => g = w.heap.size) w0 w2 := by rw [hw2]; exact ((Kept.refl (fun g => g = w.heap.size) w0).setCell (p := ⟨w.heap.size, 0, none⟩) (Or.inl rfl) _).setCell (p := ⟨w.heap.size, 1, none⟩) (Or.inl rfl) _
  have HQ1 := Lib.hid (hk.blk HQ0.out (fun e => absurd e (Nat.succ_ne_self _)))
  have HB1 : Hid (Below w.heap.size w w2) := Lib.hid (HB0.out.trans (hk.to_below HB0.out.size (fun g hg e => by rw [e] at hg; exact Nat.lt_irrefl _ hg)))
  have HP1 := Lib.hid hp1
  have HW2 := Lib.hid hw2
  clear hp1 hk hw2
  go_upto_region 4 with fail
  rw [← HW2.out]
  clear c0 c1 f0 f1 hp
  go_wp2
  go_loopw [5] (fun iv wr => ∃ i : Nat, i ≤ j' ∧ iv = .int .i64 i ∧ Hid (Blk wr w.heap.size 49 #[.int .i64 (rotP i p).1, .int .i64 (rotP i p).2]) ∧ Hid (Blk wr (w.heap.size + 1) 49 #[.int .i64 0, .int .i64 0]) ∧ Hid (Below w.heap.size w wr)) (fun iv _ => j' - (intOf iv).toNat)
  case atStart => exact ⟨0, Nat.zero_le _, rfl, HP1, HQ1, HB1⟩
  case round =>
   obtain ⟨i, hi, rfl, HPI, HQI, HBI⟩ := hrel
   have hwi : wrap64 ((i : Int) + 1) = (i : Int) + 1 := by have := HJ.out; unfold wrap64; omega
   obtain ⟨a, ha⟩ : ∃ a, a = rotP i p := ⟨_, rfl⟩
   have hin := HIN.out i
   rw [← ha] at HPI hin
   obtain ⟨a1, a2⟩ := a
   dsimp only at HPI hin
   have e0 := HPI.out.cell_ 0 (.int .i64 a1) rfl
   have e1 := HPI.out.cell_ 1 (.int .i64 a2) rfl
   have g0 := HPI.out.frozen 0
   have g1 := HPI.out.frozen 1
   have hwa : wrap64 (-a2) = -a2 := by unfold wrap64; omega
   have HA := Lib.hid ha
   clear hin ha
   by_cases hij : i < j'
   ·have HIJ := Lib.hid hij
    have HK : Hid (Kept (fun g => g = w.heap.size) wr ((wr.setCell ⟨w.heap.size, 0, none⟩ (.int .i64 (-a2))).setCell ⟨w.heap.size, 1, none⟩ (.int .i64 a1))) := Lib.hid (((Kept.refl (fun g => g = w.heap.size) wr).setCell (p := ⟨w.heap.size, 0, none⟩) (Or.inl rfl) _).setCell (p := ⟨w.heap.size, 1, none⟩) (Or.inl rfl) _)
    have HP2 : Hid (Blk ((wr.setCell ⟨w.heap.size, 0, none⟩ (.int .i64 (-a2))).setCell ⟨w.heap.size, 1, none⟩ (.int .i64 a1)) w.heap.size 49 #[.int .i64 (rotP (i + 1) p).1, .int .i64 (rotP (i + 1) p).2]) := Lib.hid (by
     have h1 : rotP (i + 1) p = (-a2, a1) := by show (-(rotP i p).2, (rotP i p).1) = _; rw [← HA.out]
     rw [h1]
     exact (HPI.out.set_ 0 (.int .i64 (-a2))).set_ 1 (.int .i64 a1))
    go_wp2
    go_roundw
    case rel => exact ⟨i + 1, HIJ.out, (by first | rfl | (rw [hwi]; rfl)), HP2, Lib.hid (HK.out.blk HQI.out (fun e => absurd e (Nat.succ_ne_self _))), Lib.hid (HBI.out.trans (HK.out.to_below HBI.out.size (fun g hg e => by rw [e] at hg; exact Nat.lt_irrefl _ hg)))⟩
    case measure => (try rw [hwi]); exact meas_step HIJ.out
   ·have hie : i = j' := Nat.le_antisymm hi (Nat.le_of_not_lt hij)
    have q0 := HQI.out.cell_ 0 (.int .i64 0) rfl
    have q1 := HQI.out.cell_ 1 (.int .i64 0) rfl
    have r0 := HQI.out.frozen 0
    have r1 := HQI.out.frozen 1
    have HS : Hid (s = (a1, a2)) := Lib.hid (by rw [← HRS.out, ← hie, HA.out])
    clear hie
    go_wp2
    have hq : Blk ((wr.setCell ⟨w.heap.size + 1, 0, none⟩ (.int .i64 a1)).setCell ⟨w.heap.size + 1, 1, none⟩ (.int .i64 a2)) (w.heap.size + 1) 49 #[.int .i64 a1, .int .i64 a2] := (HQI.out.set_ 0 (.int .i64 a1)).set_ 1 (.int .i64 a2)
    rw [HS.out]
    exact bodyPost_ret (results_cell_row Tryd.results31 _ _ (w.heap.size + 1) 49 #[.int .i64 a1, .int .i64 a2] (0, 0) _ rfl hq Tryd.underlying49 rfl Tryd.sizePoint) rfl
     ⟨rfl, (HBI.out.setCell (p := ⟨w.heap.size + 1, 0, none⟩) (Nat.le_succ _) _).setCell (p := ⟨w.heap.size + 1, 1, none⟩) (Nat.le_succ _) _⟩
end Go.Proofs.YtojnnfihpiegoaaDoor
