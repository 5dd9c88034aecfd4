/-
  pattern.Shift: the walk.
-/
import Derived.Test.YtblfeaapjloppaaDoorShi
namespace Go.Proofs.YtblfeaapjloppaaDoor
open Go.RowKit
set_option maxRecDepth 100000
set_option linter.unusedVariables false
set_option linter.unusedSimpArgs false

set_option maxHeartbeats 8000000 in
theorem shift_any (A : Option Addr) (c : Nat) (ps : List Cel) (dx dy : Int) (w : World) (ha : Cls w A ps) (hr : rightC ps = true) (hdx : -1048576 ≤ dx ∧ dx ≤ 1048576) (hdy : -1048576 ≤ dy ∧ dy ≤ 1048576)
    (hpl : ∀ i, i < ps.length → placeB (nx ps i + dx) (ny ps i + dy) = true) :
    Calls Tryd.prog 17 #[.slice A ps.length c, .int .i64 dx, .int .i64 dy] w fun e w' => ∃ A' c', e = .returned (.tuple #[.slice A' (movC dx dy ps).length c', .int .i64 0]) ∧ Cls w' A' (movC dx dy ps) ∧ Below w.heap.size w w' := by
  have HA := Lib.hid ha
  have hR := right_any A c ps w ha
  rw [hr] at hR
  have HRL := Lib.hid (right_len hr)
  have HPL := Lib.hid hpl
  have HR := Lib.hid hr
  have d1 : decide (2097152 < max dx dy) = false := decide_eq_false (by omega)
  have d2 : decide (min dx dy < -2097152) = false := decide_eq_false (by omega)
  have HDX := Lib.hid hdx
  have HDY := Lib.hid hdy
  clear ha hr hpl hdx hdy
  go_enter Tryd.func17, Tryd.ntmps17
  go_wp2_with (go_at_call 25; refine hR.mono ?_)
  rintro e w1 ⟨rfl, hb1⟩
  clear hR
  have HA1 := Lib.hid (HA.out.ext hb1)
  have HB1 := Lib.hid hb1
  clear hb1
  have hC := clone_any A c ps w1 HA1.out HRL.out
  go_wp2_with (go_at_call 35; refine hC.mono ?_)
  rintro e w2 ⟨v, rfl, ho, hb2⟩
  clear hC
  obtain ⟨A2, cap, G, rfl, hA2, hG, hrow⟩ := ho.rowAt
  have HB2 := Lib.hid (HB1.out.trans (hb2.mono HB1.out.size))
  have HG := Lib.hid (Nat.le_trans HB1.out.size hG)
  have HA2 := Lib.hid hA2
  have HROW := Lib.hid hrow
  clear hb2 ho hG hA2 hrow
  go_wp2
  go_loopw [27] (fun i wr => ∃ (k : Nat), k ≤ ps.length ∧ i = .int .i64 k ∧ Hid (Below w.heap.size w wr) ∧ Hid (RowAt wr G ps.length (fun i => if i < k then nx ps i + dx else nx ps i) (fun i => if i < k then ny ps i + dy else ny ps i) (ns ps))) (fun i _ => ps.length - (intOf i).toNat)
  case atStart => exact ⟨0, Nat.zero_le _, rfl, HB2, Lib.hid (HROW.out.congr (fun i _ => by simp) (fun i _ => by simp) (fun i _ => rfl))⟩
  case round =>
    clear HB2 HROW
    obtain ⟨k, hk, rfl, HB, HROW⟩ := hrel
    by_cases hlt : k < ps.length
    · have e2 := HA2.out (by omega)
      subst e2
      have hat := HROW.out k hlt
      dsimp only at hat
      rw [if_neg (Nat.lt_irrefl k), if_neg (Nat.lt_irrefl k)] at hat
      obtain ⟨hgl, z0, z1, z2, f0, f1⟩ := hat
      have HGL := Lib.hid hgl
      have hcel := right_cel HR.out hlt
      have hw1 : wrap64 ((k : Int) + 1) = (k : Int) + 1 := wr_c (by omega) (by have := HRL.out; omega)
      have hx : nx ps k = ps[k].x := by unfold nx; rw [List.getElem?_eq_getElem hlt]
      have hy : ny ps k = ps[k].y := by unfold ny; rw [List.getElem?_eq_getElem hlt]
      have hw2 : wrap64 (nx ps k + dx) = nx ps k + dx := by have := HDX.out; rw [hx]; unfold wrap64; omega
      have hw3 : wrap64 (ny ps k + dy) = ny ps k + dy := by have := HDY.out; rw [hy]; unfold wrap64; omega
      have hPL := HPL.out k hlt
      have HR1 := Lib.hid ((HROW.out.setX hlt (nx ps k + dx)).setY hlt (ny ps k + dy))
      have HBb := Lib.hid ((HB.out.setCell (p := ⟨G, k * 3, none⟩) HG.out (.int .i64 (nx ps k + dx))).setCell (p := ⟨G, k * 3 + 1, none⟩) HG.out (.int .i64 (ny ps k + dy)))
      obtain ⟨X, hX⟩ : ∃ X, X = nx ps k := ⟨_, rfl⟩
      obtain ⟨Y, hY⟩ : ∃ Y, Y = ny ps k := ⟨_, rfl⟩
      obtain ⟨Z, hZ⟩ : ∃ Z, Z = ns ps k := ⟨_, rfl⟩
      rw [← hX] at z0 hw2 hPL HR1 HBb
      rw [← hY] at z1 hw3 hPL HR1 HBb
      rw [← hZ] at z2
      have HN := Lib.hid (And.intro hX (And.intro hY hZ))
      clear hx hy hcel hgl hX hY hZ
      have hPL2 := fun w => placed_any (X + dx) (Y + dy) w
      rw [hPL] at hPL2
      have HPL2 := Lib.hid hPL2
      clear hPL hPL2
      go_upto_region 11 with fail
      obtain ⟨wb, hwb⟩ : ∃ wb, wb = (wr.setCell ⟨G, k * 3, none⟩ (.int .i64 (X + dx))).setCell ⟨G, k * 3 + 1, none⟩ (.int .i64 (Y + dy)) := ⟨_, rfl⟩
      rw [← hwb] at HR1 HBb ⊢
      clear hwb
      have hat := HR1.out k hlt
      dsimp only at hat
      rw [if_pos rfl, if_pos rfl, ← HN.out.2.2] at hat
      obtain ⟨-, a0, a1, a2, -, -⟩ := hat
      clear z0 z1 z2 f0 f1
      have hCE := at_any ⟨X + dx, Y + dy, Z⟩ wb
      unfold celV at hCE
      dsimp only at hCE
      go_wp2_with (go_at_call 37; refine hCE.mono ?_)
      rintro e w5 rfl hb5
      clear hCE
      have HR5 := Lib.hid (HR1.out.ext hb5)
      have HB5 := Lib.hid (HBb.out.trans (hb5.mono HBb.out.size))
      clear hb5 a0 a1 a2
      go_wp2_with (go_at_call 36; refine (HPL2.out _).mono ?_)
      rintro e w6 ⟨rfl, hb6⟩
      have HR6 := Lib.hid (HR5.out.ext hb6)
      have HB6 := Lib.hid (HB5.out.trans (hb6.mono HB5.out.size))
      clear hb6
      go_wp2
      go_roundw
      case rel =>
        refine ⟨k + 1, hlt, (by rw [hw1]; rfl), HB6, Lib.hid (HR6.out.congr (fun i hi => ?_) (fun i hi => ?_) (fun i _ => rfl))⟩
        · by_cases e : i = k
          · subst e
            rw [if_pos rfl, if_pos (by omega), HN.out.1]
          · rw [if_neg e]
            by_cases e2 : i < k
            · rw [if_pos e2, if_pos (by omega)]
            · rw [if_neg e2, if_neg (by omega)]
        · by_cases e : i = k
          · subst e
            rw [if_pos rfl, if_pos (by omega), HN.out.2.1]
          · rw [if_neg e]
            by_cases e2 : i < k
            · rw [if_pos e2, if_pos (by omega)]
            · rw [if_neg e2, if_neg (by omega)]
      case measure => rw [hw1]; exact ms_up hlt
    · have dk : decide ((k : Int) < ps.length) = false := decide_eq_false (by omega)
      have ek : k = ps.length := by omega
      have hrow : RowAt wr G (movC dx dy ps).length (nx (movC dx dy ps)) (ny (movC dx dy ps)) (ns (movC dx dy ps)) := by
        rw [mov_len]
        refine HROW.out.congr (fun i hi => ?_) (fun i hi => ?_) (fun i hi => ?_)
        · rw [if_pos (by omega), (mov_n dx dy ps hi).1]
        · rw [if_pos (by omega), (mov_n dx dy ps hi).2.1]
        · rw [(mov_n dx dy ps hi).2.2]
      have HC := Lib.hid (RowAt.cls (A := A2) (by rw [mov_len]; exact HA2.out) (by rw [mov_len]; have := HRL.out; omega) hrow)
      clear hrow HROW
      go_wp2
      go_ret2
      refine ⟨A2, cap, ?_, HC.out, HB.out⟩
      rw [mov_len]
      rfl
end Go.Proofs.YtblfeaapjloppaaDoor
