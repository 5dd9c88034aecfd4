/-
  Cells in order: pattern.at, placed, order, point.Compare; cellularref05.Place, before, order. No condition.
-/
import Derived.Test.YtblfeaapjloppaaDoorCls
import Derived.Test.YtblfeaapjloppaaDoorShelf
import Derived.BigQuiet
import Derived.Lib.QuietBelow
import Derived.Deep.RegionWith
import Derived.Deep.Cut
import Derived.Test.YtblfeaapjloppaaDoorJ
namespace Go.Proofs.YtblfeaapjloppaaDoor
open Go.RowKit
set_option maxRecDepth 100000
set_option linter.unusedVariables false
set_option linter.unusedSimpArgs false

theorem below_new (w : World) (o : Obj) : Below w.heap.size w (w.alloc o) := (Below.refl _ w).alloc (Nat.le_refl _) o
def placeB (x y : Int) : Bool := decide (-1048576 ≤ x) && decide (x ≤ 1048576) && decide (-1048576 ≤ y) && decide (y ≤ 1048576)
def befB (a b : Cel) : Bool := decide (a.y < b.y) || (a.y == b.y && decide (a.x < b.x))
def ptV (x y : Int) : Value := .agg #[.int .i64 x, .int .i64 y]
def celV (c : Cel) : Value := .agg #[.int .i64 c.x, .int .i64 c.y, .int .i64 c.s]
def ordP (x y x' y' : Int) : Int := if Lib.compareInt y y' ≠ 0 then Lib.compareInt y y' else Lib.compareInt x x'
def ordC (a b : Cel) : Int := ordP a.x a.y b.x b.y
theorem ord_bef (a b : Cel) : decide (0 ≤ ordC a b) = !befB a b := by
  unfold ordC ordP befB Lib.compareInt
  by_cases h1 : a.y < b.y
  · simp [h1]
  · by_cases h2 : b.y < a.y
    · have h3 : ¬ a.y = b.y := by omega
      simp [h1, h2, h3]
    · have h3 : a.y = b.y := by omega
      by_cases h4 : a.x < b.x
      · simp [h3, h4]
      · by_cases h5 : b.x < a.x
        · simp [h3, h4, h5]
        · simp [h3, h4, h5]
set_option maxHeartbeats 800000 in
theorem place_any (x y : Int) (w : World) : Calls Tryd.prog 32 #[.int .i64 x, .int .i64 y] w fun e w' => e = .returned (.bool (placeB x y)) ∧ w' = w := by
  unfold placeB
  cases k1 : decide (-1048576 ≤ x)
  · go_enter Tryd.func32, Tryd.ntmps32
    go_wp2
    go_ret
    exact ⟨ret_bool (by simp), rfl⟩
  cases k2 : decide (x ≤ 1048576)
  · go_enter Tryd.func32, Tryd.ntmps32
    go_wp2
    go_ret
    exact ⟨ret_bool (by simp), rfl⟩
  cases k3 : decide (-1048576 ≤ y)
  · go_enter Tryd.func32, Tryd.ntmps32
    go_wp2
    go_ret
    exact ⟨ret_bool (by simp), rfl⟩
  go_enter Tryd.func32, Tryd.ntmps32
  go_wp2
  go_ret
  exact ⟨ret_bool (by simp), rfl⟩
set_option maxHeartbeats 800000 in
theorem before_any (a b : Cel) (w : World) : Calls Tryd.prog 33 #[celV a, celV b] w fun e w' => e = .returned (.bool (befB a b)) ∧ Below w.heap.size w w' := by
  unfold celV befB
  have hb1 := (below_new w (.cells #[.int .i64 a.x, .int .i64 a.y, .int .i64 a.s] 34))
  have hb2 := Lib.hid (hb1.alloc hb1.size (.cells #[.int .i64 b.x, .int .i64 b.y, .int .i64 b.s] 34))
  clear hb1
  cases k1 : decide (a.y < b.y)
  · cases k2 : (a.y == b.y)
    · go_enter Tryd.func33, Tryd.ntmps33
      go_wp2
      go_ret
      exact ⟨ret_bool (by simp), hb2.out⟩
    · go_enter Tryd.func33, Tryd.ntmps33
      go_wp2
      go_ret
      exact ⟨ret_bool (by simp), hb2.out⟩
  · go_enter Tryd.func33, Tryd.ntmps33
    go_wp2
    go_ret
    exact ⟨ret_bool (by simp), hb2.out⟩
set_option maxHeartbeats 400000 in
theorem order_any (a b : Int) (w : World) : Calls Tryd.prog 42 #[.int .i64 a, .int .i64 b] w fun e w' => e = .returned (.int .i64 (Lib.compareInt a b)) ∧ w' = w := by
  unfold Lib.compareInt
  by_cases k1 : a < b
  · rw [if_pos k1]
    go_enter Tryd.func42, Tryd.ntmps42
    go_wp2
    go_ret
    exact ⟨rfl, rfl⟩
  · rw [if_neg k1]
    by_cases k2 : b < a
    · rw [if_pos k2]
      go_enter Tryd.func42, Tryd.ntmps42
      go_wp2
      go_ret
      exact ⟨rfl, rfl⟩
    · rw [if_neg k2]
      go_enter Tryd.func42, Tryd.ntmps42
      go_wp2
      go_ret
      exact ⟨rfl, rfl⟩
set_option maxHeartbeats 800000 in
theorem at_any (c : Cel) (w : World) : Calls Tryd.prog 37 #[celV c] w fun e w' => e = .returned (ptV c.x c.y) ∧ Below w.heap.size w w' := by
  unfold celV ptV
  have hb1 := (below_new w (.cells #[.int .i64 c.x, .int .i64 c.y, .int .i64 c.s] 34))
  have hb3 := Lib.hid (hb1.alloc hb1.size (.cells #[.int .i64 c.x, .int .i64 c.y] 60))
  clear hb1
  go_enter Tryd.func37, Tryd.ntmps37
  go_wp2
  refine bodyPost_ret (v := .agg #[.int .i64 c.x, .int .i64 c.y]) (by simp [results, Tryd.results37, go_sem]) rfl ?_
  exact ⟨rfl, hb3.out⟩
theorem placed_eq (x y : Int) : (decide (max x y ≤ 1048576) && decide (-1048576 ≤ min x y)) = placeB x y := by
  unfold placeB
  rw [Bool.eq_iff_iff]
  simp only [Bool.and_eq_true, decide_eq_true_eq]
  omega
set_option maxHeartbeats 800000 in
theorem placed_any (x y : Int) (w : World) : Calls Tryd.prog 36 #[ptV x y] w fun e w' => e = .returned (.bool (placeB x y)) ∧ Below w.heap.size w w' := by
  unfold ptV
  rw [← placed_eq]
  have hb1 := Lib.hid (below_new w (.cells #[.int .i64 x, .int .i64 y] 60))
  cases k1 : decide (max x y ≤ 1048576)
  · go_enter Tryd.func36, Tryd.ntmps36
    go_wp2
    go_ret
    exact ⟨ret_bool (by simp), hb1.out⟩
  · go_enter Tryd.func36, Tryd.ntmps36
    go_wp2
    go_ret
    exact ⟨ret_bool (by simp), hb1.out⟩
/-- the first number that is not 0 -/
def orL : List Int → Int
  | [] => 0
  | x :: l => if x = 0 then orL l else x
theorem orL_yes {l : List Int} {j : Nat} (h : j < l.length) (hd : l[j] = 0) : orL (l.drop j) = orL (l.drop (j + 1)) := by
  rw [List.drop_eq_getElem_cons h]
  simp [orL, hd]
theorem orL_no {l : List Int} {j : Nat} (h : j < l.length) (hd : ¬ l[j] = 0) : orL (l.drop j) = l[j] := by
  rw [List.drop_eq_getElem_cons h]
  simp [orL, hd]
set_option maxHeartbeats 800000 in
theorem cmpOr_any (A : Option Addr) (c : Nat) (xs : List Int) (w : World) (ha : Ints w A xs) : Calls Tryd.prog 63 #[.slice A xs.length c] w fun e w' => e = .returned (.int .i64 (orL xs)) ∧ w' = w := by
  have hn := ha.le
  go_enter Tryd.func63, Tryd.ntmps63
  go_wp2
  go_loopw [8] (fun i wr => ∃ k : Nat, k ≤ xs.length ∧ i = .int .i64 k ∧ wr = w ∧ Hid (orL xs = orL (xs.drop k))) (fun i _ => xs.length - (intOf i).toNat)
  case atStart => exact ⟨0, Nat.zero_le _, rfl, rfl, Lib.hid (by simp)⟩
  case round =>
    obtain ⟨k, hk, rfl, rfl, HT⟩ := hrel
    by_cases hlt : k < xs.length
    · obtain ⟨b1, o1, rfl, -, hc⟩ := ha.at_ hlt
      by_cases he : xs[k] = 0
      · have hd : (xs[k] != 0) = false := by simp [he]
        have HE := Lib.hid (orL_yes hlt he)
        clear he
        go_wp2
        go_roundw
        case rel => exact ⟨k + 1, by omega, by go_num, (by first | rfl | trivial), Lib.hid (HT.out.trans HE.out)⟩
        case measure => simp [intOf]; omega
      · have hd : (xs[k] != 0) = true := by simp [he]
        have HE := Lib.hid (orL_no hlt he)
        clear he
        go_wp2
        go_ret
        exact ⟨ret_int (by rw [HT.out, HE.out]), rfl⟩
    · have HZ : Hid (orL xs = 0) := Lib.hid (by
        have := HT.out
        rw [List.drop_of_length_le (by omega)] at this
        exact this)
      go_wp2
      go_ret
      exact ⟨ret_int (by rw [HZ.out]), rfl⟩
theorem ints_new (w : World) (zs : List Int) (h0 : 0 < zs.length) (h1 : zs.length ≤ 9223372036854775807) : Ints (w.alloc (.cells (zs.map (Value.int .i64)).toArray 3)) (some ⟨w.heap.size, 0, none⟩) zs := by
  refine ⟨⟨?_, fun _ => ⟨_, rfl, by simp, fun j v hv => ?_⟩⟩, h1⟩
  · simp
  · rw [addr_add]
    have : (w.alloc (.cells (zs.map (Value.int .i64)).toArray 3)).cell? ⟨w.heap.size, 0 + j, none⟩ = (zs.map (Value.int .i64)).toArray[0 + j]? := cell_of_row _ _ _ _ _ _ (heap_alloc_new w _)
    rw [this]
    simpa using hv
structure CmpJ (w0 : World) (P : Nat) (Q : Nat) (x : Int) (y : Int) (x' : Int) (y' : Int) (u : Int) (v : Int) (r : Int) (b0 b1 b2 b3 b4 b5 b6 b7 b8 b9 b10 b11 b12 : Bool) (v5 v6 v7 v8 v9 v10 v11 v12 v13 v14 v15 v16 v4 : Value) (w : World) : Prop where
  below : Below w0.heap.size w0 w
  h0 : b0 = true → v5 = .pointer (some ⟨P, 1, none⟩)
  h1 : b1 = true → v6 = .int .i64 y
  h2 : b2 = true → v7 = .pointer (some ⟨Q, 1, none⟩)
  h3 : b3 = true → v8 = .int .i64 y'
  h4 : b4 = true → v9 = .int .i64 u
  h5 : b5 = true → v10 = .pointer (some ⟨P, 0, none⟩)
  h6 : b6 = true → v11 = .int .i64 x
  h7 : b7 = true → v12 = .pointer (some ⟨Q, 0, none⟩)
  h8 : b8 = true → v13 = .int .i64 x'
  h9 : b9 = true → v14 = .int .i64 v
  h10 : b10 = true → ∃ g, v15 = .slice (some ⟨g, 0, none⟩) 2 2 ∧ Ints w (some ⟨g, 0, none⟩) [u, v]
  h11 : b11 = true → v16 = .int .i64 r
  h12 : b12 = true → v4 = .int .i64 r
section
variable {w0 : World} {P : Nat} {Q : Nat} {x : Int} {y : Int} {x' : Int} {y' : Int} {u : Int} {v : Int} {r : Int} {b0 b1 b2 b3 b4 b5 b6 b7 b8 b9 b10 b11 b12 : Bool} {v5 v6 v7 v8 v9 v10 v11 v12 v13 v14 v15 v16 v4 : Value} {w w' : World}
theorem CmpJ.world (H : CmpJ w0 P Q x y x' y' u v r b0 b1 b2 b3 b4 b5 b6 b7 b8 b9 b10 b11 b12 v5 v6 v7 v8 v9 v10 v11 v12 v13 v14 v15 v16 v4 w) (hb : Below w.heap.size w w') : CmpJ w0 P Q x y x' y' u v r b0 b1 b2 b3 b4 b5 b6 b7 b8 b9 b10 b11 b12 v5 v6 v7 v8 v9 v10 v11 v12 v13 v14 v15 v16 v4 w' :=
  ⟨H.below.trans (hb.mono H.below.size), H.h0, H.h1, H.h2, H.h3, H.h4, H.h5, H.h6, H.h7, H.h8, H.h9, fun h => by obtain ⟨g, h1, h2⟩ := H.h10 h; exact ⟨g, h1, h2.ext hb⟩, H.h11, H.h12⟩
end
set_option maxHeartbeats 4000000 in
theorem compare_any (x y x' y' : Int) (w : World) : Calls Tryd.prog 56 #[ptV x y, ptV x' y'] w fun e w' => e = .returned (.int .i64 (ordP x y x' y')) ∧ Below w.heap.size w w' := by
  unfold ptV
  have hb1 := (below_new w (.cells #[.int .i64 x, .int .i64 y] 60))
  have HB := Lib.hid (hb1.alloc hb1.size (.cells #[.int .i64 x', .int .i64 y'] 60))
  have p0 := (Blk.new w 60 #[.int .i64 x, .int .i64 y]).alloc (.cells #[.int .i64 x', .int .i64 y'] 60)
  have q0 := Blk.new (w.alloc (.cells #[.int .i64 x, .int .i64 y] 60)) 60 #[.int .i64 x', .int .i64 y']
  rw [show (w.alloc (.cells #[.int .i64 x, .int .i64 y] 60)).heap.size = w.heap.size + 1 from by simp] at q0
  have P0 := Lib.hid (p0.cell_ 0 (.int .i64 x) rfl)
  have P1 := Lib.hid (p0.cell_ 1 (.int .i64 y) rfl)
  have Q0 := Lib.hid (q0.cell_ 0 (.int .i64 x') rfl)
  have Q1 := Lib.hid (q0.cell_ 1 (.int .i64 y') rfl)
  have HS : Hid (w.heap.size < ((w.alloc (.cells #[.int .i64 x, .int .i64 y] 60)).alloc (.cells #[.int .i64 x', .int .i64 y'] 60)).heap.size ∧ w.heap.size + 1 < ((w.alloc (.cells #[.int .i64 x, .int .i64 y] 60)).alloc (.cells #[.int .i64 x', .int .i64 y'] 60)).heap.size) := Lib.hid (by simp; omega)
  clear hb1 p0 q0
  obtain ⟨r, hr⟩ : ∃ r, r = ordP x y x' y' := ⟨_, rfl⟩
  have HR : Hid (orL [Lib.compareInt y y', Lib.compareInt x x'] = r) := Lib.hid (by
    rw [hr]
    unfold ordP
    by_cases h : Lib.compareInt y y' = 0
    · simp [orL, h]; intro h2; exact h2.symm
    · simp [orL, h])
  have HR2 := Lib.hid hr
  clear hr
  have C1 := Lib.hid (fun w => Tryd.cmp_Compare_int y y' w)
  have C2 := Lib.hid (fun w => Tryd.cmp_Compare_int x x' w)
  generalize Lib.compareInt y y' = u at *
  generalize Lib.compareInt x x' = v at *
  go_enter Tryd.func56, Tryd.ntmps56
  go_upto_region 1 with fail
  generalize ((w.alloc (.cells #[.int .i64 x, .int .i64 y] 60)).alloc (.cells #[.int .i64 x', .int .i64 y'] 60)) = w2 at *
  refine wp_region_J (by kernel_rfl) (fun listed act w' => ∃ b0 b1 b2 b3 b4 b5 b6 b7 b8 b9 b10 b11 b12 v5 v6 v7 v8 v9 v10 v11 v12 v13 v14 v15 v16 v4, listed = #[b0, b1, b2, b3, b4, b5, b6, b7, b8, b9, b10, b11, b12] ∧ act = Act.mk #[.agg #[.int .i64 x, .int .i64 y], .agg #[.int .i64 x', .int .i64 y'], .pointer (some ⟨w.heap.size, 0, none⟩), .pointer (some ⟨w.heap.size + 1, 0, none⟩), v4, v5, v6, v7, v8, v9, v10, v11, v12, v13, v14, v15, v16] [] ∧ CmpJ w2 w.heap.size (w.heap.size + 1) x y x' y' u v r b0 b1 b2 b3 b4 b5 b6 b7 b8 b9 b10 b11 b12 v5 v6 v7 v8 v9 v10 v11 v12 v13 v14 v15 v16 v4 w') ?_ ?_ ?_
  · exact ⟨_, _, _, _, _, _, _, _, _, _, _, _, _, _, _, _, _, _, _, _, _, _, _, _, _, _, rfl, rfl, ⟨(Below.refl _ w2).drew, (by simp), (by simp), (by simp), (by simp), (by simp), (by simp), (by simp), (by simp), (by simp), (by simp), (by simp), (by simp), (by simp)⟩⟩
  · rintro i listed act w' hi ⟨b0, b1, b2, b3, b4, b5, b6, b7, b8, b9, b10, b11, b12, v5, v6, v7, v8, v9, v10, v11, v12, v13, v14, v15, v16, v4, rfl, rfl, H⟩
    have hi16 : i < 13 := by
      obtain ⟨-, o, ho, -⟩ := mem_ready.1 hi
      exact (Array.getElem?_eq_some_iff.1 ho).1
    obtain rfl | rfl | rfl | rfl | rfl | rfl | rfl | rfl | rfl | rfl | rfl | rfl | rfl : i = 0 ∨ i = 1 ∨ i = 2 ∨ i = 3 ∨ i = 4 ∨ i = 5 ∨ i = 6 ∨ i = 7 ∨ i = 8 ∨ i = 9 ∨ i = 10 ∨ i = 11 ∨ i = 12 := by omega
    all_goals simp [mem_ready, Region.binds] at hi
    · refine wpOp_hidden rfl fun K hK => ?_
      go_wp2
      refine OnlyN.mk (hK.out _ _ ⟨true, _, _, _, _, _, _, _, _, _, _, _, _, .pointer (some ⟨w.heap.size, 1, none⟩), _, _, _, _, _, _, _, _, _, _, _, _, rfl, rfl, ⟨H.below, fun _ => rfl, H.h1, H.h2, H.h3, H.h4, H.h5, H.h6, H.h7, H.h8, H.h9, H.h10, H.h11, H.h12⟩⟩)
    · obtain rfl := H.h0 (by simp [hi])
      have cc : w'.cell? ⟨w.heap.size, 1, none⟩ = _ := (H.below.cell (p := ⟨w.heap.size, 1, none⟩) HS.out.1).trans P1.out
      refine wpOp_hidden rfl fun K hK => ?_
      go_wp2
      refine OnlyN.mk (hK.out _ _ ⟨_, true, _, _, _, _, _, _, _, _, _, _, _, _, .int .i64 y, _, _, _, _, _, _, _, _, _, _, _, rfl, rfl, ⟨H.below, H.h0, fun _ => rfl, H.h2, H.h3, H.h4, H.h5, H.h6, H.h7, H.h8, H.h9, H.h10, H.h11, H.h12⟩⟩)
    · refine wpOp_hidden rfl fun K hK => ?_
      go_wp2
      refine OnlyN.mk (hK.out _ _ ⟨_, _, true, _, _, _, _, _, _, _, _, _, _, _, _, .pointer (some ⟨w.heap.size + 1, 1, none⟩), _, _, _, _, _, _, _, _, _, _, rfl, rfl, ⟨H.below, H.h0, H.h1, fun _ => rfl, H.h3, H.h4, H.h5, H.h6, H.h7, H.h8, H.h9, H.h10, H.h11, H.h12⟩⟩)
    · obtain rfl := H.h2 (by simp [hi])
      have cc : w'.cell? ⟨w.heap.size + 1, 1, none⟩ = _ := (H.below.cell (p := ⟨w.heap.size + 1, 1, none⟩) HS.out.2).trans Q1.out
      refine wpOp_hidden rfl fun K hK => ?_
      go_wp2
      refine OnlyN.mk (hK.out _ _ ⟨_, _, _, true, _, _, _, _, _, _, _, _, _, _, _, _, .int .i64 y', _, _, _, _, _, _, _, _, _, rfl, rfl, ⟨H.below, H.h0, H.h1, H.h2, fun _ => rfl, H.h4, H.h5, H.h6, H.h7, H.h8, H.h9, H.h10, H.h11, H.h12⟩⟩)
    · obtain rfl := H.h1 (by simp [hi])
      obtain rfl := H.h3 (by simp [hi])
      refine wpOp_hidden rfl fun K hK => ?_
      go_wp2_with fail
      refine (C1.out _).mono ?_
      rintro e w9 ⟨rfl, hw9⟩
      have hw8 := hw9.symm
      clear hw9
      subst hw8
      go_wp2
      refine OnlyN.mk (hK.out _ _ ⟨_, _, _, _, true, _, _, _, _, _, _, _, _, _, _, _, _, .int .i64 u, _, _, _, _, _, _, _, _, rfl, rfl, ⟨H.below, H.h0, H.h1, H.h2, H.h3, fun _ => rfl, H.h5, H.h6, H.h7, H.h8, H.h9, H.h10, H.h11, H.h12⟩⟩)
    · refine wpOp_hidden rfl fun K hK => ?_
      go_wp2
      refine OnlyN.mk (hK.out _ _ ⟨_, _, _, _, _, true, _, _, _, _, _, _, _, _, _, _, _, _, .pointer (some ⟨w.heap.size, 0, none⟩), _, _, _, _, _, _, _, rfl, rfl, ⟨H.below, H.h0, H.h1, H.h2, H.h3, H.h4, fun _ => rfl, H.h6, H.h7, H.h8, H.h9, H.h10, H.h11, H.h12⟩⟩)
    · obtain rfl := H.h5 (by simp [hi])
      have cc : w'.cell? ⟨w.heap.size, 0, none⟩ = _ := (H.below.cell (p := ⟨w.heap.size, 0, none⟩) HS.out.1).trans P0.out
      refine wpOp_hidden rfl fun K hK => ?_
      go_wp2
      refine OnlyN.mk (hK.out _ _ ⟨_, _, _, _, _, _, true, _, _, _, _, _, _, _, _, _, _, _, _, .int .i64 x, _, _, _, _, _, _, rfl, rfl, ⟨H.below, H.h0, H.h1, H.h2, H.h3, H.h4, H.h5, fun _ => rfl, H.h7, H.h8, H.h9, H.h10, H.h11, H.h12⟩⟩)
    · refine wpOp_hidden rfl fun K hK => ?_
      go_wp2
      refine OnlyN.mk (hK.out _ _ ⟨_, _, _, _, _, _, _, true, _, _, _, _, _, _, _, _, _, _, _, _, .pointer (some ⟨w.heap.size + 1, 0, none⟩), _, _, _, _, _, rfl, rfl, ⟨H.below, H.h0, H.h1, H.h2, H.h3, H.h4, H.h5, H.h6, fun _ => rfl, H.h8, H.h9, H.h10, H.h11, H.h12⟩⟩)
    · obtain rfl := H.h7 (by simp [hi])
      have cc : w'.cell? ⟨w.heap.size + 1, 0, none⟩ = _ := (H.below.cell (p := ⟨w.heap.size + 1, 0, none⟩) HS.out.2).trans Q0.out
      refine wpOp_hidden rfl fun K hK => ?_
      go_wp2
      refine OnlyN.mk (hK.out _ _ ⟨_, _, _, _, _, _, _, _, true, _, _, _, _, _, _, _, _, _, _, _, _, .int .i64 x', _, _, _, _, rfl, rfl, ⟨H.below, H.h0, H.h1, H.h2, H.h3, H.h4, H.h5, H.h6, H.h7, fun _ => rfl, H.h9, H.h10, H.h11, H.h12⟩⟩)
    · obtain rfl := H.h6 (by simp [hi])
      obtain rfl := H.h8 (by simp [hi])
      refine wpOp_hidden rfl fun K hK => ?_
      go_wp2_with fail
      refine (C2.out _).mono ?_
      rintro e w9 ⟨rfl, hw9⟩
      have hw8 := hw9.symm
      clear hw9
      subst hw8
      go_wp2
      refine OnlyN.mk (hK.out _ _ ⟨_, _, _, _, _, _, _, _, _, true, _, _, _, _, _, _, _, _, _, _, _, _, .int .i64 v, _, _, _, rfl, rfl, ⟨H.below, H.h0, H.h1, H.h2, H.h3, H.h4, H.h5, H.h6, H.h7, H.h8, fun _ => rfl, H.h10, H.h11, H.h12⟩⟩)
    · obtain rfl := H.h4 (by simp [hi])
      obtain rfl := H.h9 (by simp [hi])
      have HA := Lib.hid (H.world (below_new w' (.cells #[.int .i64 u, .int .i64 v] 3)))
      have HI := Lib.hid (ints_new w' [u, v] (by simp) (by simp))
      have HH := Lib.hid H
      clear H
      refine wpOp_hidden rfl fun K hK => ?_
      go_wp2
      refine OnlyN.mk (hK.out _ _ ⟨_, _, _, _, _, _, _, _, _, _, true, _, _, _, _, _, _, _, _, _, _, _, _, .slice (some ⟨w'.heap.size, 0, none⟩) 2 2, _, _, rfl, rfl, ⟨HA.out.below, HA.out.h0, HA.out.h1, HA.out.h2, HA.out.h3, HA.out.h4, HA.out.h5, HA.out.h6, HA.out.h7, HA.out.h8, HA.out.h9, fun _ => ⟨w'.heap.size, rfl, HI.out⟩, HA.out.h11, HA.out.h12⟩⟩)
    · obtain ⟨g, rfl, hg⟩ := H.h10 (by simp [hi])
      have HO := Lib.hid (cmpOr_any (some ⟨g, 0, none⟩) 2 [u, v] w' hg)
      rw [HR.out] at HO
      clear hg
      refine wpOp_hidden rfl fun K hK => ?_
      go_wp2_with fail
      refine HO.out.mono ?_
      rintro e w9 ⟨rfl, hw9⟩
      have hw8 := hw9.symm
      clear hw9
      subst hw8
      go_wp2
      refine OnlyN.mk (hK.out _ _ ⟨_, _, _, _, _, _, _, _, _, _, _, true, _, _, _, _, _, _, _, _, _, _, _, _, .int .i64 r, _, rfl, rfl, ⟨H.below, H.h0, H.h1, H.h2, H.h3, H.h4, H.h5, H.h6, H.h7, H.h8, H.h9, H.h10, fun _ => rfl, H.h12⟩⟩)
    · obtain rfl := H.h11 (by simp [hi])
      refine wpOp_hidden rfl fun K hK => ?_
      go_wp2
      refine OnlyN.mk (hK.out _ _ ⟨_, _, _, _, _, _, _, _, _, _, _, _, true, _, _, _, _, _, _, _, _, _, _, _, _, .int .i64 r, rfl, rfl, ⟨H.below, H.h0, H.h1, H.h2, H.h3, H.h4, H.h5, H.h6, H.h7, H.h8, H.h9, H.h10, H.h11, fun _ => rfl⟩⟩)
  · rintro listed act w' hr ⟨b0, b1, b2, b3, b4, b5, b6, b7, b8, b9, b10, b11, b12, v5, v6, v7, v8, v9, v10, v11, v12, v13, v14, v15, v16, v4, rfl, rfl, H⟩
    have hn := List.eq_nil_iff_forall_not_mem.1 hr
    have r0 := hn 0
    simp [mem_ready, Region.binds] at r0
    subst r0
    have r1 := hn 1
    simp [mem_ready, Region.binds] at r1
    subst r1
    have r2 := hn 2
    simp [mem_ready, Region.binds] at r2
    subst r2
    have r3 := hn 3
    simp [mem_ready, Region.binds] at r3
    subst r3
    have r4 := hn 4
    simp [mem_ready, Region.binds] at r4
    subst r4
    have r5 := hn 5
    simp [mem_ready, Region.binds] at r5
    subst r5
    have r6 := hn 6
    simp [mem_ready, Region.binds] at r6
    subst r6
    have r7 := hn 7
    simp [mem_ready, Region.binds] at r7
    subst r7
    have r8 := hn 8
    simp [mem_ready, Region.binds] at r8
    subst r8
    have r9 := hn 9
    simp [mem_ready, Region.binds] at r9
    subst r9
    have r10 := hn 10
    simp [mem_ready, Region.binds] at r10
    subst r10
    have r11 := hn 11
    simp [mem_ready, Region.binds] at r11
    subst r11
    have r12 := hn 12
    simp [mem_ready, Region.binds] at r12
    subst r12
    obtain rfl := H.h12 rfl
    go_wp2_with fail
    go_ret
    exact ⟨ret_int HR2.out, HB.out.trans (H.below.mono HB.out.size)⟩
end Go.Proofs.YtblfeaapjloppaaDoor
