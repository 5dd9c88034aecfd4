/-
  texts Cmp HoodR: parts of the proof; conditions stand with each theorem.
-/
import Derived.Test.YtlegfdllipkggaaDoorYG2
import Derived.Test.YtlegfdllipkggaaDoorYJ
import Derived.Lib.Small
import Derived.BigQuiet
import Derived.Lib.QuietBelow
import Derived.Deep.RegionWith
import Derived.Deep.Cut
namespace Go.Proofs.YtlegfdllipkggaaDoor
open Go.RowKit
set_option maxRecDepth 100000
set_option linter.unusedVariables false
set_option linter.unusedSimpArgs false

def ptV (x y : Int) : Value := .agg #[.int .i64 x, .int .i64 y]
def ordP (x y x' y' : Int) : Int := if Lib.compareInt y y' ≠ 0 then Lib.compareInt y y' else Lib.compareInt x x'
theorem isNan_any (x : Int) (w : World) : Calls Tryd.prog 91 #[.int .i64 x] w fun e w' => e = .returned (.bool false) ∧ w' = w := by
 have hd : (x != x) = false := by simp
 go_enter Tryd.func91, Tryd.ntmps91; go_wp2; go_ret; exact ⟨rfl, rfl⟩
set_option maxHeartbeats 800000 in
theorem cmpCompare (x y : Int) (w : World) : Calls Tryd.prog 79 #[.int .i64 x, .int .i64 y] w fun e w' => e = .returned (.int .i64 (Lib.compareInt x y)) ∧ w' = w := by
 have H1 := Lib.hid (isNan_any x w); have H2 := Lib.hid (isNan_any y w); unfold Lib.compareInt; by_cases h1 : x < y
 ·rw [if_pos h1]; have d1 : decide (x < y) = true := decide_eq_true h1; clear h1; go_enter Tryd.func79, Tryd.ntmps79; go_wp2_with (first | (go_at_call_of 91 x; refine H1.out.mono ?_; rintro e w1 ⟨rfl, rfl⟩) | (go_at_call_of 91 y; refine H2.out.mono ?_; rintro e w1 ⟨rfl, rfl⟩)); go_ret; exact ⟨rfl, rfl⟩
 ·rw [if_neg h1]; have d1 : decide (x < y) = false := decide_eq_false h1; by_cases h2 : x > y
  ·rw [if_pos h2]; have d2 : decide (y < x) = true := decide_eq_true h2; clear h1 h2; go_enter Tryd.func79, Tryd.ntmps79; go_wp2_with (first | (go_at_call_of 91 x; refine H1.out.mono ?_; rintro e w1 ⟨rfl, rfl⟩) | (go_at_call_of 91 y; refine H2.out.mono ?_; rintro e w1 ⟨rfl, rfl⟩)); go_ret; exact ⟨rfl, rfl⟩
  ·rw [if_neg h2]; have d2 : decide (y < x) = false := decide_eq_false h2; clear h1 h2; go_enter Tryd.func79, Tryd.ntmps79; go_wp2_with (first | (go_at_call_of 91 x; refine H1.out.mono ?_; rintro e w1 ⟨rfl, rfl⟩) | (go_at_call_of 91 y; refine H2.out.mono ?_; rintro e w1 ⟨rfl, rfl⟩)); go_ret; exact ⟨rfl, rfl⟩
def orL : List Int → Int
 | [] => 0
 | x :: l => if x = 0 then orL l else x
theorem orL_yes {l : List Int} {j : Nat} (h : j < l.length) (hd : l[j] = 0) : orL (l.drop j) = orL (l.drop (j + 1)) := by
 rw [List.drop_eq_getElem_cons h]; simp [orL, hd]
theorem orL_no {l : List Int} {j : Nat} (h : j < l.length) (hd : ¬ l[j] = 0) : orL (l.drop j) = l[j] := by
 rw [List.drop_eq_getElem_cons h]; simp [orL, hd]
set_option maxHeartbeats 800000 in
theorem cmpOr_any (A : Option Addr) (c : Nat) (xs : List Int) (w : World) (ha : Ints w A xs) : Calls Tryd.prog 78 #[.slice A xs.length c] w fun e w' => e = .returned (.int .i64 (orL xs)) ∧ w' = w := by
 have hn := ha.le; go_enter Tryd.func78, Tryd.ntmps78; go_wp2; go_loopw [8] (fun i wr => ∃ k : Nat, k ≤ xs.length ∧ i = .int .i64 k ∧ wr = w ∧ Hid (orL xs = orL (xs.drop k))) (fun i _ => xs.length - (intOf i).toNat)
 case atStart => exact ⟨0, Nat.zero_le _, rfl, rfl, Lib.hid (by simp)⟩
 case round =>
  obtain ⟨k, hk, rfl, rfl, HT⟩ := hrel; by_cases hlt : k < xs.length
  ·obtain ⟨b1, o1, rfl, -, hc⟩ := ha.at_ hlt; by_cases he : xs[k] = 0
   ·have hd : (xs[k] != 0) = false := by simp [he]
    have HE := Lib.hid (orL_yes hlt he); clear he; go_wp2; go_roundw
    case rel => exact ⟨k + 1, by omega, by go_num, (by first | rfl | trivial), Lib.hid (HT.out.trans HE.out)⟩
    case measure => simp [intOf]; omega
   ·have hd : (xs[k] != 0) = true := by simp [he]
    have HE := Lib.hid (orL_no hlt he); clear he; go_wp2; go_ret; exact ⟨ret_int (by rw [HT.out, HE.out]), rfl⟩
  ·have HZ : Hid (orL xs = 0) := Lib.hid (by
    have := HT.out; rw [List.drop_of_length_le (by omega)] at this; exact this)
   go_wp2; go_ret; exact ⟨ret_int (by rw [HZ.out]), rfl⟩
theorem ints_new (w : World) (zs : List Int) (h0 : 0 < zs.length) (h1 : zs.length ≤ 9223372036854775807) : Ints (w.alloc (.cells (zs.map (Value.int .i64)).toArray 3)) (some ⟨w.heap.size, 0, none⟩) zs := by
 refine ⟨⟨?_, fun _ => ⟨_, rfl, by simp, fun j v hv => ?_⟩⟩, h1⟩
 ·simp
 ·rw [addr_add]; have : (w.alloc (.cells (zs.map (Value.int .i64)).toArray 3)).cell? ⟨w.heap.size, 0 + j, none⟩ = (zs.map (Value.int .i64)).toArray[0 + j]? := cell_of_row _ _ _ _ _ _ (heap_alloc_new w _); rw [this]; simpa using hv
structure CmpJ (w0 : World) (P : Nat) (Q : Nat) (x : Int) (y : Int) (x' : Int) (y' : Int) (u : Int) (v : Int) (r : Int) (b0 b1 b2 b3 b4 b5 b6 b7 b8 b9 b10 b11 b12 : Bool) (v5 v6 v7 v8 v9 v10 v11 v12 v13 v14 v15 v16 v4 : Value) (w : World) : Prop where
 below : Below w0.heap.size w0 w
 h0 : b0 = true → v5 = .pointer (some ⟨P, 1, none⟩)
 h1 : b1 = true → v6 = .int .i64 y
 h2 : b2 = true → v7 = .pointer (some ⟨Q, 1, none⟩)
 h3 : b3 = true → v8 = .int .i64 y'
 h4 : b4 = true → v9 = .int .i64 u
 h5 : b5 = true → v10 = .pointer (some ⟨P, 0, none⟩)
 h6 : b6 = true → v11 = .int .i64 x
 h7 : b7 = true → v12 = .pointer (some ⟨Q, 0, none⟩)
 h8 : b8 = true → v13 = .int .i64 x'
 h9 : b9 = true → v14 = .int .i64 v
 h10 : b10 = true → ∃ g, v15 = .slice (some ⟨g, 0, none⟩) 2 2 ∧ Ints w (some ⟨g, 0, none⟩) [u, v]
 h11 : b11 = true → v16 = .int .i64 r
 h12 : b12 = true → v4 = .int .i64 r
section
variable {w0 : World} {P : Nat} {Q : Nat} {x : Int} {y : Int} {x' : Int} {y' : Int} {u : Int} {v : Int} {r : Int} {b0 b1 b2 b3 b4 b5 b6 b7 b8 b9 b10 b11 b12 : Bool} {v5 v6 v7 v8 v9 v10 v11 v12 v13 v14 v15 v16 v4 : Value} {w w' : World}
theorem CmpJ.world (H : CmpJ w0 P Q x y x' y' u v r b0 b1 b2 b3 b4 b5 b6 b7 b8 b9 b10 b11 b12 v5 v6 v7 v8 v9 v10 v11 v12 v13 v14 v15 v16 v4 w) (hb : Below w.heap.size w w') : CmpJ w0 P Q x y x' y' u v r b0 b1 b2 b3 b4 b5 b6 b7 b8 b9 b10 b11 b12 v5 v6 v7 v8 v9 v10 v11 v12 v13 v14 v15 v16 v4 w' :=
 {H with below := H.below.trans (hb.mono H.below.size), h10 := fun h => by obtain ⟨g, h1, h2⟩ := H.h10 h; exact ⟨g, h1, h2.ext hb⟩ }
end
set_option maxHeartbeats 4000000 in
theorem compare_any (x y x' y' : Int) (w : World) : Calls Tryd.prog 63 #[ptV x y, ptV x' y'] w fun e w' => e = .returned (.int .i64 (ordP x y x' y')) ∧ Below w.heap.size w w' := by
 unfold ptV; have hb1 := (below_new w (.cells #[.int .i64 x, .int .i64 y] 67))
 have HB := Lib.hid (hb1.alloc hb1.size (.cells #[.int .i64 x', .int .i64 y'] 67)); have p0 := (Blk.new w 67 #[.int .i64 x, .int .i64 y]).alloc (.cells #[.int .i64 x', .int .i64 y'] 67); have q0 := Blk.new (w.alloc (.cells #[.int .i64 x, .int .i64 y] 67)) 67 #[.int .i64 x', .int .i64 y']; rw [show (w.alloc (.cells #[.int .i64 x, .int .i64 y] 67)).heap.size = w.heap.size + 1 from by simp] at q0; have P0 := Lib.hid (p0.cell_ 0 (.int .i64 x) rfl); have P1 := Lib.hid (p0.cell_ 1 (.int .i64 y) rfl); have Q0 := Lib.hid (q0.cell_ 0 (.int .i64 x') rfl); have Q1 := Lib.hid (q0.cell_ 1 (.int .i64 y') rfl); have HS : Hid (w.heap.size < ((w.alloc (.cells #[.int .i64 x, .int .i64 y] 67)).alloc (.cells #[.int .i64 x', .int .i64 y'] 67)).heap.size ∧ w.heap.size + 1 < ((w.alloc (.cells #[.int .i64 x, .int .i64 y] 67)).alloc (.cells #[.int .i64 x', .int .i64 y'] 67)).heap.size) := Lib.hid (by simp; omega); clear hb1 p0 q0; obtain ⟨r, hr⟩ : ∃ r, r = ordP x y x' y' := ⟨_, rfl⟩
 have HR : Hid (orL [Lib.compareInt y y', Lib.compareInt x x'] = r) := Lib.hid (by
  rw [hr]; unfold ordP; by_cases h : Lib.compareInt y y' = 0
  ·simp [orL, h]; intro h2; exact h2.symm
  ·simp [orL, h])
 have HR2 := Lib.hid hr; clear hr; have C1 := Lib.hid (fun w => cmpCompare y y' w); have C2 := Lib.hid (fun w => cmpCompare x x' w); generalize Lib.compareInt y y' = u at *; generalize Lib.compareInt x x' = v at *; go_enter Tryd.func63, Tryd.ntmps63; go_upto_region 1 with fail
 generalize ((w.alloc (.cells #[.int .i64 x, .int .i64 y] 67)).alloc (.cells #[.int .i64 x', .int .i64 y'] 67)) = w2 at *; refine wp_region_J (by kernel_rfl) (fun listed act w' => ∃ b0 b1 b2 b3 b4 b5 b6 b7 b8 b9 b10 b11 b12 v5 v6 v7 v8 v9 v10 v11 v12 v13 v14 v15 v16 v4, listed = #[b0, b1, b2, b3, b4, b5, b6, b7, b8, b9, b10, b11, b12] ∧ act = Act.mk #[.agg #[.int .i64 x, .int .i64 y], .agg #[.int .i64 x', .int .i64 y'], .pointer (some ⟨w.heap.size, 0, none⟩), .pointer (some ⟨w.heap.size + 1, 0, none⟩), v4, v5, v6, v7, v8, v9, v10, v11, v12, v13, v14, v15, v16] [] ∧ CmpJ w2 w.heap.size (w.heap.size + 1) x y x' y' u v r b0 b1 b2 b3 b4 b5 b6 b7 b8 b9 b10 b11 b12 v5 v6 v7 v8 v9 v10 v11 v12 v13 v14 v15 v16 v4 w') ?_ ?_ ?_
 ·exact (e_8 (e_8 (e_8 (e_2 ⟨rfl, rfl, (by constructor; (case below => exact (Below.refl _ w2).drew); all_goals simp)⟩))))
 ·rintro i listed act w' hi ⟨b0, b1, b2, b3, b4, b5, b6, b7, b8, b9, b10, b11, b12, v5, v6, v7, v8, v9, v10, v11, v12, v13, v14, v15, v16, v4, rfl, rfl, H⟩; have hi16 : i < 13 := by
   obtain ⟨-, o, ho, -⟩ := mem_ready.1 hi; exact (Array.getElem?_eq_some_iff.1 ho).1
  obtain rfl | rfl | rfl | rfl | rfl | rfl | rfl | rfl | rfl | rfl | rfl | rfl | rfl : i = 0 ∨ i = 1 ∨ i = 2 ∨ i = 3 ∨ i = 4 ∨ i = 5 ∨ i = 6 ∨ i = 7 ∨ i = 8 ∨ i = 9 ∨ i = 10 ∨ i = 11 ∨ i = 12 := by omega
  all_goals simp [mem_ready, Region.binds] at hi
  ·refine wpOp_hidden rfl fun K hK => ?_; go_wp2; refine OnlyN.mk (hK.out _ _ (e_8 (e_8 (e_8 (e_2 ⟨rfl, rfl, { H with h0 := fun _ => rfl }⟩)))))
  ·obtain rfl := H.h0 (by simp [hi]); have cc : w'.cell? ⟨w.heap.size, 1, none⟩ = _ := (H.below.cell (p := ⟨w.heap.size, 1, none⟩) HS.out.1).trans P1.out; refine wpOp_hidden rfl fun K hK => ?_; go_wp2; refine OnlyN.mk (hK.out _ _ (e_8 (e_8 (e_8 (e_2 ⟨rfl, rfl, { H with h1 := fun _ => rfl }⟩)))))
  ·refine wpOp_hidden rfl fun K hK => ?_; go_wp2; refine OnlyN.mk (hK.out _ _ (e_8 (e_8 (e_8 (e_2 ⟨rfl, rfl, { H with h2 := fun _ => rfl }⟩)))))
  ·obtain rfl := H.h2 (by simp [hi]); have cc : w'.cell? ⟨w.heap.size + 1, 1, none⟩ = _ := (H.below.cell (p := ⟨w.heap.size + 1, 1, none⟩) HS.out.2).trans Q1.out; refine wpOp_hidden rfl fun K hK => ?_; go_wp2; refine OnlyN.mk (hK.out _ _ (e_8 (e_8 (e_8 (e_2 ⟨rfl, rfl, { H with h3 := fun _ => rfl }⟩)))))
  ·obtain rfl := H.h1 (by simp [hi]); obtain rfl := H.h3 (by simp [hi]); refine wpOp_hidden rfl fun K hK => ?_; go_wp2_with fail; refine (C1.out _).mono ?_; rintro e w9 ⟨rfl, hw9⟩; have hw8 := hw9.symm; clear hw9; subst hw8; go_wp2; refine OnlyN.mk (hK.out _ _ (e_8 (e_8 (e_8 (e_2 ⟨rfl, rfl, { H with h4 := fun _ => rfl }⟩)))))
  ·refine wpOp_hidden rfl fun K hK => ?_; go_wp2; refine OnlyN.mk (hK.out _ _ (e_8 (e_8 (e_8 (e_2 ⟨rfl, rfl, { H with h5 := fun _ => rfl }⟩)))))
  ·obtain rfl := H.h5 (by simp [hi]); have cc : w'.cell? ⟨w.heap.size, 0, none⟩ = _ := (H.below.cell (p := ⟨w.heap.size, 0, none⟩) HS.out.1).trans P0.out; refine wpOp_hidden rfl fun K hK => ?_; go_wp2; refine OnlyN.mk (hK.out _ _ (e_8 (e_8 (e_8 (e_2 ⟨rfl, rfl, { H with h6 := fun _ => rfl }⟩)))))
  ·refine wpOp_hidden rfl fun K hK => ?_; go_wp2; refine OnlyN.mk (hK.out _ _ (e_8 (e_8 (e_8 (e_2 ⟨rfl, rfl, { H with h7 := fun _ => rfl }⟩)))))
  ·obtain rfl := H.h7 (by simp [hi]); have cc : w'.cell? ⟨w.heap.size + 1, 0, none⟩ = _ := (H.below.cell (p := ⟨w.heap.size + 1, 0, none⟩) HS.out.2).trans Q0.out; refine wpOp_hidden rfl fun K hK => ?_; go_wp2; refine OnlyN.mk (hK.out _ _ (e_8 (e_8 (e_8 (e_2 ⟨rfl, rfl, { H with h8 := fun _ => rfl }⟩)))))
  ·obtain rfl := H.h6 (by simp [hi]); obtain rfl := H.h8 (by simp [hi]); refine wpOp_hidden rfl fun K hK => ?_; go_wp2_with fail; refine (C2.out _).mono ?_; rintro e w9 ⟨rfl, hw9⟩; have hw8 := hw9.symm; clear hw9; subst hw8; go_wp2; refine OnlyN.mk (hK.out _ _ (e_8 (e_8 (e_8 (e_2 ⟨rfl, rfl, { H with h9 := fun _ => rfl }⟩)))))
  ·obtain rfl := H.h4 (by simp [hi]); obtain rfl := H.h9 (by simp [hi]); have HA := Lib.hid (H.world (below_new w' (.cells #[.int .i64 u, .int .i64 v] 3))); have HI := Lib.hid (ints_new w' [u, v] (by simp) (by simp)); have HH := Lib.hid H; clear H; refine wpOp_hidden rfl fun K hK => ?_; go_wp2; refine OnlyN.mk (hK.out _ _ (e_8 (e_8 (e_8 (e_2 ⟨rfl, rfl, ⟨HA.out.below, HA.out.h0, HA.out.h1, HA.out.h2, HA.out.h3, HA.out.h4, HA.out.h5, HA.out.h6, HA.out.h7, HA.out.h8, HA.out.h9, fun _ => ⟨w'.heap.size, rfl, HI.out⟩, HA.out.h11, HA.out.h12⟩⟩)))))
  ·obtain ⟨g, rfl, hg⟩ := H.h10 (by simp [hi]); have HO := Lib.hid (cmpOr_any (some ⟨g, 0, none⟩) 2 [u, v] w' hg); rw [HR.out] at HO; clear hg; refine wpOp_hidden rfl fun K hK => ?_; go_wp2_with fail; refine HO.out.mono ?_; rintro e w9 ⟨rfl, hw9⟩; have hw8 := hw9.symm; clear hw9; subst hw8; go_wp2; refine OnlyN.mk (hK.out _ _ (e_8 (e_8 (e_8 (e_2 ⟨rfl, rfl, { H with h11 := fun _ => rfl }⟩)))))
  ·obtain rfl := H.h11 (by simp [hi]); refine wpOp_hidden rfl fun K hK => ?_; go_wp2; refine OnlyN.mk (hK.out _ _ (e_8 (e_8 (e_8 (e_2 ⟨rfl, rfl, { H with h12 := fun _ => rfl }⟩)))))
 ·rintro listed act w' hr ⟨b0, b1, b2, b3, b4, b5, b6, b7, b8, b9, b10, b11, b12, v5, v6, v7, v8, v9, v10, v11, v12, v13, v14, v15, v16, v4, rfl, rfl, H⟩; have hn := List.eq_nil_iff_forall_not_mem.1 hr; have r0 := hn 0; simp [mem_ready, Region.binds] at r0; subst r0; have r1 := hn 1; simp [mem_ready, Region.binds] at r1; subst r1; have r2 := hn 2; simp [mem_ready, Region.binds] at r2; subst r2; have r3 := hn 3; simp [mem_ready, Region.binds] at r3; subst r3; have r4 := hn 4; simp [mem_ready, Region.binds] at r4; subst r4; have r5 := hn 5; simp [mem_ready, Region.binds] at r5; subst r5; have r6 := hn 6; simp [mem_ready, Region.binds] at r6; subst r6; have r7 := hn 7; simp [mem_ready, Region.binds] at r7; subst r7; have r8 := hn 8; simp [mem_ready, Region.binds] at r8; subst r8; have r9 := hn 9; simp [mem_ready, Region.binds] at r9; subst r9; have r10 := hn 10; simp [mem_ready, Region.binds] at r10; subst r10; have r11 := hn 11; simp [mem_ready, Region.binds] at r11; subst r11; have r12 := hn 12; simp [mem_ready, Region.binds] at r12; subst r12; obtain rfl := H.h12 rfl; go_wp2_with fail; go_ret; exact ⟨ret_int HR2.out, HB.out.trans (H.below.mono HB.out.size)⟩


def rngB (p : Int × Int) : Bool := decide (-2 ≤ p.1) && decide (p.1 ≤ 2) && decide (-2 ≤ p.2) && decide (p.2 ≤ 2)
def okH (q : Option (Int × Int)) (p : Int × Int) : Bool := rngB p && (match q with | none => true | some a => decide (ordP a.1 a.2 p.1 p.2 < 0))
def chainH : Option (Int × Int) → List (Int × Int) → Bool
 | _, [] => true
 | q, p :: l => okH q p && chainH (some p) l
def hoodB (ps : List (Int × Int)) : Bool := decide (1 ≤ ps.length) && decide (ps.length ≤ 25) && chainH none ps
def prevH (ps : List (Int × Int)) : Nat → Option (Int × Int)
 | 0 => none
 | k + 1 => ps[k]?
theorem chainH_yes {ps : List (Int × Int)} {k : Nat} (h : k < ps.length) (hd : okH (prevH ps k) ps[k] = true) : chainH (prevH ps k) (ps.drop k) = chainH (prevH ps (k + 1)) (ps.drop (k + 1)) := by
 rw [List.drop_eq_getElem_cons h]; show (okH (prevH ps k) ps[k] && chainH (some ps[k]) (ps.drop (k + 1))) = chainH ps[k]? (ps.drop (k + 1)); rw [hd, List.getElem?_eq_getElem h, Bool.true_and]
theorem chainH_no {ps : List (Int × Int)} {k : Nat} (h : k < ps.length) (hd : okH (prevH ps k) ps[k] = false) : chainH (prevH ps k) (ps.drop k) = false := by
 rw [List.drop_eq_getElem_cons h]; show (okH (prevH ps k) ps[k] && chainH (some ps[k]) (ps.drop (k + 1))) = false; rw [hd, Bool.false_and]
set_option maxHeartbeats 16000000 in
theorem hood_any (A : Option Addr) (c : Nat) (ps : List (Int × Int)) (w : World) (ha : Pts w A ps) :
  Calls Tryd.prog 45 #[.slice A ps.length c] w fun e w' => e = .returned (.bool (hoodB ps)) ∧ Below w.heap.size w w' := by
 have hn := ha.le; by_cases h1 : ps.length < 1
 ·have d1 : decide ((ps.length : Int) < 1) = true := decide_eq_true (by omega); have HE : Hid (hoodB ps = false) := Lib.hid (by unfold hoodB; rw [decide_eq_false (by omega : ¬ 1 ≤ ps.length)]; rfl); clear h1; go_enter Tryd.func45, Tryd.ntmps45; go_wp2; go_ret; exact ⟨ret_bool (by rw [HE.out] <;> rfl), Below.refl _ _⟩
 have d1 : decide ((ps.length : Int) < 1) = false := decide_eq_false (by omega); by_cases h2 : 25 < ps.length
 ·have d2 : decide ((25 : Int) < (ps.length : Int)) = true := decide_eq_true (by omega); have HE : Hid (hoodB ps = false) := Lib.hid (by unfold hoodB; rw [decide_eq_false (by omega : ¬ ps.length ≤ 25), Bool.and_false]; rfl); clear h1 h2; go_enter Tryd.func45, Tryd.ntmps45; go_wp2; go_ret; exact ⟨ret_bool (by rw [HE.out] <;> rfl), Below.refl _ _⟩
 have d2 : decide ((25 : Int) < (ps.length : Int)) = false := decide_eq_false (by omega); have HL := Lib.hid (show 1 ≤ ps.length ∧ ps.length ≤ 25 by omega); have HE : Hid (hoodB ps = chainH none ps) := Lib.hid (by unfold hoodB; rw [decide_eq_true HL.out.1, decide_eq_true HL.out.2]; rfl); have HA := Lib.hid ha; clear h1 h2 ha; go_enter Tryd.func45, Tryd.ntmps45; go_wp2; go_loopw [15] (fun i wr => ∃ k : Nat, k ≤ ps.length ∧ i = .int .i64 k ∧ Hid (Below w.heap.size w wr) ∧ Hid (chainH none ps = chainH (prevH ps k) (ps.drop k))) (fun i _ => ps.length - (intOf i).toNat)
 case atStart => exact ⟨0, Nat.zero_le _, rfl, Lib.hid (Below.refl _ _), Lib.hid rfl⟩
 case round =>
  obtain ⟨k, hk, rfl, HB, HT⟩ := hrel; by_cases hlt : k < ps.length
  ·obtain ⟨b1, o1, e1, hb1, hc0, hc1⟩ := (HA.out.ext HB.out).at_ hlt; have hpre : 0 < k → wr.cell? ⟨b1, o1 + (k - 1) * 2, none⟩ = some (.int .i64 (ps[k - 1]'(by omega)).1) ∧ wr.cell? ⟨b1, o1 + (k - 1) * 2 + 1, none⟩ = some (.int .i64 (ps[k - 1]'(by omega)).2) := fun h => by
    obtain ⟨b1', o1', e1', -, h0, h1⟩ := (HA.out.ext HB.out).at_ (k := k - 1) (by omega); rw [e1] at e1'; injection e1' with e1'
    injection e1' with e2 e3
    subst e2 e3; exact ⟨h0, h1⟩
   obtain ⟨cx, hcx⟩ : ∃ cx, cx = ps[k] := ⟨_, rfl⟩
   rw [← hcx] at hc0 hc1; have HCX := Lib.hid hcx; have HPRE := Lib.hid hpre; have HLT := Lib.hid hlt; obtain ⟨x, y⟩ := cx; dsimp only at hc0 hc1; have hw1 : wrap64 ((k : Int) + 1) = (k : Int) + 1 := by have := HL.out; unfold wrap64; omega
   obtain ⟨wb, hwb⟩ : ∃ wb, wb = wr.alloc (.cells #[.int .i64 x, .int .i64 y] 67) := ⟨_, rfl⟩
   have hnb := below_new wr (.cells #[.int .i64 x, .int .i64 y] 67); have p0 := Blk.new wr 67 #[.int .i64 x, .int .i64 y]; rw [← hwb] at hnb p0; have P0 := cell_regrown (p0.cell_ 0 (.int .i64 x) rfl); have P1 := cell_regrown (p0.cell_ 1 (.int .i64 y) rfl); have HB2 := Lib.hid (HB.out.trans (hnb.mono HB.out.size)); have HW := Lib.hid hwb; have HNB := Lib.hid hnb; clear hcx hpre p0 hnb hwb hk; by_cases a1 : x < -2
   ·have e1d : decide (x < -2) = true := decide_eq_true a1; have HF : Hid (chainH none ps = false) := Lib.hid (by rw [HT.out]; exact chainH_no HLT.out (by rw [← HCX.out]; unfold okH rngB; dsimp only; rw [decide_eq_false (by omega : ¬ -2 ≤ x)] <;> rfl)); subst e1; go_upto_region 6 with fail
    rw [← HW.out]; refine wp_region_quiet_below (by kernel_rfl) (by kernel_rfl) ?_; repeat (go_big_quiet_step (fail))
    refine wpQuiet_nil ?_; intro _ hw'; obtain ⟨⟨dq, osq⟩, hw''⟩ := hw'; subst hw''; go_wp2; go_ret; exact ⟨ret_bool (by rw [HE.out, HF.out] <;> rfl), HB2.out.trans ((below_regrown wb dq osq).mono HB2.out.size)⟩
   have f1 : decide (x < -2) = false := decide_eq_false a1; by_cases a2 : 2 < x
   ·have e2d : decide (2 < x) = true := decide_eq_true a2; have HF : Hid (chainH none ps = false) := Lib.hid (by rw [HT.out]; exact chainH_no HLT.out (by rw [← HCX.out]; unfold okH rngB; dsimp only; rw [decide_eq_false (by omega : ¬ x ≤ 2)]; simp)); subst e1; go_upto_region 6 with fail
    rw [← HW.out]; refine wp_region_quiet_below (by kernel_rfl) (by kernel_rfl) ?_; repeat (go_big_quiet_step (fail))
    refine wpQuiet_nil ?_; intro _ hw'; obtain ⟨⟨dq, osq⟩, hw''⟩ := hw'; subst hw''; go_wp2; go_ret; exact ⟨ret_bool (by rw [HE.out, HF.out] <;> rfl), HB2.out.trans ((below_regrown wb dq osq).mono HB2.out.size)⟩
   have f2 : decide (2 < x) = false := decide_eq_false a2; by_cases a3 : y < -2
   ·have e3d : decide (y < -2) = true := decide_eq_true a3; have HF : Hid (chainH none ps = false) := Lib.hid (by rw [HT.out]; exact chainH_no HLT.out (by rw [← HCX.out]; unfold okH rngB; dsimp only; rw [decide_eq_false (by omega : ¬ -2 ≤ y)]; simp)); subst e1; go_upto_region 6 with fail
    rw [← HW.out]; refine wp_region_quiet_below (by kernel_rfl) (by kernel_rfl) ?_; repeat (go_big_quiet_step (fail))
    refine wpQuiet_nil ?_; intro _ hw'; obtain ⟨⟨dq, osq⟩, hw''⟩ := hw'; subst hw''; go_wp2; go_ret; exact ⟨ret_bool (by rw [HE.out, HF.out] <;> rfl), HB2.out.trans ((below_regrown wb dq osq).mono HB2.out.size)⟩
   have f3 : decide (y < -2) = false := decide_eq_false a3; by_cases a4 : 2 < y
   ·have e4d : decide (2 < y) = true := decide_eq_true a4; have HF : Hid (chainH none ps = false) := Lib.hid (by rw [HT.out]; exact chainH_no HLT.out (by rw [← HCX.out]; unfold okH rngB; dsimp only; rw [decide_eq_false (by omega : ¬ y ≤ 2)]; simp)); subst e1; go_upto_region 6 with fail
    rw [← HW.out]; refine wp_region_quiet_below (by kernel_rfl) (by kernel_rfl) ?_; repeat (go_big_quiet_step (fail))
    refine wpQuiet_nil ?_; intro _ hw'; obtain ⟨⟨dq, osq⟩, hw''⟩ := hw'; subst hw''; go_wp2; go_ret; exact ⟨ret_bool (by rw [HE.out, HF.out] <;> rfl), HB2.out.trans ((below_regrown wb dq osq).mono HB2.out.size)⟩
   have f4 : decide (2 < y) = false := decide_eq_false a4; have HR : Hid (rngB (x, y) = true) := Lib.hid (by unfold rngB; dsimp only; rw [decide_eq_true (by omega : -2 ≤ x), decide_eq_true (by omega : x ≤ 2), decide_eq_true (by omega : -2 ≤ y), decide_eq_true (by omega : y ≤ 2)]; rfl); by_cases hk0 : 0 < k
   ·obtain ⟨k1, rfl⟩ : ∃ k1, k = k1 + 1 := ⟨k - 1, by omega⟩
    obtain ⟨q0, q1⟩ := HPRE.out hk0; simp only [Nat.add_sub_cancel] at q0 q1; have hw1' : wrap64 ((k1 : Int) + 1 + 1) = (k1 : Int) + 1 + 1 := by have := HL.out; unfold wrap64; omega
    have hwk : wrap64 ((k1 : Int) + 1 - 1) = k1 := by have := HL.out; unfold wrap64; omega
    have hwk2 : wrap64 (k1 : Int) = k1 := by have := HL.out; unfold wrap64; omega
    have hprev : prevH ps (k1 + 1) = some (ps[k1]'(by omega)) := List.getElem?_eq_getElem (by omega); obtain ⟨qx, hqx⟩ : ∃ qx, qx = ps[k1]'(by omega) := ⟨_, rfl⟩
    rw [← hqx] at q0 q1 hprev; obtain ⟨x', y'⟩ := qx; dsimp only at q0 q1; have hk1l : k1 < ps.length := by omega
    have HPV := Lib.hid hprev; have Q0 := cell_regrown (w := wb) (v := .int .i64 x') (a := ⟨b1, o1 + k1 * 2, none⟩) ((HNB.out.cell hb1).trans q0); have Q1 := cell_regrown (w := wb) (v := .int .i64 y') (a := ⟨b1, o1 + k1 * 2 + 1, none⟩) ((HNB.out.cell hb1).trans q1); have cC := fun d os => Calls.regrown_of (w := wb) (d := d) (os := os) (compare_any x' y' x y _); unfold ptV at cC; have CC := Lib.hid cC; clear cC q0 q1 hprev hqx hk0 a1 a2 a3 a4; by_cases hcm : ordP x' y' x y < 0
    ·have g2 : decide ((0 : Int) ≤ ordP x' y' x y) = false := decide_eq_false (by omega); have HOK : Hid (chainH (prevH ps (k1 + 1)) (ps.drop (k1 + 1)) = chainH (prevH ps (k1 + 1 + 1)) (ps.drop (k1 + 1 + 1))) := Lib.hid (chainH_yes HLT.out (by rw [HPV.out, ← HCX.out]; unfold okH; rw [HR.out]; simpa using hcm)); obtain ⟨od, hod⟩ : ∃ od, od = ordP x' y' x y := ⟨_, rfl⟩
     rw [← hod] at CC g2; clear hcm hod; subst e1; go_upto_region 6 with fail
     rw [← HW.out]; refine wp_region_quiet_below (by kernel_rfl) (by kernel_rfl) ?_; repeat (go_big_quiet_step (with_reducible exact CC.out _ _))
     refine wpQuiet_nil ?_; intro _ hw'; obtain ⟨⟨dq, osq⟩, hw''⟩ := hw'; subst hw''; go_wp2; go_roundw
     case rel => exact ⟨k1 + 1 + 1, HLT.out, rfl, Lib.hid (HB2.out.trans ((below_regrown wb dq osq).mono HB2.out.size)), Lib.hid (HT.out.trans HOK.out)⟩
     case measure => have := HLT.out; simp [intOf]; omega
    ·have g2 : decide ((0 : Int) ≤ ordP x' y' x y) = true := decide_eq_true (by omega); have HF : Hid (chainH none ps = false) := Lib.hid (by rw [HT.out]; exact chainH_no HLT.out (by rw [HPV.out, ← HCX.out]; unfold okH; rw [HR.out]; simpa using hcm)); obtain ⟨od, hod⟩ : ∃ od, od = ordP x' y' x y := ⟨_, rfl⟩
     rw [← hod] at CC g2; clear hcm hod; subst e1; go_upto_region 6 with fail
     rw [← HW.out]; refine wp_region_quiet_below (by kernel_rfl) (by kernel_rfl) ?_; repeat (go_big_quiet_step (with_reducible exact CC.out _ _))
     refine wpQuiet_nil ?_; intro _ hw'; obtain ⟨⟨dq, osq⟩, hw''⟩ := hw'; subst hw''; go_wp2; go_ret; exact ⟨ret_bool (by rw [HE.out, HF.out] <;> rfl), HB2.out.trans ((below_regrown wb dq osq).mono HB2.out.size)⟩
   ·obtain rfl : k = 0 := by omega
    have HOK : Hid (chainH (prevH ps 0) (ps.drop 0) = chainH (prevH ps (0 + 1)) (ps.drop (0 + 1))) := Lib.hid (chainH_yes HLT.out (by rw [← HCX.out]; unfold okH; rw [HR.out]; rfl)); simp only [Nat.zero_mul, Nat.add_zero] at hc0 hc1; clear a1 a2 a3 a4 hk0; subst e1; go_upto_region 6 with fail
    rw [← HW.out]; refine wp_region_quiet_below (by kernel_rfl) (by kernel_rfl) ?_; repeat (go_big_quiet_step (fail))
    refine wpQuiet_nil ?_; intro _ hw'; obtain ⟨⟨dq, osq⟩, hw''⟩ := hw'; subst hw''; go_wp2; go_roundw
    case rel => exact ⟨0 + 1, HLT.out, rfl, Lib.hid (HB2.out.trans ((below_regrown wb dq osq).mono HB2.out.size)), Lib.hid (HT.out.trans HOK.out)⟩
    case measure => have := HLT.out; simp [intOf]; omega
  ·have HF : Hid (chainH none ps = true) := Lib.hid (by
    have h := HT.out; rw [List.drop_of_length_le (by omega)] at h; exact h)
   go_wp2; go_ret; exact ⟨ret_bool (by rw [HE.out, HF.out] <;> rfl), HB.out⟩
end Go.Proofs.YtlegfdllipkggaaDoor
