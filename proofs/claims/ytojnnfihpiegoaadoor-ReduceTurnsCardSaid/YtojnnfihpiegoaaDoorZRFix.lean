/-
  cellularref13.Map, cellularref13.Fix. No condition but that numbers are those of Go.
-/
import Derived.BigRegion
import Derived.Test.YtojnnfihpiegoaaDoorZCj
import Derived.Deep.DeepCutAuto
import Derived.Deep.DeepFit
import Derived.Deep.CutBlock
namespace Go.Proofs.YtojnnfihpiegoaaDoor
open Go.RowKit
set_option maxRecDepth 100000
set_option linter.unusedVariables false
set_option linter.unusedSimpArgs false

structure FxJ (V : World) (W0 : World) (gX : Nat) (lv : Int) (acc : List Int) (xv : Value) (z : Int) (Pt : Nat) (nb : Nat) (no : Nat) (n : Nat) (d : Nat) (i : Nat) (bz : Nat) (oz : Nat) (zl : Nat) (zc : Nat) (j : Nat) (b0 b1 b2 b3 b4 b5 b6 b7 b8 b9 b10 b11 b12 b13 b14 : Bool) (v63 v64 v65 v66 v67 v68 v69 v70 v71 v72 v73 v74 v75 v76 : Value) (w : World) : Prop where
 h0 : b0 = true → v63 = .pointer (some ⟨gX, 1, none⟩)
 h1 : b1 = true → v64 = xv
 h2 : b2 = true → v65 = .pointer (some ⟨Pt, 2, none⟩)
 h3 : b3 = true → v66 = .slice (some ⟨nb, no, none⟩) n d
 h4 : b4 = true → v67 = .int .i64 i
 h5 : b5 = true → v68 = .pointer (some ⟨nb, no + i * 2, none⟩)
 h6 : b6 = true → v69 = .pointer (some ⟨nb, no + i * 2 + 1, none⟩)
 h7 : b7 = true → v70 = .slice (some ⟨bz, oz, none⟩) zl zc
 h8 : b8 = true → v71 = .int .i64 j
 h9 : b9 = true → v72 = .pointer (some ⟨bz, oz + j, none⟩)
 h10 : b10 = true → v73 = .int .i64 z
 h13 : b13 = true → v76 = .pointer (some ⟨gX, 1, none⟩)
 hk : b12 = false → ∀ p : Addr, p.block < V.heap.size → w.cell? p = V.cell? p
 wa : b11 = false → w = V.drew
 wb : b11 = true → b12 = false → v74 = .slice (some ⟨V.heap.size, 0, none⟩) 1 1 ∧ w = V.drew.alloc (.cells #[.int .i64 z] 3)
 wc : b12 = true → b14 = false → ∃ X c, v75 = .slice X (acc.length + 1) c ∧ OwnIA w W0.heap.size (.slice X (acc.length + 1) c) (acc ++ [z]) ∧ Kept (fun g => xv.ownBlock = some g) V w
 wd : b14 = true → ∃ xv2, NxL gX W0 lv (acc ++ [z]) xv2 w
 ord2 : b14 = true → b12 = true ∧ b13 = true
 o1 : b1 = true → b0 = true
 o3 : b3 = true → b2 = true
 o5 : b5 = true → b3 = true ∧ b4 = true
 o6 : b6 = true → b5 = true
 o7 : b7 = true → b6 = true
 o9 : b9 = true → b7 = true ∧ b8 = true
 o10 : b10 = true → b9 = true
 o11 : b11 = true → b10 = true
 o12 : b12 = true → b1 = true ∧ b11 = true
structure FxK (V : World) (W0 : World) (gX : Nat) (lv : Int) (acc : List Int) (xv : Value) (z : Int) (Pt : Nat) (nb : Nat) (no : Nat) (n : Nat) (d : Nat) (i : Nat) (bz : Nat) (oz : Nat) (zl : Nat) (zc : Nat) (j : Nat) (b0 b1 b2 b3 b4 b5 b6 b7 b8 b9 b10 b11 b12 b13 b14 : Bool) (v77 v78 v79 v80 v81 v82 v83 v84 v85 v86 v87 v88 v89 v90 : Value) (w : World) : Prop where
 h0 : b0 = true → v77 = .pointer (some ⟨gX, 1, none⟩)
 h1 : b1 = true → v78 = xv
 h2 : b2 = true → v79 = .pointer (some ⟨Pt, 2, none⟩)
 h3 : b3 = true → v80 = .slice (some ⟨nb, no, none⟩) n d
 h4 : b4 = true → v81 = .int .i64 i
 h5 : b5 = true → v82 = .pointer (some ⟨nb, no + i * 2, none⟩)
 h6 : b6 = true → v83 = .pointer (some ⟨nb, no + i * 2 + 1, none⟩)
 h7 : b7 = true → v84 = .slice (some ⟨bz, oz, none⟩) zl zc
 h8 : b8 = true → v85 = .int .i64 j
 h9 : b9 = true → v86 = .pointer (some ⟨bz, oz + j, none⟩)
 h10 : b10 = true → v87 = .int .i64 z
 h13 : b13 = true → v90 = .pointer (some ⟨gX, 1, none⟩)
 hk : b12 = false → ∀ p : Addr, p.block < V.heap.size → w.cell? p = V.cell? p
 wa : b11 = false → w = V.drew
 wb : b11 = true → b12 = false → v88 = .slice (some ⟨V.heap.size, 0, none⟩) 1 1 ∧ w = V.drew.alloc (.cells #[.int .i64 z] 3)
 wc : b12 = true → b14 = false → ∃ X c, v89 = .slice X (acc.length + 1) c ∧ OwnIA w W0.heap.size (.slice X (acc.length + 1) c) (acc ++ [z]) ∧ Kept (fun g => xv.ownBlock = some g) V w
 wd : b14 = true → ∃ xv2, NxL gX W0 lv (acc ++ [z]) xv2 w
 ord2 : b14 = true → b12 = true ∧ b13 = true
 o1 : b1 = true → b0 = true
 o3 : b3 = true → b2 = true
 o5 : b5 = true → b3 = true ∧ b4 = true
 o6 : b6 = true → b5 = true
 o7 : b7 = true → b6 = true
 o9 : b9 = true → b7 = true ∧ b8 = true
 o10 : b10 = true → b9 = true
 o11 : b11 = true → b10 = true
 o12 : b12 = true → b1 = true ∧ b11 = true

set_option maxHeartbeats 32000000 in
theorem rfix_any (st : Int) (A : Option Addr) (c : Nat) (ps : List (Int × Int)) (B : Option Addr) (d : Nat) (hs : List Hd) (k s : Int) (w : World) (hp : Pts w A ps) (hN : Nds w B hs) :
  Calls Tryd.prog 21 #[.agg #[.int .i64 st, .slice A ps.length c, .slice B hs.length d], .int .i64 k, .int .i64 s] w (RetTEO A (fixT ⟨st, ps, hs.map Hd.nd⟩ k s) w) := by
 obtain ⟨w0, hw0⟩ : ∃ w0, w0 = (w.alloc (.cells #[.int .i64 st, .slice A ps.length c, .slice B hs.length d] 25)).alloc (.cells #[.int .i64 0, .slice none 0 0, .slice none 0 0] 25) := ⟨_, rfl⟩
 have hb1 := below_new w (.cells #[.int .i64 st, .slice A ps.length c, .slice B hs.length d] 25)
 have hb0 : Below w.heap.size w w0 := by rw [hw0]; exact hb1.alloc hb1.size _
 have p0 : Blk w0 w.heap.size 25 #[.int .i64 st, .slice A ps.length c, .slice B hs.length d] := by rw [hw0]; exact (Blk.new w _ _).alloc _
 have q0 : Blk w0 (w.heap.size + 1) 25 #[.int .i64 0, .slice none 0 0, .slice none 0 0] := by
  rw [hw0]
  have := Blk.new (w.alloc (.cells #[.int .i64 st, .slice A ps.length c, .slice B hs.length d] 25)) 25 #[.int .i64 0, .slice none 0 0, .slice none 0 0]
  simpa using this
 have HR := Lib.hid (rright_any st A c ps B d hs w0 (hp.ext hb0) (hN.ext hb0))
 have HPO := Lib.hid hp
 have HP := Lib.hid (hp.ext hb0)
 have HN := Lib.hid (hN.ext hb0)
 have HB0 := Lib.hid hb0
 have HP0 := Lib.hid p0
 have HQ0 := Lib.hid q0
 have HW0 := Lib.hid hw0
 have c0 := p0.cell_ 0 (.int .i64 st) rfl
 have c1 := p0.cell_ 1 (.slice A ps.length c) rfl
 have c2 := p0.cell_ 2 (.slice B hs.length d) rfl
 clear hb1 hb0 p0 q0 hw0 hp hN
 cases hr : rightN st ps (hs.map Hd.nd) with
 | false =>
  have HE : Hid (fixT ⟨st, ps, hs.map Hd.nd⟩ k s = (PT.zero, 11)) := Lib.hid (by unfold fixT PT.right; rw [hr]; rfl)
  rw [hr] at HR
  clear hr
  go_enter Tryd.func21, Tryd.ntmps21
  go_upto_region 1 with fail
  rw [← HW0.out]
  go_wp2_with (go_at_call 26; refine HR.out.mono ?_)
  rintro e w1 ⟨rfl, hb⟩
  have HBr := Lib.hid hb
  have HBw := Lib.hid (HB0.out.trans (hb.mono HB0.out.size))
  clear hb c0 c1 c2
  have q1 := HQ0.out.below HBr.out HQ0.out.lt
  have HQ1 := Lib.hid q1
  have d0 := q1.cell_ 0 (.int .i64 0) rfl
  have d1x := q1.cell_ 1 (.slice none 0 0) rfl
  have d2 := q1.cell_ 2 (.slice none 0 0) rfl
  have f0 := q1.frozen 0
  have f1 := q1.frozen 1
  have f2 := q1.frozen 2
  clear q1
  go_wp2
  have hq : Blk (((w1.setCell ⟨w.heap.size + 1, 0, none⟩ (.int .i64 0)).setCell ⟨w.heap.size + 1, 1, none⟩ (.slice none 0 0)).setCell ⟨w.heap.size + 1, 2, none⟩ (.slice none 0 0)) (w.heap.size + 1) 25 #[.int .i64 0, .slice none 0 0, .slice none 0 0] := ((HQ1.out.set_ 0 (.int .i64 0)).set_ 1 (.slice none 0 0)).set_ 2 (.slice none 0 0)
  rw [HE.out]
  exact bodyPost_ret (results_ct Tryd.results21 _ _ (w.heap.size + 1) 25 #[.int .i64 0, .slice none 0 0, .slice none 0 0] (0, 0) _ rfl hq Tryd.underlying25 rfl Tryd.sizeTree) rfl
   ⟨none, 0, _, [], rfl, .inr rfl, Pts.nil, OwnN.nil _ _ _ _, rfl, ((HBw.out.setCell (p := ⟨w.heap.size + 1, 0, none⟩) (by show w.heap.size ≤ w.heap.size + 1; omega) _).setCell (p := ⟨w.heap.size + 1, 1, none⟩) (by show w.heap.size ≤ w.heap.size + 1; omega) _).setCell (p := ⟨w.heap.size + 1, 2, none⟩) (by show w.heap.size ≤ w.heap.size + 1; omega) _⟩
 | true =>
  rw [hr] at HR
  have HRR := Lib.hid hr
  clear hr
  have HRP := Lib.hid (rightN_parts HRR.out)
  have HV := Lib.hid HRP.out.2.2.2.2.2.2.2.1
  have HHL : Hid (hs.length ≤ 4096) := Lib.hid (by have := HRP.out.2.2.2.2.1; rwa [List.length_map] at this)
  by_cases hk0 : k < 0
  ·have g0 : decide (k < 0) = true := decide_eq_true hk0
   have HE : Hid (fixT ⟨st, ps, hs.map Hd.nd⟩ k s = (PT.zero, 2)) := Lib.hid (by unfold fixT PT.right; rw [HRR.out, if_neg (by simp), g0, if_pos (by simp)])
   clear hk0
   go_enter Tryd.func21, Tryd.ntmps21
   go_upto_region 1 with fail
   rw [← HW0.out]
   go_wp2_with (go_at_call 26; refine HR.out.mono ?_)
   rintro e w1 ⟨rfl, hb⟩
   have HBr := Lib.hid hb
   have HBw := Lib.hid (HB0.out.trans (hb.mono HB0.out.size))
   clear hb c0 c1 c2
   have p1 := HP0.out.below HBr.out HP0.out.lt
   have e0 := p1.cell_ 0 (.int .i64 st) rfl
   have e1 := p1.cell_ 1 (.slice A ps.length c) rfl
   have e2 := p1.cell_ 2 (.slice B hs.length d) rfl
   clear p1
   have q1 := HQ0.out.below HBr.out HQ0.out.lt
   have HQ1 := Lib.hid q1
   have d0 := q1.cell_ 0 (.int .i64 0) rfl
   have d1x := q1.cell_ 1 (.slice none 0 0) rfl
   have d2 := q1.cell_ 2 (.slice none 0 0) rfl
   have f0 := q1.frozen 0
   have f1 := q1.frozen 1
   have f2 := q1.frozen 2
   clear q1
   go_wp2
   have hq : Blk (((w1.setCell ⟨w.heap.size + 1, 0, none⟩ (.int .i64 0)).setCell ⟨w.heap.size + 1, 1, none⟩ (.slice none 0 0)).setCell ⟨w.heap.size + 1, 2, none⟩ (.slice none 0 0)) (w.heap.size + 1) 25 #[.int .i64 0, .slice none 0 0, .slice none 0 0] := ((HQ1.out.set_ 0 (.int .i64 0)).set_ 1 (.slice none 0 0)).set_ 2 (.slice none 0 0)
   rw [HE.out]
   exact bodyPost_ret (results_ct Tryd.results21 _ _ (w.heap.size + 1) 25 #[.int .i64 0, .slice none 0 0, .slice none 0 0] (0, 0) _ rfl hq Tryd.underlying25 rfl Tryd.sizeTree) rfl
    ⟨none, 0, _, [], rfl, .inr rfl, Pts.nil, OwnN.nil _ _ _ _, rfl, ((HBw.out.setCell (p := ⟨w.heap.size + 1, 0, none⟩) (by show w.heap.size ≤ w.heap.size + 1; omega) _).setCell (p := ⟨w.heap.size + 1, 1, none⟩) (by show w.heap.size ≤ w.heap.size + 1; omega) _).setCell (p := ⟨w.heap.size + 1, 2, none⟩) (by show w.heap.size ≤ w.heap.size + 1; omega) _⟩
  ·have g0 : decide (k < 0) = false := decide_eq_false hk0
   by_cases hk1 : (ps.length : Int) ≤ k
   ·have g1 : decide ((ps.length : Int) ≤ k) = true := decide_eq_true hk1
    have HE : Hid (fixT ⟨st, ps, hs.map Hd.nd⟩ k s = (PT.zero, 2)) := Lib.hid (by unfold fixT PT.right; rw [HRR.out, if_neg (by simp), g0]; dsimp only; rw [g1, if_pos (by simp)])
    clear hk0 hk1
    go_enter Tryd.func21, Tryd.ntmps21
    go_upto_region 1 with fail
    rw [← HW0.out]
    go_wp2_with (go_at_call 26; refine HR.out.mono ?_)
    rintro e w1 ⟨rfl, hb⟩
    have HBr := Lib.hid hb
    have HBw := Lib.hid (HB0.out.trans (hb.mono HB0.out.size))
    clear hb c0 c1 c2
    have p1 := HP0.out.below HBr.out HP0.out.lt
    have e0 := p1.cell_ 0 (.int .i64 st) rfl
    have e1 := p1.cell_ 1 (.slice A ps.length c) rfl
    have e2 := p1.cell_ 2 (.slice B hs.length d) rfl
    clear p1
    have q1 := HQ0.out.below HBr.out HQ0.out.lt
    have HQ1 := Lib.hid q1
    have d0 := q1.cell_ 0 (.int .i64 0) rfl
    have d1x := q1.cell_ 1 (.slice none 0 0) rfl
    have d2 := q1.cell_ 2 (.slice none 0 0) rfl
    have f0 := q1.frozen 0
    have f1 := q1.frozen 1
    have f2 := q1.frozen 2
    clear q1
    go_wp2
    have hq : Blk (((w1.setCell ⟨w.heap.size + 1, 0, none⟩ (.int .i64 0)).setCell ⟨w.heap.size + 1, 1, none⟩ (.slice none 0 0)).setCell ⟨w.heap.size + 1, 2, none⟩ (.slice none 0 0)) (w.heap.size + 1) 25 #[.int .i64 0, .slice none 0 0, .slice none 0 0] := ((HQ1.out.set_ 0 (.int .i64 0)).set_ 1 (.slice none 0 0)).set_ 2 (.slice none 0 0)
    rw [HE.out]
    exact bodyPost_ret (results_ct Tryd.results21 _ _ (w.heap.size + 1) 25 #[.int .i64 0, .slice none 0 0, .slice none 0 0] (0, 0) _ rfl hq Tryd.underlying25 rfl Tryd.sizeTree) rfl
     ⟨none, 0, _, [], rfl, .inr rfl, Pts.nil, OwnN.nil _ _ _ _, rfl, ((HBw.out.setCell (p := ⟨w.heap.size + 1, 0, none⟩) (by show w.heap.size ≤ w.heap.size + 1; omega) _).setCell (p := ⟨w.heap.size + 1, 1, none⟩) (by show w.heap.size ≤ w.heap.size + 1; omega) _).setCell (p := ⟨w.heap.size + 1, 2, none⟩) (by show w.heap.size ≤ w.heap.size + 1; omega) _⟩
   ·have g1 : decide ((ps.length : Int) ≤ k) = false := decide_eq_false hk1
    by_cases hs0 : s < 0
    ·have g2 : decide (s < 0) = true := decide_eq_true hs0
     have HE : Hid (fixT ⟨st, ps, hs.map Hd.nd⟩ k s = (PT.zero, 10)) := Lib.hid (by unfold fixT PT.right badS; rw [HRR.out, if_neg (by simp), g0]; dsimp only; rw [g1, g2, if_neg (by simp), if_pos (by simp)])
     clear hk0 hk1 hs0
     go_enter Tryd.func21, Tryd.ntmps21
     go_upto_region 1 with fail
     rw [← HW0.out]
     go_wp2_with (go_at_call 26; refine HR.out.mono ?_)
     rintro e w1 ⟨rfl, hb⟩
     have HBr := Lib.hid hb
     have HBw := Lib.hid (HB0.out.trans (hb.mono HB0.out.size))
     clear hb c0 c1 c2
     have p1 := HP0.out.below HBr.out HP0.out.lt
     have e0 := p1.cell_ 0 (.int .i64 st) rfl
     have e1 := p1.cell_ 1 (.slice A ps.length c) rfl
     have e2 := p1.cell_ 2 (.slice B hs.length d) rfl
     clear p1
     have q1 := HQ0.out.below HBr.out HQ0.out.lt
     have HQ1 := Lib.hid q1
     have d0 := q1.cell_ 0 (.int .i64 0) rfl
     have d1x := q1.cell_ 1 (.slice none 0 0) rfl
     have d2 := q1.cell_ 2 (.slice none 0 0) rfl
     have f0 := q1.frozen 0
     have f1 := q1.frozen 1
     have f2 := q1.frozen 2
     clear q1
     go_wp2
     have hq : Blk (((w1.setCell ⟨w.heap.size + 1, 0, none⟩ (.int .i64 0)).setCell ⟨w.heap.size + 1, 1, none⟩ (.slice none 0 0)).setCell ⟨w.heap.size + 1, 2, none⟩ (.slice none 0 0)) (w.heap.size + 1) 25 #[.int .i64 0, .slice none 0 0, .slice none 0 0] := ((HQ1.out.set_ 0 (.int .i64 0)).set_ 1 (.slice none 0 0)).set_ 2 (.slice none 0 0)
     rw [HE.out]
     exact bodyPost_ret (results_ct Tryd.results21 _ _ (w.heap.size + 1) 25 #[.int .i64 0, .slice none 0 0, .slice none 0 0] (0, 0) _ rfl hq Tryd.underlying25 rfl Tryd.sizeTree) rfl
      ⟨none, 0, _, [], rfl, .inr rfl, Pts.nil, OwnN.nil _ _ _ _, rfl, ((HBw.out.setCell (p := ⟨w.heap.size + 1, 0, none⟩) (by show w.heap.size ≤ w.heap.size + 1; omega) _).setCell (p := ⟨w.heap.size + 1, 1, none⟩) (by show w.heap.size ≤ w.heap.size + 1; omega) _).setCell (p := ⟨w.heap.size + 1, 2, none⟩) (by show w.heap.size ≤ w.heap.size + 1; omega) _⟩
    ·have g2 : decide (s < 0) = false := decide_eq_false hs0
     by_cases hs1 : st ≤ s
     ·have g3 : decide (st ≤ s) = true := decide_eq_true hs1
      have HE : Hid (fixT ⟨st, ps, hs.map Hd.nd⟩ k s = (PT.zero, 10)) := Lib.hid (by unfold fixT PT.right badS; rw [HRR.out, if_neg (by simp), g0]; dsimp only; rw [g1, g2, g3, if_neg (by simp), if_pos (by simp)])
      clear hk0 hk1 hs0 hs1
      go_enter Tryd.func21, Tryd.ntmps21
      go_upto_region 1 with fail
      rw [← HW0.out]
      go_wp2_with (go_at_call 26; refine HR.out.mono ?_)
      rintro e w1 ⟨rfl, hb⟩
      have HBr := Lib.hid hb
      have HBw := Lib.hid (HB0.out.trans (hb.mono HB0.out.size))
      clear hb c0 c1 c2
      have p1 := HP0.out.below HBr.out HP0.out.lt
      have e0 := p1.cell_ 0 (.int .i64 st) rfl
      have e1 := p1.cell_ 1 (.slice A ps.length c) rfl
      have e2 := p1.cell_ 2 (.slice B hs.length d) rfl
      clear p1
      have q1 := HQ0.out.below HBr.out HQ0.out.lt
      have HQ1 := Lib.hid q1
      have d0 := q1.cell_ 0 (.int .i64 0) rfl
      have d1x := q1.cell_ 1 (.slice none 0 0) rfl
      have d2 := q1.cell_ 2 (.slice none 0 0) rfl
      have f0 := q1.frozen 0
      have f1 := q1.frozen 1
      have f2 := q1.frozen 2
      clear q1
      go_wp2
      have hq : Blk (((w1.setCell ⟨w.heap.size + 1, 0, none⟩ (.int .i64 0)).setCell ⟨w.heap.size + 1, 1, none⟩ (.slice none 0 0)).setCell ⟨w.heap.size + 1, 2, none⟩ (.slice none 0 0)) (w.heap.size + 1) 25 #[.int .i64 0, .slice none 0 0, .slice none 0 0] := ((HQ1.out.set_ 0 (.int .i64 0)).set_ 1 (.slice none 0 0)).set_ 2 (.slice none 0 0)
      rw [HE.out]
      exact bodyPost_ret (results_ct Tryd.results21 _ _ (w.heap.size + 1) 25 #[.int .i64 0, .slice none 0 0, .slice none 0 0] (0, 0) _ rfl hq Tryd.underlying25 rfl Tryd.sizeTree) rfl
       ⟨none, 0, _, [], rfl, .inr rfl, Pts.nil, OwnN.nil _ _ _ _, rfl, ((HBw.out.setCell (p := ⟨w.heap.size + 1, 0, none⟩) (by show w.heap.size ≤ w.heap.size + 1; omega) _).setCell (p := ⟨w.heap.size + 1, 1, none⟩) (by show w.heap.size ≤ w.heap.size + 1; omega) _).setCell (p := ⟨w.heap.size + 1, 2, none⟩) (by show w.heap.size ≤ w.heap.size + 1; omega) _⟩
     ·have g3 : decide (st ≤ s) = false := decide_eq_false hs1
      obtain ⟨kn, hkn⟩ : ∃ kn : Nat, k = kn := ⟨k.toNat, by omega⟩
      obtain ⟨sn, hsn⟩ : ∃ sn : Nat, s = sn := ⟨s.toNat, by omega⟩
      have HE : Hid (fixT ⟨st, ps, hs.map Hd.nd⟩ k s = (⟨st, ps, redN (chF ps.length kn sn) (hs.map Hd.nd)⟩, 0)) := Lib.hid (by
       unfold fixT PT.right badS
       rw [HRR.out, if_neg (by simp), g0]
       dsimp only
       rw [g1, g2, g3, if_neg (by simp), if_neg (by simp), hkn, hsn]
       rfl)
      rw [hkn, hsn] at HE
      subst hkn hsn
      have HSN : Hid ((sn : Int) < st) := Lib.hid (by omega)
      have HKN : Hid ((kn : Int) < ps.length) := Lib.hid (by omega)
      have HCH : Hid (Chg st.toNat (chF ps.length kn sn)) := Lib.hid (chF_chg (by have := HSN.out; have := HRP.out.1; omega))
      have hwq : wrap64 ((ps.length : Int) - kn) = (ps.length : Int) - kn := by have := HRP.out.2.2.2.2.2.2.1; have := HKN.out; unfold wrap64; omega
      have g5 : decide (ps.length ≤ kn) = false := decide_eq_false (by omega)
      clear hk0 hk1 hs0 hs1
      go_enter Tryd.func21, Tryd.ntmps21
      go_upto_region 1 with fail
      rw [← HW0.out]
      go_wp2_with (go_at_call 26; refine HR.out.mono ?_)
      rintro e w1 ⟨rfl, hb⟩
      have HBr := Lib.hid hb
      have HBw := Lib.hid (HB0.out.trans (hb.mono HB0.out.size))
      clear hb c0 c1 c2
      have p1 := HP0.out.below HBr.out HP0.out.lt
      have e0 := p1.cell_ 0 (.int .i64 st) rfl
      have e1 := p1.cell_ 1 (.slice A ps.length c) rfl
      have e2 := p1.cell_ 2 (.slice B hs.length d) rfl
      clear p1
      obtain ⟨WQ, hWQ⟩ : ∃ WQ : World, WQ = w1 := ⟨_, rfl⟩
      subst hWQ
      go_wp2
      clear e0 e1 e2
      go_loopw [8, 9] (fun lv i wr => ∃ (k : Nat) (osl : List Hd), k ≤ hs.length ∧ i = .int .i64 k ∧ Hid (OwnNA wr WQ.heap.size lv osl ∧ osl.map Hd.nd = (chgL (chF ps.length kn sn) (hs.map Hd.nd)).take k) ∧ Hid (Below WQ.heap.size WQ wr)) (fun _ i _ => hs.length - (intOf i).toNat)
      case atStart => exact ⟨0, [], Nat.zero_le _, rfl, Lib.hid ⟨OwnN.nil _ _ _ _, rfl⟩, Lib.hid (Below.refl _ _)⟩
      case round =>
       obtain ⟨i, osl, hi, rfl, HO, HBI⟩ := hrel
       have hr1 := HBr.out.trans (HBI.out.mono HBr.out.size)
       have HBi := Lib.hid hr1
       have p1 := HP0.out.below hr1 HP0.out.lt
       have e0 := p1.cell_ 0 (.int .i64 st) rfl
       have e1 := p1.cell_ 1 (.slice A ps.length c) rfl
       have e2 := p1.cell_ 2 (.slice B hs.length d) rfl
       have hwi : wrap64 ((i : Int) + 1) = (i : Int) + 1 := by have := HHL.out; unfold wrap64; omega
       have hol : osl.length = i := by
        have := congrArg List.length HO.out.2
        rw [List.length_map, List.length_take, chg_len, List.length_map] at this
        omega
       have HOL := Lib.hid hol
       clear p1 hr1 hol
       by_cases hil : i < hs.length
       ·have hndk := nd_at hs hil
        have hlq := HV.out.lev.len i (by rw [List.length_map]; exact hil)
        have hlow := HV.out.low i (by rw [List.length_map]; exact hil)
        obtain ⟨nb, no, eB, hnb, -⟩ : ∃ b o, B = some ⟨b, o, none⟩ ∧ b < w0.heap.size ∧ True := by
         obtain ⟨b, o, h1, h2, -⟩ := HN.out.at_ hil
         exact ⟨b, o, h1, h2, trivial⟩
        have hat : ∀ V, Below w0.heap.size w0 V → V.cell? ⟨nb, no + i * 2, none⟩ = some (.int .i64 hs[i].lv) ∧ V.cell? ⟨nb, no + i * 2 + 1, none⟩ = some (.slice hs[i].A hs[i].zs.length hs[i].c) ∧ Ints V hs[i].A hs[i].zs := fun V hV => by
         obtain ⟨b, o, h1, -, h2, h3, h4⟩ := (HN.out.ext hV).at_ hil
         rw [eB] at h1
         injection h1 with h1
         injection h1 with h5 h6
         subst h5 h6
         exact ⟨h2, h3, h4⟩
        have hzA : ∀ ad, hs[i].A = some ad → 0 < hs[i].zs.length → ad.block < w0.heap.size := fun ad e hl => by
         obtain ⟨b, o, h1, h2, -⟩ := (hat w0 (Below.refl _ _)).2.2.at_ hl
         rw [e] at h1
         injection h1 with h1
         subst h1
         exact h2
        obtain ⟨x, hx⟩ : ∃ x, x = hs[i] := ⟨_, rfl⟩
        rw [← hx] at hndk hat hzA
        obtain ⟨lv, zA, zc, zs⟩ := x
        dsimp only at hat hzA
        change ndAt (hs.map Hd.nd) i = (lv, zs) at hndk
        rw [hndk] at hlq hlow
        dsimp only at hlq hlow
        have HTK := Lib.hid (chg_take (ch := chF ps.length kn sn) (by rw [List.length_map]; exact hil) hndk)
        have hzst : st = (zs.length : Int) := by have := HRP.out.1; omega
        have HZST := Lib.hid hzst
        have hz8 : zs.length ≤ 8 := by have := HRP.out.2.1; omega
        have HAT := Lib.hid hat
        have HZA := Lib.hid hzA
        have HLOW := Lib.hid hlow
        have HND := Lib.hid hndk
        have HNB := Lib.hid hnb
        have HZ8 := Lib.hid hz8
        obtain ⟨g0, g1, -⟩ := hat wr HBi.out
        rw [hzst] at e0
        subst eB
        have HIL := Lib.hid hil
        clear hx hat hlq hlow hndk hnb hzst hzA
        go_wp2
        have HX0 := Lib.hid (NxL.new wr lv)
        obtain ⟨wx, hwx⟩ : ∃ wx, wx = wr.alloc (.cells #[.int .i64 lv, .slice none 0 0] 53) := ⟨_, rfl⟩
        obtain ⟨gX, hgX⟩ : ∃ gX, gX = wr.heap.size := ⟨_, rfl⟩
        rw [← hwx]
        rw [← hwx] at HX0
        obtain ⟨Wi, rfl⟩ : ∃ Wi, Wi = wr := ⟨_, rfl⟩
        rw [← hgX]
        have HX0 : Hid (NxL gX Wi lv [] (.slice none 0 0) wx) := Lib.hid (by rw [hgX]; exact HX0.out)
        have HBX : Hid (∀ V, Below Wi.heap.size Wi V → Below w0.heap.size w0 V) := Lib.hid (fun V hV => HBi.out.trans (hV.mono HBi.out.size))
        clear hwx hgX e0 e1 e2 g0 g1 hi
        go_loopw [11] (fun s wj => ∃ (m : Nat) (xv : Value), m ≤ zs.length ∧ s = .int .i64 m ∧ Hid (NxL gX Wi lv ((chF ps.length kn sn lv zs).take m) xv wj)) (fun s _ => zs.length - (intOf s).toNat)
        case atStart => exact ⟨0, _, Nat.zero_le _, rfl, HX0⟩
        case round =>
         clear HX0
         obtain ⟨m, xv, hm, rfl, HNX⟩ := hrel
         have hbj := HBX.out _ HNX.out.below
         have HBj := Lib.hid hbj
         have p1 := HP0.out.below hbj HP0.out.lt
         have e0 := p1.cell_ 0 (.int .i64 st) rfl
         rw [HZST.out] at e0
         have e1 := p1.cell_ 1 (.slice A ps.length c) rfl
         have e2 := p1.cell_ 2 (.slice (some ⟨nb, no, none⟩) hs.length d) rfl
         obtain ⟨g0, g1, gz⟩ := HAT.out wr hbj
         have hx0 := HNX.out.G.cell_ 0 (.int .i64 lv) rfl
         have hx1 := HNX.out.G.cell_ 1 xv rfl
         have hf1 := HNX.out.G.frozen 1
         have hwm : wrap64 ((m : Int) + 1) = (m : Int) + 1 := by have := HZ8.out; unfold wrap64; omega
         have hil := HIL.out
         clear p1 hbj
         by_cases hml : m < zs.length
         ·obtain ⟨bz, oz, ez, -, hcm⟩ := gz.at_ hml
          have HST := Lib.hid (chF_take (L := ps.length) (k := kn) (s := sn) (lv := lv) hml)
          have hsl : sn < zs.length := by have := HZST.out; have := HSN.out; omega
          have hcs : wr.cell? ⟨bz, oz + sn, none⟩ = some (.int .i64 (zs.getD sn 0)) := by
           obtain ⟨bz', oz', ez', -, h⟩ := gz.at_ hsl
           rw [ez] at ez'
           injection ez' with ez'
           injection ez' with e3 e4
           subst e3 e4
           rw [h, List.getD_eq_getElem?_getD, List.getElem?_eq_getElem hsl]
           rfl
          have hzlt : bz < wr.heap.size := by
           have h9 : bz < w0.heap.size := HZA.out _ ez (by omega)
           have := HBj.out.size
           omega
          obtain ⟨z1, hz1⟩ : ∃ z1, z1 = zs[m] := ⟨_, rfl⟩
          rw [← hz1] at hcm HST
          obtain ⟨z2, hz2⟩ : ∃ z2, z2 = zs.getD sn 0 := ⟨_, rfl⟩
          rw [← hz2] at hcs HST
          subst ez
          have HML := Lib.hid hml
          have hPlt := HP0.out.lt
          have hbjs := HBj.out.size
          obtain ⟨acc, hacc⟩ : ∃ acc, acc = (chF ps.length kn sn lv zs).take m := ⟨_, rfl⟩
          have HAL : Hid (acc.length < 1000000000000) := Lib.hid (by rw [hacc, List.length_take, chF_len]; omega)
          rw [← hacc] at HNX HST
          obtain ⟨xA, xc, hxv, -, -⟩ := HNX.out.R.ints
          subst hxv
          clear hacc
          have HGL : Hid (gX < wr.heap.size ∧ wr.cell? ⟨gX, 1, none⟩ = some (.slice xA acc.length xc)) := Lib.hid ⟨HNX.out.G.lt, hx1⟩
          have hnblt : nb < wr.heap.size := by have := HNB.out; omega
          by_cases hl1 : lv = (ps.length : Int) - kn
          ·have d1 : (lv == (ps.length : Int) - kn) = true := by simp [hl1]
           have hst := HST.out
           rw [if_pos hl1] at hst
           have HSN2 := Lib.hid hst
           have HJL := Lib.hid hsl
           have HLD : Hid ((w.heap.size < wr.heap.size ∧ wr.cell? ⟨w.heap.size, 2, none⟩ = some (.slice (some ⟨nb, no, none⟩) hs.length d)) ∧ (nb < wr.heap.size ∧ wr.cell? ⟨nb, no + i * 2 + 1, none⟩ = some (.slice (some ⟨bz, oz, none⟩) zs.length zc)) ∧ (bz < wr.heap.size ∧ wr.cell? ⟨bz, oz + sn, none⟩ = some (.int .i64 z2))) := Lib.hid ⟨⟨by omega, e2⟩, ⟨hnblt, g1⟩, hzlt, hcs⟩
           obtain ⟨z, hz⟩ : ∃ z, z = z2 := ⟨_, rfl⟩
           rw [← hz] at HLD HSN2
           clear hl1 hst hz1 hz2 hz hcm hcs hsl hbjs hPlt hzlt hnblt hm
           go_wp2
           clear e0 e1 e2 g0 g1 hx0 hx1 hf1 d1 hwq gz
           refine wp_region_J (by kernel_rfl) (fun listed act w' => ∃ b0 b1 b2 b3 b4 b5 b6 b7 b8 b9 b10 b11 b12 b13 b14 v63 v64 v65 v66 v67 v68 v69 v70 v71 v72 v73 v74 v75 v76, listed = #[b0, b1, b2, b3, b4, b5, b6, b7, b8, b9, b10, b11, b12, b13, b14] ∧ act = Act.mk #[.agg #[.int .i64 st, .slice A ps.length c, .slice (some ⟨nb, no, none⟩) hs.length d], .int .i64 kn, .int .i64 sn, .pointer (some ⟨w.heap.size, 0, none⟩), undef, undef, .pointer (some ⟨w.heap.size + 1, 0, none⟩), .int .i64 0, u8, .int .i64 i, .pointer (some ⟨gX, 0, none⟩), .int .i64 m, .agg #[.int .i64 st, .slice A ps.length c, .slice (some ⟨nb, no, none⟩) hs.length d], .bool true, .bool false, undef, .int .i64 kn, .bool false, .bool false, .int .i64 kn, .pointer (some ⟨w.heap.size, 1, none⟩), .slice A ps.length c, .int .i64 ps.length, .bool false, .bool false, undef, .int .i64 sn, .bool false, .bool false, .int .i64 sn, .pointer (some ⟨w.heap.size, 0, none⟩), .int .i64 st, .bool false, .bool false, undef, .int .i64 i, .pointer (some ⟨w.heap.size, 2, none⟩), .slice (some ⟨nb, no, none⟩) hs.length d, .int .i64 hs.length, .bool true, u40, u41, .pointer (some ⟨w.heap.size, 2, none⟩), .slice (some ⟨nb, no, none⟩) hs.length d, .int .i64 i, .pointer (some ⟨nb, no + i * 2, none⟩), .pointer (some ⟨nb, no + i * 2, none⟩), .int .i64 lv, .agg #[.int .i64 lv, .slice none 0 0], .int .i64 m, .pointer (some ⟨w.heap.size, 0, none⟩), .int .i64 zs.length, .bool true, u53, u54, .pointer (some ⟨gX, 0, none⟩), .int .i64 lv, .pointer (some ⟨w.heap.size, 1, none⟩), .slice A ps.length c, .int .i64 ps.length, .int .i64 kn, .int .i64 (wrap64 ((ps.length : Int) - kn)), .bool true, v63, v64, v65, v66, v67, v68, v69, v70, v71, v72, v73, v74, v75, v76, u77, u78, u79, u80, u81, u82, u83, u84, u85, u86, u87, u88, u89, u90, u91, u92, u93, u94, undef, undef, undef, undef, undef, undef, undef] [] ∧ FxJ wr Wi gX lv acc (.slice xA acc.length xc) z w.heap.size nb no hs.length d i bz oz zs.length zc sn b0 b1 b2 b3 b4 b5 b6 b7 b8 b9 b10 b11 b12 b13 b14 v63 v64 v65 v66 v67 v68 v69 v70 v71 v72 v73 v74 v75 v76 w') ?_ ?_ ?_
           ·exact ⟨_, _, _, _, _, _, _, _, _, _, _, _, _, _, _, _, _, _, _, _, _, _, _, _, _, _, _, _, _, rfl, rfl, ⟨(by simp), (by simp), (by simp), (by simp), (by simp), (by simp), (by simp), (by simp), (by simp), (by simp), (by simp), (by simp), (fun _ _ _ => rfl), (fun _ => rfl), (by simp), (by simp), (by simp), (by simp), (by simp), (by simp), (by simp), (by simp), (by simp), (by simp), (by simp), (by simp), (by simp)⟩⟩
           ·rintro i listed act w' hi ⟨b0, b1, b2, b3, b4, b5, b6, b7, b8, b9, b10, b11, b12, b13, b14, v63, v64, v65, v66, v67, v68, v69, v70, v71, v72, v73, v74, v75, v76, rfl, rfl, H⟩
            have hi16 : i < 15 := by
             obtain ⟨-, o, ho, -⟩ := mem_ready.1 hi
             exact (Array.getElem?_eq_some_iff.1 ho).1
            obtain rfl | rfl | rfl | rfl | rfl | rfl | rfl | rfl | rfl | rfl | rfl | rfl | rfl | rfl | rfl : i = 0 ∨ i = 1 ∨ i = 2 ∨ i = 3 ∨ i = 4 ∨ i = 5 ∨ i = 6 ∨ i = 7 ∨ i = 8 ∨ i = 9 ∨ i = 10 ∨ i = 11 ∨ i = 12 ∨ i = 13 ∨ i = 14 := by omega
            all_goals simp [mem_ready, Region.binds] at hi
            ·refine wpOp_hidden rfl fun K hK => ?_
             go_wp2
             refine OnlyN.mk (hK.out _ _ ⟨true, _, _, _, _, _, _, _, _, _, _, _, _, _, _, .pointer (some ⟨gX, 1, none⟩), _, _, _, _, _, _, _, _, _, _, _, _, _, rfl, rfl, ⟨fun _ => rfl, H.h1, H.h2, H.h3, H.h4, H.h5, H.h6, H.h7, H.h8, H.h9, H.h10, H.h13, H.hk, H.wa, H.wb, H.wc, H.wd, H.ord2, fun h => rfl, H.o3, H.o5, H.o6, H.o7, H.o9, H.o10, H.o11, H.o12⟩⟩)
            ·have bAf : b12 = false := by
              cases hb : b12 with
              | false => rfl
              | true => exact absurd (H.o12 hb).1 (by simp [hi])
             obtain rfl := H.h0 (by simp [hi])
             have cc := (H.hk bAf ⟨gX, 1, none⟩ HGL.out.1).trans HGL.out.2
             clear bAf
             refine wpOp_hidden rfl fun K hK => ?_
             go_wp2
             refine OnlyN.mk (hK.out _ _ ⟨_, true, _, _, _, _, _, _, _, _, _, _, _, _, _, _, (.slice xA acc.length xc), _, _, _, _, _, _, _, _, _, _, _, _, rfl, rfl, ⟨H.h0, fun _ => rfl, H.h2, H.h3, H.h4, H.h5, H.h6, H.h7, H.h8, H.h9, H.h10, H.h13, H.hk, H.wa, H.wb, H.wc, H.wd, H.ord2, fun _ => (by simp [hi]), H.o3, H.o5, H.o6, H.o7, H.o9, H.o10, H.o11, fun h => ⟨rfl, (H.o12 h).2⟩⟩⟩)
            ·refine wpOp_hidden rfl fun K hK => ?_
             go_wp2
             refine OnlyN.mk (hK.out _ _ ⟨_, _, true, _, _, _, _, _, _, _, _, _, _, _, _, _, _, .pointer (some ⟨w.heap.size, 2, none⟩), _, _, _, _, _, _, _, _, _, _, _, rfl, rfl, ⟨H.h0, H.h1, fun _ => rfl, H.h3, H.h4, H.h5, H.h6, H.h7, H.h8, H.h9, H.h10, H.h13, H.hk, H.wa, H.wb, H.wc, H.wd, H.ord2, H.o1, fun h => rfl, H.o5, H.o6, H.o7, H.o9, H.o10, H.o11, H.o12⟩⟩)
            ·have bAf : b12 = false := by
              cases hb : b12 with
              | false => rfl
              | true => exact absurd (H.o5 (H.o6 (H.o7 (H.o9 (H.o10 (H.o11 (H.o12 hb).2))).1))).1 (by simp [hi])
             obtain rfl := H.h2 (by simp [hi])
             have cc := (H.hk bAf ⟨w.heap.size, 2, none⟩ HLD.out.1.1).trans HLD.out.1.2
             clear bAf
             refine wpOp_hidden rfl fun K hK => ?_
             go_wp2
             refine OnlyN.mk (hK.out _ _ ⟨_, _, _, true, _, _, _, _, _, _, _, _, _, _, _, _, _, _, .slice (some ⟨nb, no, none⟩) hs.length d, _, _, _, _, _, _, _, _, _, _, rfl, rfl, ⟨H.h0, H.h1, H.h2, fun _ => rfl, H.h4, H.h5, H.h6, H.h7, H.h8, H.h9, H.h10, H.h13, H.hk, H.wa, H.wb, H.wc, H.wd, H.ord2, H.o1, fun _ => (by simp [hi]), fun h => ⟨rfl, (H.o5 h).2⟩, H.o6, H.o7, H.o9, H.o10, H.o11, H.o12⟩⟩)
            ·refine wpOp_hidden rfl fun K hK => ?_
             go_wp2
             refine OnlyN.mk (hK.out _ _ ⟨_, _, _, _, true, _, _, _, _, _, _, _, _, _, _, _, _, _, _, .int .i64 i, _, _, _, _, _, _, _, _, _, rfl, rfl, ⟨H.h0, H.h1, H.h2, H.h3, fun _ => rfl, H.h5, H.h6, H.h7, H.h8, H.h9, H.h10, H.h13, H.hk, H.wa, H.wb, H.wc, H.wd, H.ord2, H.o1, H.o3, fun h => ⟨(H.o5 h).1, rfl⟩, H.o6, H.o7, H.o9, H.o10, H.o11, H.o12⟩⟩)
            ·obtain rfl := H.h3 (by simp [hi])
             obtain rfl := H.h4 (by simp [hi])
             have hil := HIL.out
             refine wpOp_hidden rfl fun K hK => ?_
             go_wp2
             refine OnlyN.mk (hK.out _ _ ⟨_, _, _, _, _, true, _, _, _, _, _, _, _, _, _, _, _, _, _, _, .pointer (some ⟨nb, no + i * 2, none⟩), _, _, _, _, _, _, _, _, rfl, rfl, ⟨H.h0, H.h1, H.h2, H.h3, H.h4, fun _ => rfl, H.h6, H.h7, H.h8, H.h9, H.h10, H.h13, H.hk, H.wa, H.wb, H.wc, H.wd, H.ord2, H.o1, H.o3, fun _ => (by simp [hi]), fun h => rfl, H.o7, H.o9, H.o10, H.o11, H.o12⟩⟩)
            ·obtain rfl := H.h5 (by simp [hi])
             refine wpOp_hidden rfl fun K hK => ?_
             go_wp2
             refine OnlyN.mk (hK.out _ _ ⟨_, _, _, _, _, _, true, _, _, _, _, _, _, _, _, _, _, _, _, _, _, .pointer (some ⟨nb, no + i * 2 + 1, none⟩), _, _, _, _, _, _, _, rfl, rfl, ⟨H.h0, H.h1, H.h2, H.h3, H.h4, H.h5, fun _ => rfl, H.h7, H.h8, H.h9, H.h10, H.h13, H.hk, H.wa, H.wb, H.wc, H.wd, H.ord2, H.o1, H.o3, H.o5, fun _ => (by simp [hi]), fun h => rfl, H.o9, H.o10, H.o11, H.o12⟩⟩)
            ·have bAf : b12 = false := by
              cases hb : b12 with
              | false => rfl
              | true => exact absurd (H.o9 (H.o10 (H.o11 (H.o12 hb).2))).1 (by simp [hi])
             obtain rfl := H.h6 (by simp [hi])
             have cc := (H.hk bAf ⟨nb, no + i * 2 + 1, none⟩ HLD.out.2.1.1).trans HLD.out.2.1.2
             clear bAf
             refine wpOp_hidden rfl fun K hK => ?_
             go_wp2
             refine OnlyN.mk (hK.out _ _ ⟨_, _, _, _, _, _, _, true, _, _, _, _, _, _, _, _, _, _, _, _, _, _, .slice (some ⟨bz, oz, none⟩) zs.length zc, _, _, _, _, _, _, rfl, rfl, ⟨H.h0, H.h1, H.h2, H.h3, H.h4, H.h5, H.h6, fun _ => rfl, H.h8, H.h9, H.h10, H.h13, H.hk, H.wa, H.wb, H.wc, H.wd, H.ord2, H.o1, H.o3, H.o5, H.o6, fun _ => (by simp [hi]), fun h => ⟨rfl, (H.o9 h).2⟩, H.o10, H.o11, H.o12⟩⟩)
            ·refine wpOp_hidden rfl fun K hK => ?_
             go_wp2
             refine OnlyN.mk (hK.out _ _ ⟨_, _, _, _, _, _, _, _, true, _, _, _, _, _, _, _, _, _, _, _, _, _, _, .int .i64 sn, _, _, _, _, _, rfl, rfl, ⟨H.h0, H.h1, H.h2, H.h3, H.h4, H.h5, H.h6, H.h7, fun _ => rfl, H.h9, H.h10, H.h13, H.hk, H.wa, H.wb, H.wc, H.wd, H.ord2, H.o1, H.o3, H.o5, H.o6, H.o7, fun h => ⟨(H.o9 h).1, rfl⟩, H.o10, H.o11, H.o12⟩⟩)
            ·obtain rfl := H.h7 (by simp [hi])
             obtain rfl := H.h8 (by simp [hi])
             have hjl := HJL.out
             refine wpOp_hidden rfl fun K hK => ?_
             go_wp2
             refine OnlyN.mk (hK.out _ _ ⟨_, _, _, _, _, _, _, _, _, true, _, _, _, _, _, _, _, _, _, _, _, _, _, _, .pointer (some ⟨bz, oz + sn, none⟩), _, _, _, _, rfl, rfl, ⟨H.h0, H.h1, H.h2, H.h3, H.h4, H.h5, H.h6, H.h7, H.h8, fun _ => rfl, H.h10, H.h13, H.hk, H.wa, H.wb, H.wc, H.wd, H.ord2, H.o1, H.o3, H.o5, H.o6, H.o7, fun _ => (by simp [hi]), fun h => rfl, H.o11, H.o12⟩⟩)
            ·have bAf : b12 = false := by
              cases hb : b12 with
              | false => rfl
              | true => exact absurd (H.o11 (H.o12 hb).2) (by simp [hi])
             obtain rfl := H.h9 (by simp [hi])
             have cc := (H.hk bAf ⟨bz, oz + sn, none⟩ HLD.out.2.2.1).trans HLD.out.2.2.2
             clear bAf
             refine wpOp_hidden rfl fun K hK => ?_
             go_wp2
             refine OnlyN.mk (hK.out _ _ ⟨_, _, _, _, _, _, _, _, _, _, true, _, _, _, _, _, _, _, _, _, _, _, _, _, _, .int .i64 z, _, _, _, rfl, rfl, ⟨H.h0, H.h1, H.h2, H.h3, H.h4, H.h5, H.h6, H.h7, H.h8, H.h9, fun _ => rfl, H.h13, H.hk, H.wa, H.wb, H.wc, H.wd, H.ord2, H.o1, H.o3, H.o5, H.o6, H.o7, H.o9, fun _ => (by simp [hi]), fun h => rfl, H.o12⟩⟩)
            ·have bAf : b12 = false := by
              cases hb : b12 with
              | false => rfl
              | true => exact absurd (H.o12 hb).2 (by simp [hi])
             obtain rfl := H.h10 (by simp [hi])
             have hw := H.wa (by simp [hi])
             have hA := bAf
             subst hw
             clear bAf
             refine wpOp_hidden rfl fun K hK => ?_
             go_wp2
             refine OnlyN.mk (hK.out _ _ ⟨_, _, _, _, _, _, _, _, _, _, _, true, _, _, _, _, _, _, _, _, _, _, _, _, _, _, .slice (some ⟨wr.heap.size, 0, none⟩) 1 1, _, _, rfl, rfl, ⟨H.h0, H.h1, H.h2, H.h3, H.h4, H.h5, H.h6, H.h7, H.h8, H.h9, H.h10, H.h13, fun _ p hp => World.cell?_alloc_lt wr _ p hp, fun h => (by cases h), fun _ _ => ⟨rfl, rfl⟩, fun h => absurd h (by rw [hA]; decide), fun h => absurd (H.ord2 h).1 (by rw [hA]; decide), H.ord2, H.o1, H.o3, H.o5, H.o6, H.o7, H.o9, H.o10, fun _ => (by simp [hi]), fun h => ⟨(H.o12 h).1, rfl⟩⟩⟩)
            ·obtain rfl := H.h1 (by simp [hi])
             obtain ⟨hv, hw⟩ := H.wb (by simp [hi]) (by simp [hi])
             obtain ⟨Vd, hVd⟩ : ∃ Vd, Vd = World.drew wr := ⟨_, rfl⟩
             have hsz : wr.heap.size = Vd.heap.size := by rw [hVd]; rfl
             rw [← hVd] at hw
             rw [hsz] at hv
             subst hw
             subst hv
             have hown : OwnIA Vd Wi.heap.size (.slice xA acc.length xc) acc := by rw [hVd]; exact HNX.out.R
             have hal := HAL.out
             have hws : Wi.heap.size ≤ Vd.heap.size := by rw [← hsz]; exact HNX.out.below.size
             have HVD := Lib.hid hVd
             clear hVd hsz
             refine wpOp_hidden rfl fun K hK => ?_
             refine wpList_pushIk rfl _ _ _ rfl Wi.heap.size 3 Tryd.underlying31 Tryd.infoInt _ _ rfl hown _ rfl hal hws ?_
             intro xv' w6 ho6 hk6 hm6
             obtain ⟨xA', xc', hxv', -, -⟩ := ho6.ints
             rw [List.length_append, List.length_singleton] at hxv'
             subst hxv'
             have HO6 := Lib.hid ho6
             have HK6 : Hid (Kept (fun g => Value.ownBlock (.slice xA acc.length xc) = some g) wr w6) := Lib.hid (Kept.trans (by rw [HVD.out]; exact (Kept.refl _ wr).drew) hk6)
             clear ho6 hk6 hm6 hown hal hws
             go_wp2
             refine OnlyN.mk (hK.out _ _ ⟨_, _, _, _, _, _, _, _, _, _, _, _, true, _, _, _, _, _, _, _, _, _, _, _, _, _, _, .slice xA' (acc.length + 1) xc', _, rfl, rfl, ⟨H.h0, H.h1, H.h2, H.h3, H.h4, H.h5, H.h6, H.h7, H.h8, H.h9, H.h10, H.h13, fun h => (by cases h), fun h => absurd h (by simp [hi]), fun _ h => (by cases h), fun _ _ => ⟨_, _, rfl, HO6.out, HK6.out⟩, fun h => absurd (H.ord2 h).1 (by simp [hi]), fun h => ⟨rfl, (H.ord2 h).2⟩, H.o1, H.o3, H.o5, H.o6, H.o7, H.o9, H.o10, H.o11, fun _ => (by simp [hi])⟩⟩)
            ·refine wpOp_hidden rfl fun K hK => ?_
             go_wp2
             refine OnlyN.mk (hK.out _ _ ⟨_, _, _, _, _, _, _, _, _, _, _, _, _, true, _, _, _, _, _, _, _, _, _, _, _, _, _, _, .pointer (some ⟨gX, 1, none⟩), rfl, rfl, ⟨H.h0, H.h1, H.h2, H.h3, H.h4, H.h5, H.h6, H.h7, H.h8, H.h9, H.h10, fun _ => rfl, H.hk, H.wa, H.wb, H.wc, H.wd, fun h => ⟨(H.ord2 h).1, rfl⟩, H.o1, H.o3, H.o5, H.o6, H.o7, H.o9, H.o10, H.o11, H.o12⟩⟩)
            ·obtain rfl := H.h13 (by simp [hi])
             obtain ⟨xA', xc', hv, ho6, hk6⟩ := H.wc (by simp [hi]) (by simp [hi])
             subst hv
             have hG6 := hk6.blk HNX.out.G (own_blk_ne' HNX.out.R HNX.out.G (by decide))
             have cx6 := hG6.cell_ 1 (.slice xA acc.length xc) rfl
             have fx6 := hG6.frozen 1
             have HN6 := Lib.hid (HNX.out.push ho6 hk6)
             clear ho6 hk6 hG6
             refine wpOp_hidden rfl fun K hK => ?_
             go_wp2
             refine OnlyN.mk (hK.out _ _ ⟨_, _, _, _, _, _, _, _, _, _, _, _, _, _, true, _, _, _, _, _, _, _, _, _, _, _, _, _, _, rfl, rfl, ⟨H.h0, H.h1, H.h2, H.h3, H.h4, H.h5, H.h6, H.h7, H.h8, H.h9, H.h10, H.h13, fun h => absurd h (by simp [hi]), fun h => absurd h (by simp [hi]), fun _ h => absurd h (by simp [hi]), fun _ h => (by cases h), fun _ => ⟨_, HN6.out⟩, fun _ => (by simp [hi]), H.o1, H.o3, H.o5, H.o6, H.o7, H.o9, H.o10, H.o11, H.o12⟩⟩)
           ·rintro listed act w' hr ⟨b0, b1, b2, b3, b4, b5, b6, b7, b8, b9, b10, b11, b12, b13, b14, v63, v64, v65, v66, v67, v68, v69, v70, v71, v72, v73, v74, v75, v76, rfl, rfl, H⟩
            have hn := List.eq_nil_iff_forall_not_mem.1 hr
            have r0 := hn 0
            simp [mem_ready, Region.binds] at r0
            subst r0
            have r1 := hn 1
            simp [mem_ready, Region.binds] at r1
            subst r1
            have r2 := hn 2
            simp [mem_ready, Region.binds] at r2
            subst r2
            have r3 := hn 3
            simp [mem_ready, Region.binds] at r3
            subst r3
            have r4 := hn 4
            simp [mem_ready, Region.binds] at r4
            subst r4
            have r5 := hn 5
            simp [mem_ready, Region.binds] at r5
            subst r5
            have r6 := hn 6
            simp [mem_ready, Region.binds] at r6
            subst r6
            have r7 := hn 7
            simp [mem_ready, Region.binds] at r7
            subst r7
            have r8 := hn 8
            simp [mem_ready, Region.binds] at r8
            subst r8
            have r9 := hn 9
            simp [mem_ready, Region.binds] at r9
            subst r9
            have r10 := hn 10
            simp [mem_ready, Region.binds] at r10
            subst r10
            have r11 := hn 11
            simp [mem_ready, Region.binds] at r11
            subst r11
            have r12 := hn 12
            simp [mem_ready, Region.binds] at r12
            subst r12
            have r13 := hn 13
            simp [mem_ready, Region.binds] at r13
            subst r13
            have r14 := hn 14
            simp [mem_ready, Region.binds] at r14
            subst r14
            try dsimp only
            obtain ⟨xv2, hn2⟩ := H.wd rfl
            rw [← HSN2.out] at hn2
            have HN7 := Lib.hid hn2
            clear H hr hn hn2
            go_wp2
            go_roundw
            case rel => exact ⟨m + 1, xv2, HML.out, (by first | rfl | (rw [hwm]; rfl)), HN7⟩
            case measure => (try rw [hwm]); have := HML.out; simp [intOf]; omega
          ·have d1 : (lv == (ps.length : Int) - kn) = false := by simpa using hl1
           have hst := HST.out
           rw [if_neg hl1] at hst
           have HSN2 := Lib.hid hst
           have HJL := Lib.hid hml
           have HLD : Hid ((w.heap.size < wr.heap.size ∧ wr.cell? ⟨w.heap.size, 2, none⟩ = some (.slice (some ⟨nb, no, none⟩) hs.length d)) ∧ (nb < wr.heap.size ∧ wr.cell? ⟨nb, no + i * 2 + 1, none⟩ = some (.slice (some ⟨bz, oz, none⟩) zs.length zc)) ∧ (bz < wr.heap.size ∧ wr.cell? ⟨bz, oz + m, none⟩ = some (.int .i64 z1))) := Lib.hid ⟨⟨by omega, e2⟩, ⟨hnblt, g1⟩, hzlt, hcm⟩
           obtain ⟨z, hz⟩ : ∃ z, z = z1 := ⟨_, rfl⟩
           rw [← hz] at HLD HSN2
           clear hl1 hst hz1 hz2 hz hcm hcs hsl hbjs hPlt hzlt hnblt hm
           go_wp2
           clear e0 e1 e2 g0 g1 hx0 hx1 hf1 d1 hwq gz
           refine wp_region_J (by kernel_rfl) (fun listed act w' => ∃ b0 b1 b2 b3 b4 b5 b6 b7 b8 b9 b10 b11 b12 b13 b14 v77 v78 v79 v80 v81 v82 v83 v84 v85 v86 v87 v88 v89 v90, listed = #[b0, b1, b2, b3, b4, b5, b6, b7, b8, b9, b10, b11, b12, b13, b14] ∧ act = Act.mk #[.agg #[.int .i64 st, .slice A ps.length c, .slice (some ⟨nb, no, none⟩) hs.length d], .int .i64 kn, .int .i64 sn, .pointer (some ⟨w.heap.size, 0, none⟩), undef, undef, .pointer (some ⟨w.heap.size + 1, 0, none⟩), .int .i64 0, u8, .int .i64 i, .pointer (some ⟨gX, 0, none⟩), .int .i64 m, .agg #[.int .i64 st, .slice A ps.length c, .slice (some ⟨nb, no, none⟩) hs.length d], .bool true, .bool false, undef, .int .i64 kn, .bool false, .bool false, .int .i64 kn, .pointer (some ⟨w.heap.size, 1, none⟩), .slice A ps.length c, .int .i64 ps.length, .bool false, .bool false, undef, .int .i64 sn, .bool false, .bool false, .int .i64 sn, .pointer (some ⟨w.heap.size, 0, none⟩), .int .i64 st, .bool false, .bool false, undef, .int .i64 i, .pointer (some ⟨w.heap.size, 2, none⟩), .slice (some ⟨nb, no, none⟩) hs.length d, .int .i64 hs.length, .bool true, u40, u41, .pointer (some ⟨w.heap.size, 2, none⟩), .slice (some ⟨nb, no, none⟩) hs.length d, .int .i64 i, .pointer (some ⟨nb, no + i * 2, none⟩), .pointer (some ⟨nb, no + i * 2, none⟩), .int .i64 lv, .agg #[.int .i64 lv, .slice none 0 0], .int .i64 m, .pointer (some ⟨w.heap.size, 0, none⟩), .int .i64 zs.length, .bool true, u53, u54, .pointer (some ⟨gX, 0, none⟩), .int .i64 lv, .pointer (some ⟨w.heap.size, 1, none⟩), .slice A ps.length c, .int .i64 ps.length, .int .i64 kn, .int .i64 (wrap64 ((ps.length : Int) - kn)), .bool false, u63, u64, u65, u66, u67, u68, u69, u70, u71, u72, u73, u74, u75, u76, v77, v78, v79, v80, v81, v82, v83, v84, v85, v86, v87, v88, v89, v90, u91, u92, u93, u94, undef, undef, undef, undef, undef, undef, undef] [] ∧ FxK wr Wi gX lv acc (.slice xA acc.length xc) z w.heap.size nb no hs.length d i bz oz zs.length zc m b0 b1 b2 b3 b4 b5 b6 b7 b8 b9 b10 b11 b12 b13 b14 v77 v78 v79 v80 v81 v82 v83 v84 v85 v86 v87 v88 v89 v90 w') ?_ ?_ ?_
           ·exact ⟨_, _, _, _, _, _, _, _, _, _, _, _, _, _, _, _, _, _, _, _, _, _, _, _, _, _, _, _, _, rfl, rfl, ⟨(by simp), (by simp), (by simp), (by simp), (by simp), (by simp), (by simp), (by simp), (by simp), (by simp), (by simp), (by simp), (fun _ _ _ => rfl), (fun _ => rfl), (by simp), (by simp), (by simp), (by simp), (by simp), (by simp), (by simp), (by simp), (by simp), (by simp), (by simp), (by simp), (by simp)⟩⟩
           ·rintro i listed act w' hi ⟨b0, b1, b2, b3, b4, b5, b6, b7, b8, b9, b10, b11, b12, b13, b14, v77, v78, v79, v80, v81, v82, v83, v84, v85, v86, v87, v88, v89, v90, rfl, rfl, H⟩
            have hi16 : i < 15 := by
             obtain ⟨-, o, ho, -⟩ := mem_ready.1 hi
             exact (Array.getElem?_eq_some_iff.1 ho).1
            obtain rfl | rfl | rfl | rfl | rfl | rfl | rfl | rfl | rfl | rfl | rfl | rfl | rfl | rfl | rfl : i = 0 ∨ i = 1 ∨ i = 2 ∨ i = 3 ∨ i = 4 ∨ i = 5 ∨ i = 6 ∨ i = 7 ∨ i = 8 ∨ i = 9 ∨ i = 10 ∨ i = 11 ∨ i = 12 ∨ i = 13 ∨ i = 14 := by omega
            all_goals simp [mem_ready, Region.binds] at hi
            ·refine wpOp_hidden rfl fun K hK => ?_
             go_wp2
             refine OnlyN.mk (hK.out _ _ ⟨true, _, _, _, _, _, _, _, _, _, _, _, _, _, _, .pointer (some ⟨gX, 1, none⟩), _, _, _, _, _, _, _, _, _, _, _, _, _, rfl, rfl, ⟨fun _ => rfl, H.h1, H.h2, H.h3, H.h4, H.h5, H.h6, H.h7, H.h8, H.h9, H.h10, H.h13, H.hk, H.wa, H.wb, H.wc, H.wd, H.ord2, fun h => rfl, H.o3, H.o5, H.o6, H.o7, H.o9, H.o10, H.o11, H.o12⟩⟩)
            ·have bAf : b12 = false := by
              cases hb : b12 with
              | false => rfl
              | true => exact absurd (H.o12 hb).1 (by simp [hi])
             obtain rfl := H.h0 (by simp [hi])
             have cc := (H.hk bAf ⟨gX, 1, none⟩ HGL.out.1).trans HGL.out.2
             clear bAf
             refine wpOp_hidden rfl fun K hK => ?_
             go_wp2
             refine OnlyN.mk (hK.out _ _ ⟨_, true, _, _, _, _, _, _, _, _, _, _, _, _, _, _, (.slice xA acc.length xc), _, _, _, _, _, _, _, _, _, _, _, _, rfl, rfl, ⟨H.h0, fun _ => rfl, H.h2, H.h3, H.h4, H.h5, H.h6, H.h7, H.h8, H.h9, H.h10, H.h13, H.hk, H.wa, H.wb, H.wc, H.wd, H.ord2, fun _ => (by simp [hi]), H.o3, H.o5, H.o6, H.o7, H.o9, H.o10, H.o11, fun h => ⟨rfl, (H.o12 h).2⟩⟩⟩)
            ·refine wpOp_hidden rfl fun K hK => ?_
             go_wp2
             refine OnlyN.mk (hK.out _ _ ⟨_, _, true, _, _, _, _, _, _, _, _, _, _, _, _, _, _, .pointer (some ⟨w.heap.size, 2, none⟩), _, _, _, _, _, _, _, _, _, _, _, rfl, rfl, ⟨H.h0, H.h1, fun _ => rfl, H.h3, H.h4, H.h5, H.h6, H.h7, H.h8, H.h9, H.h10, H.h13, H.hk, H.wa, H.wb, H.wc, H.wd, H.ord2, H.o1, fun h => rfl, H.o5, H.o6, H.o7, H.o9, H.o10, H.o11, H.o12⟩⟩)
            ·have bAf : b12 = false := by
              cases hb : b12 with
              | false => rfl
              | true => exact absurd (H.o5 (H.o6 (H.o7 (H.o9 (H.o10 (H.o11 (H.o12 hb).2))).1))).1 (by simp [hi])
             obtain rfl := H.h2 (by simp [hi])
             have cc := (H.hk bAf ⟨w.heap.size, 2, none⟩ HLD.out.1.1).trans HLD.out.1.2
             clear bAf
             refine wpOp_hidden rfl fun K hK => ?_
             go_wp2
             refine OnlyN.mk (hK.out _ _ ⟨_, _, _, true, _, _, _, _, _, _, _, _, _, _, _, _, _, _, .slice (some ⟨nb, no, none⟩) hs.length d, _, _, _, _, _, _, _, _, _, _, rfl, rfl, ⟨H.h0, H.h1, H.h2, fun _ => rfl, H.h4, H.h5, H.h6, H.h7, H.h8, H.h9, H.h10, H.h13, H.hk, H.wa, H.wb, H.wc, H.wd, H.ord2, H.o1, fun _ => (by simp [hi]), fun h => ⟨rfl, (H.o5 h).2⟩, H.o6, H.o7, H.o9, H.o10, H.o11, H.o12⟩⟩)
            ·refine wpOp_hidden rfl fun K hK => ?_
             go_wp2
             refine OnlyN.mk (hK.out _ _ ⟨_, _, _, _, true, _, _, _, _, _, _, _, _, _, _, _, _, _, _, .int .i64 i, _, _, _, _, _, _, _, _, _, rfl, rfl, ⟨H.h0, H.h1, H.h2, H.h3, fun _ => rfl, H.h5, H.h6, H.h7, H.h8, H.h9, H.h10, H.h13, H.hk, H.wa, H.wb, H.wc, H.wd, H.ord2, H.o1, H.o3, fun h => ⟨(H.o5 h).1, rfl⟩, H.o6, H.o7, H.o9, H.o10, H.o11, H.o12⟩⟩)
            ·obtain rfl := H.h3 (by simp [hi])
             obtain rfl := H.h4 (by simp [hi])
             have hil := HIL.out
             refine wpOp_hidden rfl fun K hK => ?_
             go_wp2
             refine OnlyN.mk (hK.out _ _ ⟨_, _, _, _, _, true, _, _, _, _, _, _, _, _, _, _, _, _, _, _, .pointer (some ⟨nb, no + i * 2, none⟩), _, _, _, _, _, _, _, _, rfl, rfl, ⟨H.h0, H.h1, H.h2, H.h3, H.h4, fun _ => rfl, H.h6, H.h7, H.h8, H.h9, H.h10, H.h13, H.hk, H.wa, H.wb, H.wc, H.wd, H.ord2, H.o1, H.o3, fun _ => (by simp [hi]), fun h => rfl, H.o7, H.o9, H.o10, H.o11, H.o12⟩⟩)
            ·obtain rfl := H.h5 (by simp [hi])
             refine wpOp_hidden rfl fun K hK => ?_
             go_wp2
             refine OnlyN.mk (hK.out _ _ ⟨_, _, _, _, _, _, true, _, _, _, _, _, _, _, _, _, _, _, _, _, _, .pointer (some ⟨nb, no + i * 2 + 1, none⟩), _, _, _, _, _, _, _, rfl, rfl, ⟨H.h0, H.h1, H.h2, H.h3, H.h4, H.h5, fun _ => rfl, H.h7, H.h8, H.h9, H.h10, H.h13, H.hk, H.wa, H.wb, H.wc, H.wd, H.ord2, H.o1, H.o3, H.o5, fun _ => (by simp [hi]), fun h => rfl, H.o9, H.o10, H.o11, H.o12⟩⟩)
            ·have bAf : b12 = false := by
              cases hb : b12 with
              | false => rfl
              | true => exact absurd (H.o9 (H.o10 (H.o11 (H.o12 hb).2))).1 (by simp [hi])
             obtain rfl := H.h6 (by simp [hi])
             have cc := (H.hk bAf ⟨nb, no + i * 2 + 1, none⟩ HLD.out.2.1.1).trans HLD.out.2.1.2
             clear bAf
             refine wpOp_hidden rfl fun K hK => ?_
             go_wp2
             refine OnlyN.mk (hK.out _ _ ⟨_, _, _, _, _, _, _, true, _, _, _, _, _, _, _, _, _, _, _, _, _, _, .slice (some ⟨bz, oz, none⟩) zs.length zc, _, _, _, _, _, _, rfl, rfl, ⟨H.h0, H.h1, H.h2, H.h3, H.h4, H.h5, H.h6, fun _ => rfl, H.h8, H.h9, H.h10, H.h13, H.hk, H.wa, H.wb, H.wc, H.wd, H.ord2, H.o1, H.o3, H.o5, H.o6, fun _ => (by simp [hi]), fun h => ⟨rfl, (H.o9 h).2⟩, H.o10, H.o11, H.o12⟩⟩)
            ·refine wpOp_hidden rfl fun K hK => ?_
             go_wp2
             refine OnlyN.mk (hK.out _ _ ⟨_, _, _, _, _, _, _, _, true, _, _, _, _, _, _, _, _, _, _, _, _, _, _, .int .i64 m, _, _, _, _, _, rfl, rfl, ⟨H.h0, H.h1, H.h2, H.h3, H.h4, H.h5, H.h6, H.h7, fun _ => rfl, H.h9, H.h10, H.h13, H.hk, H.wa, H.wb, H.wc, H.wd, H.ord2, H.o1, H.o3, H.o5, H.o6, H.o7, fun h => ⟨(H.o9 h).1, rfl⟩, H.o10, H.o11, H.o12⟩⟩)
            ·obtain rfl := H.h7 (by simp [hi])
             obtain rfl := H.h8 (by simp [hi])
             have hjl := HJL.out
             refine wpOp_hidden rfl fun K hK => ?_
             go_wp2
             refine OnlyN.mk (hK.out _ _ ⟨_, _, _, _, _, _, _, _, _, true, _, _, _, _, _, _, _, _, _, _, _, _, _, _, .pointer (some ⟨bz, oz + m, none⟩), _, _, _, _, rfl, rfl, ⟨H.h0, H.h1, H.h2, H.h3, H.h4, H.h5, H.h6, H.h7, H.h8, fun _ => rfl, H.h10, H.h13, H.hk, H.wa, H.wb, H.wc, H.wd, H.ord2, H.o1, H.o3, H.o5, H.o6, H.o7, fun _ => (by simp [hi]), fun h => rfl, H.o11, H.o12⟩⟩)
            ·have bAf : b12 = false := by
              cases hb : b12 with
              | false => rfl
              | true => exact absurd (H.o11 (H.o12 hb).2) (by simp [hi])
             obtain rfl := H.h9 (by simp [hi])
             have cc := (H.hk bAf ⟨bz, oz + m, none⟩ HLD.out.2.2.1).trans HLD.out.2.2.2
             clear bAf
             refine wpOp_hidden rfl fun K hK => ?_
             go_wp2
             refine OnlyN.mk (hK.out _ _ ⟨_, _, _, _, _, _, _, _, _, _, true, _, _, _, _, _, _, _, _, _, _, _, _, _, _, .int .i64 z, _, _, _, rfl, rfl, ⟨H.h0, H.h1, H.h2, H.h3, H.h4, H.h5, H.h6, H.h7, H.h8, H.h9, fun _ => rfl, H.h13, H.hk, H.wa, H.wb, H.wc, H.wd, H.ord2, H.o1, H.o3, H.o5, H.o6, H.o7, H.o9, fun _ => (by simp [hi]), fun h => rfl, H.o12⟩⟩)
            ·have bAf : b12 = false := by
              cases hb : b12 with
              | false => rfl
              | true => exact absurd (H.o12 hb).2 (by simp [hi])
             obtain rfl := H.h10 (by simp [hi])
             have hw := H.wa (by simp [hi])
             have hA := bAf
             subst hw
             clear bAf
             refine wpOp_hidden rfl fun K hK => ?_
             go_wp2
             refine OnlyN.mk (hK.out _ _ ⟨_, _, _, _, _, _, _, _, _, _, _, true, _, _, _, _, _, _, _, _, _, _, _, _, _, _, .slice (some ⟨wr.heap.size, 0, none⟩) 1 1, _, _, rfl, rfl, ⟨H.h0, H.h1, H.h2, H.h3, H.h4, H.h5, H.h6, H.h7, H.h8, H.h9, H.h10, H.h13, fun _ p hp => World.cell?_alloc_lt wr _ p hp, fun h => (by cases h), fun _ _ => ⟨rfl, rfl⟩, fun h => absurd h (by rw [hA]; decide), fun h => absurd (H.ord2 h).1 (by rw [hA]; decide), H.ord2, H.o1, H.o3, H.o5, H.o6, H.o7, H.o9, H.o10, fun _ => (by simp [hi]), fun h => ⟨(H.o12 h).1, rfl⟩⟩⟩)
            ·obtain rfl := H.h1 (by simp [hi])
             obtain ⟨hv, hw⟩ := H.wb (by simp [hi]) (by simp [hi])
             obtain ⟨Vd, hVd⟩ : ∃ Vd, Vd = World.drew wr := ⟨_, rfl⟩
             have hsz : wr.heap.size = Vd.heap.size := by rw [hVd]; rfl
             rw [← hVd] at hw
             rw [hsz] at hv
             subst hw
             subst hv
             have hown : OwnIA Vd Wi.heap.size (.slice xA acc.length xc) acc := by rw [hVd]; exact HNX.out.R
             have hal := HAL.out
             have hws : Wi.heap.size ≤ Vd.heap.size := by rw [← hsz]; exact HNX.out.below.size
             have HVD := Lib.hid hVd
             clear hVd hsz
             refine wpOp_hidden rfl fun K hK => ?_
             refine wpList_pushIk rfl _ _ _ rfl Wi.heap.size 3 Tryd.underlying31 Tryd.infoInt _ _ rfl hown _ rfl hal hws ?_
             intro xv' w6 ho6 hk6 hm6
             obtain ⟨xA', xc', hxv', -, -⟩ := ho6.ints
             rw [List.length_append, List.length_singleton] at hxv'
             subst hxv'
             have HO6 := Lib.hid ho6
             have HK6 : Hid (Kept (fun g => Value.ownBlock (.slice xA acc.length xc) = some g) wr w6) := Lib.hid (Kept.trans (by rw [HVD.out]; exact (Kept.refl _ wr).drew) hk6)
             clear ho6 hk6 hm6 hown hal hws
             go_wp2
             refine OnlyN.mk (hK.out _ _ ⟨_, _, _, _, _, _, _, _, _, _, _, _, true, _, _, _, _, _, _, _, _, _, _, _, _, _, _, .slice xA' (acc.length + 1) xc', _, rfl, rfl, ⟨H.h0, H.h1, H.h2, H.h3, H.h4, H.h5, H.h6, H.h7, H.h8, H.h9, H.h10, H.h13, fun h => (by cases h), fun h => absurd h (by simp [hi]), fun _ h => (by cases h), fun _ _ => ⟨_, _, rfl, HO6.out, HK6.out⟩, fun h => absurd (H.ord2 h).1 (by simp [hi]), fun h => ⟨rfl, (H.ord2 h).2⟩, H.o1, H.o3, H.o5, H.o6, H.o7, H.o9, H.o10, H.o11, fun _ => (by simp [hi])⟩⟩)
            ·refine wpOp_hidden rfl fun K hK => ?_
             go_wp2
             refine OnlyN.mk (hK.out _ _ ⟨_, _, _, _, _, _, _, _, _, _, _, _, _, true, _, _, _, _, _, _, _, _, _, _, _, _, _, _, .pointer (some ⟨gX, 1, none⟩), rfl, rfl, ⟨H.h0, H.h1, H.h2, H.h3, H.h4, H.h5, H.h6, H.h7, H.h8, H.h9, H.h10, fun _ => rfl, H.hk, H.wa, H.wb, H.wc, H.wd, fun h => ⟨(H.ord2 h).1, rfl⟩, H.o1, H.o3, H.o5, H.o6, H.o7, H.o9, H.o10, H.o11, H.o12⟩⟩)
            ·obtain rfl := H.h13 (by simp [hi])
             obtain ⟨xA', xc', hv, ho6, hk6⟩ := H.wc (by simp [hi]) (by simp [hi])
             subst hv
             have hG6 := hk6.blk HNX.out.G (own_blk_ne' HNX.out.R HNX.out.G (by decide))
             have cx6 := hG6.cell_ 1 (.slice xA acc.length xc) rfl
             have fx6 := hG6.frozen 1
             have HN6 := Lib.hid (HNX.out.push ho6 hk6)
             clear ho6 hk6 hG6
             refine wpOp_hidden rfl fun K hK => ?_
             go_wp2
             refine OnlyN.mk (hK.out _ _ ⟨_, _, _, _, _, _, _, _, _, _, _, _, _, _, true, _, _, _, _, _, _, _, _, _, _, _, _, _, _, rfl, rfl, ⟨H.h0, H.h1, H.h2, H.h3, H.h4, H.h5, H.h6, H.h7, H.h8, H.h9, H.h10, H.h13, fun h => absurd h (by simp [hi]), fun h => absurd h (by simp [hi]), fun _ h => absurd h (by simp [hi]), fun _ h => (by cases h), fun _ => ⟨_, HN6.out⟩, fun _ => (by simp [hi]), H.o1, H.o3, H.o5, H.o6, H.o7, H.o9, H.o10, H.o11, H.o12⟩⟩)
           ·rintro listed act w' hr ⟨b0, b1, b2, b3, b4, b5, b6, b7, b8, b9, b10, b11, b12, b13, b14, v77, v78, v79, v80, v81, v82, v83, v84, v85, v86, v87, v88, v89, v90, rfl, rfl, H⟩
            have hn := List.eq_nil_iff_forall_not_mem.1 hr
            have r0 := hn 0
            simp [mem_ready, Region.binds] at r0
            subst r0
            have r1 := hn 1
            simp [mem_ready, Region.binds] at r1
            subst r1
            have r2 := hn 2
            simp [mem_ready, Region.binds] at r2
            subst r2
            have r3 := hn 3
            simp [mem_ready, Region.binds] at r3
            subst r3
            have r4 := hn 4
            simp [mem_ready, Region.binds] at r4
            subst r4
            have r5 := hn 5
            simp [mem_ready, Region.binds] at r5
            subst r5
            have r6 := hn 6
            simp [mem_ready, Region.binds] at r6
            subst r6
            have r7 := hn 7
            simp [mem_ready, Region.binds] at r7
            subst r7
            have r8 := hn 8
            simp [mem_ready, Region.binds] at r8
            subst r8
            have r9 := hn 9
            simp [mem_ready, Region.binds] at r9
            subst r9
            have r10 := hn 10
            simp [mem_ready, Region.binds] at r10
            subst r10
            have r11 := hn 11
            simp [mem_ready, Region.binds] at r11
            subst r11
            have r12 := hn 12
            simp [mem_ready, Region.binds] at r12
            subst r12
            have r13 := hn 13
            simp [mem_ready, Region.binds] at r13
            subst r13
            have r14 := hn 14
            simp [mem_ready, Region.binds] at r14
            subst r14
            try dsimp only
            obtain ⟨xv2, hn2⟩ := H.wd rfl
            rw [← HSN2.out] at hn2
            have HN7 := Lib.hid hn2
            clear H hr hn hn2
            go_wp2
            go_roundw
            case rel => exact ⟨m + 1, xv2, HML.out, (by first | rfl | (rw [hwm]; rfl)), HN7⟩
            case measure => (try rw [hwm]); have := HML.out; simp [intOf]; omega
         ·obtain rfl : m = zs.length := by omega
          have HNXF : Hid (NxL gX Wi lv (chF ps.length kn sn lv zs) xv wr) := Lib.hid (by
           have := HNX.out
           rwa [List.take_of_length_le (by rw [chF_len]; exact Nat.le_refl _)] at this)
          obtain ⟨acc, hacc⟩ : ∃ acc, acc = chF ps.length kn sn lv zs := ⟨_, rfl⟩
          rw [← hacc] at HNXF HTK
          obtain ⟨xA, xc, rfl, -, -⟩ := HNXF.out.R.ints
          obtain ⟨lA, lc, rfl, -, -⟩ := HO.out.1.nds
          have hown7 : OwnNA wr WQ.heap.size (.slice lA osl.length lc) osl := HO.out.1.ext HNXF.out.below
          have hI7 : OwnIA wr WQ.heap.size (.slice xA acc.length xc) acc := own_down HNXF.out.R HBI.out.size
          have hol : osl.length < 1000000000000 := by have := HOL.out; have := HHL.out; omega
          have hws7 : WQ.heap.size ≤ wr.heap.size := Nat.le_trans HBI.out.size HNXF.out.below.size
          clear hacc HNX
          go_wp2_with (at_builtin; refine wpList_pushN rfl _ _ _ rfl WQ.heap.size 53 3 (by decide) Tryd.underlying23 Tryd.infoNode _ _ rfl hown7 _ _ _ _ hI7 rfl hol hws7 ?_)
          intro v9 w9 hN9 hK9 hA9
          have HN9 := Lib.hid hN9
          have HB9 : Hid (Below WQ.heap.size WQ w9) := Lib.hid ((HBI.out.trans (HNXF.out.below.mono HBI.out.size)).trans (hK9.to_below hws7 (fun g hg e => by have := (own_lt' hown7.1 e).2; omega)))
          have HM9 : Hid ((osl ++ [(⟨lv, xA, xc, acc⟩ : Hd)]).map Hd.nd = (chgL (chF ps.length kn sn) (hs.map Hd.nd)).take (i + 1)) := Lib.hid (by rw [HTK.out, List.map_append, HO.out.2]; rfl)
          clear hN9 hK9 hA9 hown7 hI7 hol hws7
          go_wp2
          go_roundw
          case rel => exact ⟨i + 1, _, HIL.out, (by first | rfl | (rw [hwi]; rfl)), Lib.hid ⟨HN9.out, HM9.out⟩, HB9⟩
          case measure => (try rw [hwi]); have := HIL.out; simp [intOf]; omega
       ·have hik : i = hs.length := by omega
        have hon : osl.map Hd.nd = chgL (chF ps.length kn sn) (hs.map Hd.nd) := by
         have := HO.out.2
         rwa [List.take_of_length_le (by rw [chg_len, List.length_map]; omega)] at this
        obtain ⟨lA, lc, rfl, hnds, -⟩ := HO.out.1.nds
        have hcall := rreduce_own st A c ps lA lc osl wr (HP.out.ext HBi.out) hnds
        rw [hon, redT_chg HRR.out HCH.out] at hcall
        have HCALL := Lib.hid hcall
        have HQi := Lib.hid (HQ0.out.below HBi.out HQ0.out.lt)
        have HBwi : Hid (Below w.heap.size w wr) := Lib.hid (HB0.out.trans (HBi.out.mono HB0.out.size))
        clear hon hnds hcall hik
        go_wp2_with (go_at_call 13; refine HCALL.out.mono ?_; rintro e w2 ⟨A', c', nv, os, rfl, hA', hp2, ho2, he2, hb2⟩; refine Hid.out ?_)
        refine Lib.hid ?_
        have hq2 := HQi.out.below hb2 HQi.out.lt
        have d0 := hq2.cell_ 0 (.int .i64 0) rfl
        have d1x := hq2.cell_ 1 (.slice none 0 0) rfl
        have d2' := hq2.cell_ 2 (.slice none 0 0) rfl
        have f0 := hq2.frozen 0
        have f1 := hq2.frozen 1
        have f2 := hq2.frozen 2
        obtain ⟨B2, d2, rfl, -, -⟩ := ho2.nds
        have HQ2 := Lib.hid hq2
        have HO2 := Lib.hid ho2
        have HB2 := Lib.hid hb2
        have HE2 := Lib.hid he2
        have HA2 := Lib.hid hA'
        have HP2 := Lib.hid hp2
        clear hq2 ho2 hb2 he2 hA' hp2 HCALL
        go_wp2
        have hq : Blk (((w2.setCell ⟨w.heap.size + 1, 0, none⟩ (.int .i64 st)).setCell ⟨w.heap.size + 1, 1, none⟩ (.slice A' ps.length c')).setCell ⟨w.heap.size + 1, 2, none⟩ (.slice B2 os.length d2)) (w.heap.size + 1) 25 #[.int .i64 st, .slice A' ps.length c', .slice B2 os.length d2] := ((HQ2.out.set_ 0 (.int .i64 st)).set_ 1 (.slice A' ps.length c')).set_ 2 (.slice B2 os.length d2)
        have hk : Kept (fun g => g = w.heap.size + 1) w2 (((w2.setCell ⟨w.heap.size + 1, 0, none⟩ (.int .i64 st)).setCell ⟨w.heap.size + 1, 1, none⟩ (.slice A' ps.length c')).setCell ⟨w.heap.size + 1, 2, none⟩ (.slice B2 os.length d2)) := (((Kept.refl (fun g => g = w.heap.size + 1) w2).setCell (p := ⟨w.heap.size + 1, 0, none⟩) (Or.inl rfl) _).setCell (p := ⟨w.heap.size + 1, 1, none⟩) (Or.inl rfl) _).setCell (p := ⟨w.heap.size + 1, 2, none⟩) (Or.inl rfl) _
        have hlt := HQi.out.lt
        have hbf : Below w.heap.size w (((w2.setCell ⟨w.heap.size + 1, 0, none⟩ (.int .i64 st)).setCell ⟨w.heap.size + 1, 1, none⟩ (.slice A' ps.length c')).setCell ⟨w.heap.size + 1, 2, none⟩ (.slice B2 os.length d2)) := (HBwi.out.trans (HB2.out.mono HBwi.out.size)).trans (hk.to_below (by have := HBwi.out.size; have := HB2.out.size; omega) (fun g hg e => by omega))
        have hown : OwnNA _ wr.heap.size (.slice B2 os.length d2) os := OwnN.kept HO2.out hk (fun g e e2 => by have := (own_lt' HO2.out.1 e).2; omega) (fun x hx g e e2 => by have := (own_lt' (HO2.out.2 x hx) e).2; omega)
        rw [HE.out]
        refine bodyPost_ret (results_ct Tryd.results21 _ _ (w.heap.size + 1) 25 #[.int .i64 st, .slice A' ps.length c', .slice B2 os.length d2] (0, 0) _ rfl hq Tryd.underlying25 rfl Tryd.sizeTree) rfl
         ⟨A', c', _, os, rfl, HA2.out, ?_, ⟨own_down hown.1 HBwi.out.size, fun x hx => (hown.2 x hx).down HBwi.out.size⟩, HE2.out, hbf⟩
        rcases HA2.out with e | e
        ·subst e
         exact HPO.out.ext hbf
        ·have e' : ps = [] := e
         subst e'
         exact Pts.nil
end Go.Proofs.YtojnnfihpiegoaaDoor
