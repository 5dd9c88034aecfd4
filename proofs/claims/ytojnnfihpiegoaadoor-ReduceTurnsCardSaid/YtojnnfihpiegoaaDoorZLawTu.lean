/-
  cellularlaw13.ReduceTurns: the walk. No condition but that the library's table and the matrices are there.
-/
import Derived.Test.YtojnnfihpiegoaaDoorZCp
import Derived.Test.YtojnnfihpiegoaaDoorZRTurn
namespace Go.Proofs.YtojnnfihpiegoaaDoor
open Go.RowKit Go.Maps
set_option maxRecDepth 100000
set_option linter.unusedVariables false
set_option linter.unusedSimpArgs false
theorem TreeAt.lenp {w : World} {st : Int} {A : Option Addr} {n c : Nat} {B : Option Addr} {m d : Nat} {t : PT} (h : TreeAt w (.agg #[.int .i64 st, .slice A n c, .slice B m d]) t) : n = t.ps.length := by
 obtain ⟨A', c', B', d', os, e, h1, h2, h3⟩ := h
 injection e with e
 simp only [Array.mk.injEq, List.cons.injEq, Value.int.injEq, Value.slice.injEq, true_and, and_true] at e
 exact e.2.1.2.1
theorem rturn_tv {k : Int} {w : World} {v : Value} {t : PT} (h : TreeAt w v t) (hl : t.ps.length ≤ 9) : Calls Tryd.prog 25 #[.int .i64 k, v] w (RetTu k t w) := by
 obtain ⟨A, c, B, d, os, rfl, h1, h2, h3⟩ := h
 have := rturn_any k t.st A c t.ps B d os w h1 h2 hl
 rw [h3] at this
 exact this
set_option maxHeartbeats 16000000 in
theorem lawTu_any (a : PT) (k : Int) (s1 : Int) (A1 : Option Addr) (n1 c1 : Nat) (B1 : Option Addr) (m1 d1 : Nat) (w : World)
  (ha : TreeAt w (.agg #[.int .i64 s1, .slice A1 n1 c1, .slice B1 m1 d1]) a) (ht : TabB w.heap.size w) (hg : GMat w) :
  Calls Tryd.prog 6 #[.int .i64 k, .agg #[.int .i64 s1, .slice A1 n1 c1, .slice B1 m1 d1]] w fun e w' => e = .returned (.bool true) ∧ Below w.heap.size w w' := by
 obtain ⟨w0, h1⟩ : ∃ w0, w0 = w.alloc (.cells #[.int .i64 s1, .slice A1 n1 c1, .slice B1 m1 d1] 25) := ⟨_, rfl⟩
 have b1 : Below w.heap.size w w0 := by rw [h1]; exact below_new _ _
 have hv1 := TrV.new ha
 rw [← h1] at hv1
 have hlp := ha.lenp
 have HA := Lib.hid hv1
 have HB := Lib.hid b1
 have HW0 := Lib.hid h1
 have HTAB := Lib.hid ht
 have HGM := Lib.hid hg
 clear ha ht hg h1 b1 hv1
 cases hsA : smallB a 60 with
 | false =>
  clear hlp
  obtain ⟨cA0, cA1, cA2⟩ := HA.out.cells
  go_enter Tryd.func6, Tryd.ntmps6
  go_upto_region 1 with fail
  rw [← HW0.out]
  have hcall := small_tv (n := 60) HA.out.at_
  rw [hsA] at hcall
  have HCALL := Lib.hid hcall
  clear hcall
  go_wp2_with (go_at_call 9; refine HCALL.out.mono ?_; intro e x1 hx; obtain ⟨rfl, hb⟩ := hx; refine Hid.out ?_)
  refine Lib.hid ?_
  have HBx := Lib.hid (HB.out.trans (hb.mono HB.out.size))
  clear HB
  have HB := HBx
  clear HBx
  have Hx := Lib.hid (HA.out.ext hb)
  clear HA
  have HA := Hx
  clear Hx
  clear hb HCALL
  clear cA0 cA1 cA2
  clear hsA
  obtain ⟨cA0, cA1, cA2⟩ := HA.out.cells
  clear cA0 cA1 cA2
  have hcall := awake_any _ ((HTAB.out.on HB.out).up HB.out.size) (HGM.out.ext HB.out)
  have HCALL := Lib.hid hcall
  clear hcall
  go_wp2_with (go_at_call 10; refine HCALL.out.mono ?_; intro e x2 hx; obtain ⟨rfl, hb⟩ := hx; refine Hid.out ?_)
  refine Lib.hid ?_
  have HBx := Lib.hid (HB.out.trans (hb.mono HB.out.size))
  clear HB
  have HB := HBx
  clear HBx
  have Hx := Lib.hid (HA.out.ext hb)
  clear HA
  have HA := Hx
  clear Hx
  clear hb HCALL
  go_wp2
  go_ret
  exact ⟨rfl, HB.out⟩
 | true =>
  by_cases h9 : 9 < n1
  ·have d1 : decide ((9 : Int) < (n1 : Int)) = true := decide_eq_true (by omega)
   have d2 : decide (9 < n1) = true := decide_eq_true h9
   clear h9 hlp
   obtain ⟨cA0, cA1, cA2⟩ := HA.out.cells
   go_enter Tryd.func6, Tryd.ntmps6
   go_upto_region 1 with fail
   rw [← HW0.out]
   have hcall := small_tv (n := 60) HA.out.at_
   rw [hsA] at hcall
   have HCALL := Lib.hid hcall
   clear hcall
   go_wp2_with (go_at_call 9; refine HCALL.out.mono ?_; intro e x1 hx; obtain ⟨rfl, hb⟩ := hx; refine Hid.out ?_)
   refine Lib.hid ?_
   have HBx := Lib.hid (HB.out.trans (hb.mono HB.out.size))
   clear HB
   have HB := HBx
   clear HBx
   have Hx := Lib.hid (HA.out.ext hb)
   clear HA
   have HA := Hx
   clear Hx
   clear hb HCALL
   clear cA0 cA1 cA2
   clear hsA
   obtain ⟨cA0, cA1, cA2⟩ := HA.out.cells
   go_upto_region 2 with fail
   clear cA0 cA1 cA2
   have hcall := awake_any _ ((HTAB.out.on HB.out).up HB.out.size) (HGM.out.ext HB.out)
   have HCALL := Lib.hid hcall
   clear hcall
   go_wp2_with (go_at_call 10; refine HCALL.out.mono ?_; intro e x2 hx; obtain ⟨rfl, hb⟩ := hx; refine Hid.out ?_)
   refine Lib.hid ?_
   have HBx := Lib.hid (HB.out.trans (hb.mono HB.out.size))
   clear HB
   have HB := HBx
   clear HBx
   have Hx := Lib.hid (HA.out.ext hb)
   clear HA
   have HA := Hx
   clear Hx
   clear hb HCALL
   go_wp2
   go_ret
   exact ⟨rfl, HB.out⟩
  ·have HL9 : Hid (a.ps.length ≤ 9) := Lib.hid (by rw [← hlp]; omega)
   have d1 : decide ((9 : Int) < (n1 : Int)) = false := decide_eq_false (by omega)
   have d2 : decide (9 < n1) = false := decide_eq_false h9
   clear h9 hlp
   obtain ⟨cA0, cA1, cA2⟩ := HA.out.cells
   go_enter Tryd.func6, Tryd.ntmps6
   go_upto_region 1 with fail
   rw [← HW0.out]
   have hcall := small_tv (n := 60) HA.out.at_
   rw [hsA] at hcall
   have HCALL := Lib.hid hcall
   clear hcall
   go_wp2_with (go_at_call 9; refine HCALL.out.mono ?_; intro e x1 hx; obtain ⟨rfl, hb⟩ := hx; refine Hid.out ?_)
   refine Lib.hid ?_
   have HBx := Lib.hid (HB.out.trans (hb.mono HB.out.size))
   clear HB
   have HB := HBx
   clear HBx
   have Hx := Lib.hid (HA.out.ext hb)
   clear HA
   have HA := Hx
   clear Hx
   clear hb HCALL
   clear cA0 cA1 cA2
   clear hsA
   obtain ⟨cA0, cA1, cA2⟩ := HA.out.cells
   go_upto_region 3 with fail
   clear d1 d2
   have hcall := turn_tv (k := k) HA.out.at_ ((HTAB.out.on HB.out).up HB.out.size) (HGM.out.ext HB.out) HL9.out
   have HCALL := Lib.hid hcall
   clear hcall
   go_wp2_with (go_at_call 24; refine HCALL.out.mono ?_; intro e x2 hx; obtain ⟨te, hok, s2, A2, n2, c2, B2, m2, d2, rfl, hat, hb⟩ := hx; have HOK := Lib.hid hok; clear hok; refine Hid.out ?_)
   refine Lib.hid ?_
   have HBx := Lib.hid (HB.out.trans (hb.mono HB.out.size))
   clear HB
   have HB := HBx
   clear HBx
   have Hx := Lib.hid (HA.out.ext hb)
   clear HA
   have HA := Hx
   clear Hx
   clear hb HCALL
   clear cA0 cA1 cA2
   obtain ⟨y2, hw⟩ : ∃ W, W = x2.alloc (.cells #[.int .i64 s2, .slice A2 n2 c2, .slice B2 m2 d2] 25) := ⟨_, rfl⟩
   obtain ⟨pU, hp⟩ : ∃ p, p = x2.heap.size := ⟨_, rfl⟩
   have hv := TrV.new hat
   rw [← hw, ← hp] at hv
   have hb : Below x2.heap.size x2 y2 := by rw [hw]; exact below_new _ _
   have HBx := Lib.hid (HB.out.trans (hb.mono HB.out.size))
   clear HB
   have HB := HBx
   clear HBx
   have Hx := Lib.hid (HA.out.ext hb)
   clear HA
   have HA := Hx
   clear Hx
   have HU := Lib.hid hv
   clear hv hb hat
   go_upto_region 4 with fail
   rw [← hw, ← hp]
   clear hw hp
   obtain ⟨cA0, cA1, cA2⟩ := HA.out.cells
   have hcall := rturn_tv (k := k) HA.out.at_ HL9.out
   have HCALL := Lib.hid hcall
   clear hcall
   go_wp2_with (go_at_call 25; refine HCALL.out.mono ?_; intro e x3 hx; obtain ⟨te2, hok, s3, A3, n3, c3, B3, m3, d3, rfl, hat, hb⟩ := hx; obtain rfl := (hok.uniq HOK.out).symm; clear hok; refine Hid.out ?_)
   refine Lib.hid ?_
   have HBx := Lib.hid (HB.out.trans (hb.mono HB.out.size))
   clear HB
   have HB := HBx
   clear HBx
   have Hx := Lib.hid (HA.out.ext hb)
   clear HA
   have HA := Hx
   clear Hx
   have Hx := Lib.hid (HU.out.ext hb)
   clear HU
   have HU := Hx
   clear Hx
   clear hb HCALL
   clear cA0 cA1 cA2
   obtain ⟨y3, hw⟩ : ∃ W, W = x3.alloc (.cells #[.int .i64 s3, .slice A3 n3 c3, .slice B3 m3 d3] 25) := ⟨_, rfl⟩
   obtain ⟨pR, hp⟩ : ∃ p, p = x3.heap.size := ⟨_, rfl⟩
   have hv := TrV.new hat
   rw [← hw, ← hp] at hv
   have hb : Below x3.heap.size x3 y3 := by rw [hw]; exact below_new _ _
   have HBx := Lib.hid (HB.out.trans (hb.mono HB.out.size))
   clear HB
   have HB := HBx
   clear HBx
   have Hx := Lib.hid (HA.out.ext hb)
   clear HA
   have HA := Hx
   clear Hx
   have Hx := Lib.hid (HU.out.ext hb)
   clear HU
   have HU := Hx
   clear Hx
   have HR := Lib.hid hv
   clear hv hb hat
   go_upto_region 5 with fail
   rw [← hw, ← hp]
   clear hw hp
   obtain ⟨cU0, cU1, cU2⟩ := HU.out.cells
   obtain ⟨cR0, cR1, cR2⟩ := HR.out.cells
   have hcall := rsamet_at HU.out.at_ HR.out.at_
   rw [ex_same] at hcall
   have HCALL := Lib.hid hcall
   clear hcall
   go_wp2_with (go_at_call 11; refine HCALL.out.mono ?_; intro e x4 hx; obtain ⟨rfl, hb⟩ := hx; refine Hid.out ?_)
   refine Lib.hid ?_
   have HBx := Lib.hid (HB.out.trans (hb.mono HB.out.size))
   clear HB
   have HB := HBx
   clear HBx
   have Hx := Lib.hid (HA.out.ext hb)
   clear HA
   have HA := Hx
   clear Hx
   have Hx := Lib.hid (HU.out.ext hb)
   clear HU
   have HU := Hx
   clear Hx
   have Hx := Lib.hid (HR.out.ext hb)
   clear HR
   have HR := Hx
   clear Hx
   clear hb HCALL
   clear cU0 cU1 cU2 cR0 cR1 cR2
   have hcall := awake_any _ ((HTAB.out.on HB.out).up HB.out.size) (HGM.out.ext HB.out)
   have HCALL := Lib.hid hcall
   clear hcall
   go_wp2_with (go_at_call 10; refine HCALL.out.mono ?_; intro e x5 hx; obtain ⟨rfl, hb⟩ := hx; refine Hid.out ?_)
   refine Lib.hid ?_
   have HBx := Lib.hid (HB.out.trans (hb.mono HB.out.size))
   clear HB
   have HB := HBx
   clear HBx
   have Hx := Lib.hid (HA.out.ext hb)
   clear HA
   have HA := Hx
   clear Hx
   have Hx := Lib.hid (HU.out.ext hb)
   clear HU
   have HU := Hx
   clear Hx
   have Hx := Lib.hid (HR.out.ext hb)
   clear HR
   have HR := Hx
   clear Hx
   clear hb HCALL
   go_wp2
   go_ret
   exact ⟨rfl, HB.out⟩
end Go.Proofs.YtojnnfihpiegoaaDoor
