/-
  cellularlaw13.ReduceChooses: the walk. No condition but that the library's table and the matrices are there.
-/
import Derived.Test.YtojnnfihpiegoaaDoorZCp
import Derived.Test.YtojnnfihpiegoaaDoorZCv
namespace Go.Proofs.YtojnnfihpiegoaaDoor
open Go.RowKit Go.Maps
set_option maxRecDepth 100000
set_option linter.unusedVariables false
set_option linter.unusedSimpArgs false
theorem rchoose_tv {lA : Option Addr} {lc : Nat} {ls : List TrH} {w : World} {v : Value} {t : PT} (h : TreeAt w v t) (hls : Trs w lA ls) (hll : ls.length ≤ 9) (hn : t.ns.length ≤ 12) : Calls Tryd.prog 23 #[v, .slice lA ls.length lc] w (RetAE (chooseT t (ls.map TrH.pt)) w) := by
 obtain ⟨A, c, B, d, os, rfl, h1, h2, h3⟩ := h
 have := rchoose_any t.st A c t.ps B d os lA lc ls w h1 h2 hls hll (by rw [← h3, List.length_map] at hn; exact hn)
 rw [h3, ← choose_eq] at this
 exact this
theorem small_len {t : PT} {n : Nat} (h : smallB t n = true) : t.ns.length ≤ n := by
 unfold smallB at h
 rw [Bool.and_eq_true] at h
 exact Int.ofNat_le.1 (of_decide_eq_true h.2)
theorem pow12 {n : Nat} (h : n ≤ 9) : 12 ^ (n + 1) < 4611686018427387904 := Nat.lt_of_le_of_lt (Nat.pow_le_pow_right (by decide) (by omega : n + 1 ≤ 10)) (by decide)
theorem all_take {α : Type} {p : α → Prop} {l : List α} {i : Nat} (hi : i < l.length) (h : ∀ x ∈ l.take i, p x) (h2 : p l[i]) : ∀ x ∈ l.take (i + 1), p x := by
 intro x hx
 rw [List.take_succ_eq_append_getElem hi, List.mem_append, List.mem_singleton] at hx
 rcases hx with hx | rfl
 ·exact h x hx
 ·exact h2
set_option maxHeartbeats 16000000 in
theorem lawC_any (a : PT) (s1 : Int) (A1 : Option Addr) (n1 c1 : Nat) (B1 : Option Addr) (m1 d1 : Nat) (lA : Option Addr) (lc : Nat) (ls : List TrH) (w : World)
  (ha : TreeAt w (.agg #[.int .i64 s1, .slice A1 n1 c1, .slice B1 m1 d1]) a) (hls : Trs w lA ls) (ht : TabB w.heap.size w) (hg : GMat w) :
  Calls Tryd.prog 5 #[.agg #[.int .i64 s1, .slice A1 n1 c1, .slice B1 m1 d1], .slice lA ls.length lc] w fun e w' => e = .returned (.bool true) ∧ Below w.heap.size w w' := by
 obtain ⟨w0, h1⟩ : ∃ w0, w0 = w.alloc (.cells #[.int .i64 s1, .slice A1 n1 c1, .slice B1 m1 d1] 25) := ⟨_, rfl⟩
 have b1 : Below w.heap.size w w0 := by rw [h1]; exact below_new _ _
 have hv1 := TrV.new ha
 rw [← h1] at hv1
 have HA := Lib.hid hv1
 have HLS := Lib.hid (hls.ext b1)
 have HB := Lib.hid b1
 have HW0 := Lib.hid h1
 have HTAB := Lib.hid ht
 have HGM := Lib.hid hg
 have hlle := hls.le
 clear ha ht hg h1 b1 hv1 hls
 cases hsA : smallB a 12 with
 | false =>
  clear hlle
  obtain ⟨cA0, cA1, cA2⟩ := HA.out.cells
  go_enter Tryd.func5, Tryd.ntmps5
  go_upto_region 1 with fail
  rw [← HW0.out]
  have hcall := small_tv (n := 12) HA.out.at_
  rw [hsA] at hcall
  have HCALL := Lib.hid hcall
  clear hcall
  go_wp2_with (go_at_call 9; refine HCALL.out.mono ?_; intro e x1 hx; obtain ⟨rfl, hb⟩ := hx; refine Hid.out ?_)
  refine Lib.hid ?_
  have HBx := Lib.hid (HB.out.trans (hb.mono HB.out.size))
  clear HB
  have HB := HBx
  clear HBx
  have Hx := Lib.hid (HA.out.ext hb)
  clear HA
  have HA := Hx
  clear Hx
  have Hx := Lib.hid (HLS.out.ext hb)
  clear HLS
  have HLS := Hx
  clear Hx
  clear hb HCALL
  clear cA0 cA1 cA2
  clear hsA
  have hcall := awake_any _ ((HTAB.out.on HB.out).up HB.out.size) (HGM.out.ext HB.out)
  have HCALL := Lib.hid hcall
  clear hcall
  go_wp2_with (go_at_call 10; refine HCALL.out.mono ?_; intro e x2 hx; obtain ⟨rfl, hb⟩ := hx; refine Hid.out ?_)
  refine Lib.hid ?_
  have HBx := Lib.hid (HB.out.trans (hb.mono HB.out.size))
  clear HB
  have HB := HBx
  clear HBx
  have Hx := Lib.hid (HA.out.ext hb)
  clear HA
  have HA := Hx
  clear Hx
  have Hx := Lib.hid (HLS.out.ext hb)
  clear HLS
  have HLS := Hx
  clear Hx
  clear hb HCALL
  go_wp2
  go_ret
  exact ⟨rfl, HB.out⟩
 | true =>
  have HN12 : Hid (a.ns.length ≤ 12) := Lib.hid (small_len (n := 12) hsA)
  by_cases h9 : 9 < ls.length
  ·have d1 : decide ((9 : Int) < (ls.length : Int)) = true := decide_eq_true (by omega)
   have d2 : decide (9 < ls.length) = true := decide_eq_true h9
   clear h9
   obtain ⟨cA0, cA1, cA2⟩ := HA.out.cells
   go_enter Tryd.func5, Tryd.ntmps5
   go_upto_region 1 with fail
   rw [← HW0.out]
   have hcall := small_tv (n := 12) HA.out.at_
   rw [hsA] at hcall
   have HCALL := Lib.hid hcall
   clear hcall
   go_wp2_with (go_at_call 9; refine HCALL.out.mono ?_; intro e x1 hx; obtain ⟨rfl, hb⟩ := hx; refine Hid.out ?_)
   refine Lib.hid ?_
   have HBx := Lib.hid (HB.out.trans (hb.mono HB.out.size))
   clear HB
   have HB := HBx
   clear HBx
   have Hx := Lib.hid (HA.out.ext hb)
   clear HA
   have HA := Hx
   clear Hx
   have Hx := Lib.hid (HLS.out.ext hb)
   clear HLS
   have HLS := Hx
   clear Hx
   clear hb HCALL
   clear cA0 cA1 cA2
   go_upto_region 2 with fail
   clear hsA
   have hcall := awake_any _ ((HTAB.out.on HB.out).up HB.out.size) (HGM.out.ext HB.out)
   have HCALL := Lib.hid hcall
   clear hcall
   go_wp2_with (go_at_call 10; refine HCALL.out.mono ?_; intro e x2 hx; obtain ⟨rfl, hb⟩ := hx; refine Hid.out ?_)
   refine Lib.hid ?_
   have HBx := Lib.hid (HB.out.trans (hb.mono HB.out.size))
   clear HB
   have HB := HBx
   clear HBx
   have Hx := Lib.hid (HA.out.ext hb)
   clear HA
   have HA := Hx
   clear Hx
   have Hx := Lib.hid (HLS.out.ext hb)
   clear HLS
   have HLS := Hx
   clear Hx
   clear hb HCALL
   go_wp2
   go_ret
   exact ⟨rfl, HB.out⟩
  ·have HL9 : Hid (ls.length ≤ 9) := Lib.hid (Nat.le_of_not_lt h9)
   have d1 : decide ((9 : Int) < (ls.length : Int)) = false := decide_eq_false (by omega)
   have d2 : decide (9 < ls.length) = false := decide_eq_false h9
   clear h9
   obtain ⟨cA0, cA1, cA2⟩ := HA.out.cells
   go_enter Tryd.func5, Tryd.ntmps5
   go_upto_region 1 with fail
   rw [← HW0.out]
   have hcall := small_tv (n := 12) HA.out.at_
   rw [hsA] at hcall
   have HCALL := Lib.hid hcall
   clear hcall
   go_wp2_with (go_at_call 9; refine HCALL.out.mono ?_; intro e x1 hx; obtain ⟨rfl, hb⟩ := hx; refine Hid.out ?_)
   refine Lib.hid ?_
   have HBx := Lib.hid (HB.out.trans (hb.mono HB.out.size))
   clear HB
   have HB := HBx
   clear HBx
   have Hx := Lib.hid (HA.out.ext hb)
   clear HA
   have HA := Hx
   clear Hx
   have Hx := Lib.hid (HLS.out.ext hb)
   clear HLS
   have HLS := Hx
   clear Hx
   clear hb HCALL
   clear cA0 cA1 cA2
   go_upto_region 3 with fail
   clear d1 d2 hsA
   obtain ⟨wL, hwL⟩ : ∃ W, W = x1 := ⟨_, rfl⟩
   rw [← hwL] at HB HA HLS ⊢
   clear hwL
   go_wp2
   go_loopw [21] (fun iv wr => ∃ i : Nat, i ≤ ls.length ∧ iv = .int .i64 i ∧ Hid (Below wL.heap.size wL wr) ∧ Hid (∀ t ∈ ls.take i, t.hs.length ≤ 12)) (fun iv _ => ls.length - (intOf iv).toNat)
   case atStart => exact ⟨0, Nat.zero_le _, rfl, Lib.hid (Below.refl _ _), Lib.hid (fun t h => absurd h (by simp))⟩
   case round =>
    obtain ⟨i, hi, rfl, HBI, HALL⟩ := hrel
    have hwi : wrap64 ((i : Int) + 1) = (i : Int) + 1 := by have := HL9.out; unfold wrap64; omega
    have hb := HBI.out
    have HBx := Lib.hid (HB.out.trans (hb.mono HB.out.size))
    clear HB
    have HB := HBx
    clear HBx
    have Hx := Lib.hid (HA.out.ext hb)
    clear HA
    have HA := Hx
    clear Hx
    have Hx := Lib.hid (HLS.out.ext hb)
    clear HLS
    have HLS := Hx
    clear Hx
    clear hb
    by_cases hil : i < ls.length
    ·obtain ⟨tb, tof, etA, -, h0, h1, h2, hpx, hnx⟩ := HLS.out.at_ hil
     have HST := Lib.hid (fun h => all_take (p := fun t : TrH => t.hs.length ≤ 12) hil HALL.out h)
     obtain ⟨x, hx⟩ : ∃ x, x = ls[i] := ⟨_, rfl⟩
     have HIL := Lib.hid hil
     rw [← hx] at h0 h1 h2 hpx hnx HST
     obtain ⟨xst, xhA, xps, xhc, xnA, xhs, xnc⟩ := x
     dsimp only at h0 h1 h2 hpx hnx HST
     have hxat : TreeAt wr (.agg #[.int .i64 xst, .slice xhA xps.length xhc, .slice xnA xhs.length xnc]) (TrH.pt ⟨xst, xhA, xps, xhc, xnA, xhs, xnc⟩) := ⟨xhA, xhc, xnA, xnc, xhs, rfl, hpx, hnx, rfl⟩
     obtain ⟨xp, hxp⟩ : ∃ xp, xp = TrH.pt ⟨xst, xhA, xps, xhc, xnA, xhs, xnc⟩ := ⟨_, rfl⟩
     rw [← hxp] at hxat
     have HXL : Hid (xp.ns.length = xhs.length) := Lib.hid (by rw [hxp]; exact List.length_map _)
     have HXAT := Lib.hid hxat
     subst etA
     clear hx hpx hnx hxat hxp
     cases hsx : smallB xp 12 with
     | false =>
      have hcall := small_tv (n := 12) HXAT.out
      rw [hsx] at hcall
      have HCALL := Lib.hid hcall
      clear hcall
      go_wp2_with (go_at_call 9; refine HCALL.out.mono ?_; intro e x2 hx; obtain ⟨rfl, hb⟩ := hx; refine Hid.out ?_)
      refine Lib.hid ?_
      have HBx := Lib.hid (HB.out.trans (hb.mono HB.out.size))
      clear HB
      have HB := HBx
      clear HBx
      have Hx := Lib.hid (HA.out.ext hb)
      clear HA
      have HA := Hx
      clear Hx
      have Hx := Lib.hid (HLS.out.ext hb)
      clear HLS
      have HLS := Hx
      clear Hx
      clear hb HCALL
      clear hsx h0 h1 h2
      have hcall := awake_any _ ((HTAB.out.on HB.out).up HB.out.size) (HGM.out.ext HB.out)
      have HCALL := Lib.hid hcall
      clear hcall
      go_wp2_with (go_at_call 10; refine HCALL.out.mono ?_; intro e x3 hx; obtain ⟨rfl, hb⟩ := hx; refine Hid.out ?_)
      refine Lib.hid ?_
      have HBx := Lib.hid (HB.out.trans (hb.mono HB.out.size))
      clear HB
      have HB := HBx
      clear HBx
      have Hx := Lib.hid (HA.out.ext hb)
      clear HA
      have HA := Hx
      clear Hx
      have Hx := Lib.hid (HLS.out.ext hb)
      clear HLS
      have HLS := Hx
      clear Hx
      clear hb HCALL
      go_wp2
      go_ret
      exact ⟨rfl, HB.out⟩
     | true =>
      have HX12 : Hid (xhs.length ≤ 12) := Lib.hid (by rw [← HXL.out]; exact small_len (n := 12) hsx)
      have hcall := small_tv (n := 12) HXAT.out
      rw [hsx] at hcall
      have HCALL := Lib.hid hcall
      clear hcall
      go_wp2_with (go_at_call 9; refine HCALL.out.mono ?_; intro e x2 hx; obtain ⟨rfl, hb⟩ := hx; refine Hid.out ?_)
      refine Lib.hid ?_
      have HB9 : Hid (Below wL.heap.size wL x2) := Lib.hid (HBI.out.trans (hb.mono HBI.out.size))
      clear hb hsx h0 h1 h2 HCALL
      go_wp2
      go_roundw
      case rel => exact ⟨i + 1, HIL.out, (by first | rfl | (rw [hwi]; rfl)), HB9, Lib.hid (HST.out HX12.out)⟩
      case measure => (try rw [hwi]); exact meas_step HIL.out
    ·have hie : i = ls.length := Nat.le_antisymm hi (Nat.le_of_not_lt hil)
     have HALL2 : Hid (∀ t ∈ ls, t.hs.length ≤ 12) := Lib.hid (by have := HALL.out; rwa [hie, List.take_of_length_le (Nat.le_refl _)] at this)
     obtain ⟨te, hte⟩ : ∃ te, te = chooseT a (ls.map TrH.pt) := ⟨_, rfl⟩
     have HTE := Lib.hid hte
     have HP12 := Lib.hid (pow12 HL9.out)
     have HL1000 : Hid (ls.length ≤ 1000) := Lib.hid (Nat.le_trans HL9.out (by decide))
     clear hie hte hi hwi HALL
     obtain ⟨cA0, cA1, cA2⟩ := HA.out.cells
     have hcall := choose_tv (lc := lc) HA.out.at_ HLS.out ((HTAB.out.on HB.out).up HB.out.size) HL1000.out 12 HN12.out HALL2.out HP12.out
     rw [← HTE.out] at hcall
     have HCALL := Lib.hid hcall
     clear hcall
     go_wp2_with (go_at_call 22; refine HCALL.out.mono ?_; intro e x2 hx; obtain ⟨s2, A2, n2, c2, B2, m2, d2, rfl, hat, hb⟩ := hx; refine Hid.out ?_)
     refine Lib.hid ?_
     have HBx := Lib.hid (HB.out.trans (hb.mono HB.out.size))
     clear HB
     have HB := HBx
     clear HBx
     have Hx := Lib.hid (HA.out.ext hb)
     clear HA
     have HA := Hx
     clear Hx
     have Hx := Lib.hid (HLS.out.ext hb)
     clear HLS
     have HLS := Hx
     clear Hx
     clear hb HCALL
     clear hil
     clear cA0 cA1 cA2
     obtain ⟨y2, hw⟩ : ∃ W, W = x2.alloc (.cells #[.int .i64 s2, .slice A2 n2 c2, .slice B2 m2 d2] 25) := ⟨_, rfl⟩
     obtain ⟨pU, hp⟩ : ∃ p, p = x2.heap.size := ⟨_, rfl⟩
     have hv := TrV.new hat
     rw [← hw, ← hp] at hv
     have hb : Below x2.heap.size x2 y2 := by rw [hw]; exact below_new _ _
     have HBx := Lib.hid (HB.out.trans (hb.mono HB.out.size))
     clear HB
     have HB := HBx
     clear HBx
     have Hx := Lib.hid (HA.out.ext hb)
     clear HA
     have HA := Hx
     clear Hx
     have Hx := Lib.hid (HLS.out.ext hb)
     clear HLS
     have HLS := Hx
     clear Hx
     have HU := Lib.hid hv
     clear hv hb hat
     go_upto_region 10 with fail
     rw [← hw, ← hp]
     clear hw hp
     obtain ⟨cA0, cA1, cA2⟩ := HA.out.cells
     have hcall := rchoose_tv (lc := lc) HA.out.at_ HLS.out HL9.out HN12.out
     rw [← HTE.out] at hcall
     have HCALL := Lib.hid hcall
     clear hcall
     go_wp2_with (go_at_call 23; refine HCALL.out.mono ?_; intro e x3 hx; obtain ⟨s3, A3, n3, c3, B3, m3, d3, rfl, hat, hb⟩ := hx; refine Hid.out ?_)
     refine Lib.hid ?_
     have HBx := Lib.hid (HB.out.trans (hb.mono HB.out.size))
     clear HB
     have HB := HBx
     clear HBx
     have Hx := Lib.hid (HA.out.ext hb)
     clear HA
     have HA := Hx
     clear Hx
     have Hx := Lib.hid (HU.out.ext hb)
     clear HU
     have HU := Hx
     clear Hx
     have Hx := Lib.hid (HLS.out.ext hb)
     clear HLS
     have HLS := Hx
     clear Hx
     clear hb HCALL
     clear cA0 cA1 cA2
     obtain ⟨y3, hw⟩ : ∃ W, W = x3.alloc (.cells #[.int .i64 s3, .slice A3 n3 c3, .slice B3 m3 d3] 25) := ⟨_, rfl⟩
     obtain ⟨pR, hp⟩ : ∃ p, p = x3.heap.size := ⟨_, rfl⟩
     have hv := TrV.new hat
     rw [← hw, ← hp] at hv
     have hb : Below x3.heap.size x3 y3 := by rw [hw]; exact below_new _ _
     have HBx := Lib.hid (HB.out.trans (hb.mono HB.out.size))
     clear HB
     have HB := HBx
     clear HBx
     have Hx := Lib.hid (HA.out.ext hb)
     clear HA
     have HA := Hx
     clear Hx
     have Hx := Lib.hid (HU.out.ext hb)
     clear HU
     have HU := Hx
     clear Hx
     have Hx := Lib.hid (HLS.out.ext hb)
     clear HLS
     have HLS := Hx
     clear Hx
     have HR := Lib.hid hv
     clear hv hb hat
     go_upto_region 11 with fail
     rw [← hw, ← hp]
     clear hw hp
     obtain ⟨cU0, cU1, cU2⟩ := HU.out.cells
     obtain ⟨cR0, cR1, cR2⟩ := HR.out.cells
     have hcall := rsamet_at HU.out.at_ HR.out.at_
     rw [ex_same] at hcall
     have HCALL := Lib.hid hcall
     clear hcall
     go_wp2_with (go_at_call 11; refine HCALL.out.mono ?_; intro e x4 hx; obtain ⟨rfl, hb⟩ := hx; refine Hid.out ?_)
     refine Lib.hid ?_
     have HBx := Lib.hid (HB.out.trans (hb.mono HB.out.size))
     clear HB
     have HB := HBx
     clear HBx
     have Hx := Lib.hid (HA.out.ext hb)
     clear HA
     have HA := Hx
     clear Hx
     have Hx := Lib.hid (HU.out.ext hb)
     clear HU
     have HU := Hx
     clear Hx
     have Hx := Lib.hid (HR.out.ext hb)
     clear HR
     have HR := Hx
     clear Hx
     have Hx := Lib.hid (HLS.out.ext hb)
     clear HLS
     have HLS := Hx
     clear Hx
     clear hb HCALL
     clear cU0 cU1 cU2 cR0 cR1 cR2
     have hcall := awake_any _ ((HTAB.out.on HB.out).up HB.out.size) (HGM.out.ext HB.out)
     have HCALL := Lib.hid hcall
     clear hcall
     go_wp2_with (go_at_call 10; refine HCALL.out.mono ?_; intro e x5 hx; obtain ⟨rfl, hb⟩ := hx; refine Hid.out ?_)
     refine Lib.hid ?_
     have HBx := Lib.hid (HB.out.trans (hb.mono HB.out.size))
     clear HB
     have HB := HBx
     clear HBx
     have Hx := Lib.hid (HA.out.ext hb)
     clear HA
     have HA := Hx
     clear Hx
     have Hx := Lib.hid (HU.out.ext hb)
     clear HU
     have HU := Hx
     clear Hx
     have Hx := Lib.hid (HR.out.ext hb)
     clear HR
     have HR := Hx
     clear Hx
     have Hx := Lib.hid (HLS.out.ext hb)
     clear HLS
     have HLS := Hx
     clear Hx
     clear hb HCALL
     go_wp2
     go_ret
     exact ⟨rfl, HB.out⟩
end Go.Proofs.YtojnnfihpiegoaaDoor
