/-
  cellularref14.Sums = totaltree.Sums. No condition but that numbers are those of Go.
  cellularref14.Elementary = totaltree.Elementary. No condition.
  How many nodes totaltree.build makes: at most as many as there are places. No condition.
  The tree of a rule by counts in plain lists: valid, nothing left to be reduced, it leads to what the counts define. No condition.
  The order of the neighbours does not count. No condition.
-/
import Derived.Test.YtmlhkbgifnifdaaDoorZRRow
import Derived.Test.YtmlhkbgifnifdaaDoorZG5
import Derived.Test.YtmlhkbgifnifdaaDoorZG22
import Derived.Test.YtmlhkbgifnifdaaDoorZBack
namespace Go.Proofs.YtmlhkbgifnifdaaDoor
open Go.RowKit Go.Maps
set_option maxRecDepth 100000
set_option linter.unusedVariables false
set_option linter.unusedSimpArgs false

theorem get_eq {l : List Int} {k k' : Nat} (e : k = k') (h : k' < l.length) : ∃ h2 : k < l.length, l[k]'h2 = l.getD k' 0 := by
  subst e
  exact ⟨h, by rw [List.getD_eq_getElem?_getD, List.getElem?_eq_getElem h]; rfl⟩
def fE (n : Int) (x y z : Nat) : Int := (elemL n).getD (4 * x + 2 * y + z) 0
theorem fE_rng (n : Int) : ∀ x y z, x < 2 → y < 2 → z < 2 → 0 ≤ fE n x y z ∧ fE n x y z < ((2 : Nat) : Int) := fun x y z hx hy hz =>
  elemL_rng n _ (getD_mem (by rw [elemL_len]; omega))
theorem elem_can (n : Int) : Can 2 3 (bld (sysE n) 3 0 ([], [])).2.2 ∧ ∀ a b c, a < 2 → b < 2 → c < 2 → val (bld (sysE n) 3 0 ([], [])).2.2 (((bld (sysE n) 3 0 ([], [])).2.2.length - 1 : Nat) : Int) [a, b, c] = fE n a b c := by
  obtain ⟨h1, h2⟩ := bld_can (Y := sysE n) (R := rngE) (rngE_step n) (rngE_fin n) (show 1 ≤ 3 by decide) (show 3 ≤ 100 by decide) (s := (0 : Int)) ⟨by decide, by decide, by decide⟩
  refine ⟨h1, fun a b c ha hb hc => ?_⟩
  rw [show (bld (sysE n) 3 0 ([], [])) = (bld (sysE n) (sysE n).L 0 ([], [])) from rfl, h2 [a, b, c] rfl (fun t ht => by
    simp at ht
    show t < 2
    rcases ht with rfl | rfl | rfl <;> assumption)]
  show (elemL n).getD (2 * (2 * (2 * (0 : Int) + (a : Int)) + (b : Int)) + (c : Int)).toNat 0 = (elemL n).getD (4 * a + 2 * b + c) 0
  congr 1
  omega
theorem elem_red (n : Int) : redT ⟨2, rowP, rowN 2 (fE n)⟩ = ⟨2, rowP, (bld (sysE n) 3 0 ([], [])).2.2⟩ :=
  row_red (q := 2) (by decide) (by decide) (fE_rng n) (elem_can n).1 (elem_can n).2
def fS (q n : Int) (x y z : Nat) : Int := (digsT q n).1.getD (x + y + z) 0
theorem fS_rng {q n : Int} (hk : okS q n) : ∀ x y z, x < q.toNat → y < q.toNat → z < q.toNat → 0 ≤ fS q n x y z ∧ fS q n x y z < ((q.toNat : Nat) : Int) := fun x y z hx hy hz => by
  have h := hk.2.2.2 _ (getD_mem (s := x + y + z) (by rw [hk.2.2.1]; have := hk.1; omega))
  have := hk.1
  unfold fS
  omega
theorem sums_can {q n : Int} (hk : okS q n) : Can q.toNat 3 (bld (sysS q n) 3 0 ([], [])).2.2 ∧ ∀ a b c, a < q.toNat → b < q.toNat → c < q.toNat → val (bld (sysS q n) 3 0 ([], [])).2.2 (((bld (sysS q n) 3 0 ([], [])).2.2.length - 1 : Nat) : Int) [a, b, c] = fS q n a b c := by
  obtain ⟨h1, h2⟩ := bld_can (Y := sysS q n) (R := rngS q) (rngS_step hk) (rngS_fin hk) (show 1 ≤ 3 by decide) (show 3 ≤ 100 by decide) (s := (0 : Int)) ⟨by decide, by have := hk.1; omega, by decide⟩
  refine ⟨h1, fun a b c ha hb hc => ?_⟩
  rw [show (bld (sysS q n) 3 0 ([], [])) = (bld (sysS q n) (sysS q n).L 0 ([], [])) from rfl, h2 [a, b, c] rfl (fun t ht => by
    simp at ht
    show t < q.toNat
    rcases ht with rfl | rfl | rfl <;> assumption)]
  show (digsT q n).1.getD ((0 : Int) + (a : Int) + (b : Int) + (c : Int)).toNat 0 = (digsT q n).1.getD (a + b + c) 0
  congr 1
  omega
theorem sums_red {q n : Int} (hk : okS q n) : redT ⟨q, rowP, rowN q.toNat (fS q n)⟩ = ⟨q, rowP, (bld (sysS q n) 3 0 ([], [])).2.2⟩ := by
  have h := row_red (q := q.toNat) (by have := hk.1; omega) (by have := hk.2.1; omega) (fS_rng hk) (sums_can hk).1 (sums_can hk).2
  rwa [show ((q.toNat : Nat) : Int) = q by have := hk.1; omega] at h
set_option maxHeartbeats 8000000 in
theorem rsums_any (q n : Int) (w : World) (hn : n ≤ 9223372036854775807) : Calls Tryd.prog 14 #[.int .i64 q, .int .i64 n] w (RetAE (sumT q n) w) := by
  obtain ⟨w0, hw0⟩ : ∃ w0, w0 = w.alloc (.cells #[.int .i64 0, .slice none 0 0, .slice none 0 0] 31) := ⟨_, rfl⟩
  have hb0 : Below w.heap.size w w0 := by rw [hw0]; exact below_new _ _
  have q0 : Blk w0 w.heap.size 31 #[.int .i64 0, .slice none 0 0, .slice none 0 0] := by rw [hw0]; exact Blk.new _ _ _
  have HEL := Lib.hid (rdigits_any q n w0 hn)
  have HW0 := Lib.hid hw0
  have HB0 := Lib.hid hb0
  have HQ0 := Lib.hid q0
  unfold RetIE at HEL
  clear hw0 hb0 q0 hn
  obtain ⟨l, hl⟩ : ∃ l, l = (digsT q n).1 := ⟨_, rfl⟩
  obtain ⟨er, her⟩ : ∃ er, er = (digsT q n).2 := ⟨_, rfl⟩
  have HLD := Lib.hid (And.intro hl her)
  rw [← hl, ← her] at HEL
  by_cases hok : er = 0
  case neg =>
    have HE : Hid (sumT q n = (PT.zero, er)) := Lib.hid (by unfold sumT; rw [← her, if_neg hok])
    have hne : (er != 0) = true := by simp [hok]
    clear hl her
    go_enter Tryd.func14, Tryd.ntmps14
    go_upto_region 1 with fail
    rw [← HW0.out]
    go_wp2_with (go_at_call 16; refine HEL.out.mono ?_; intro e w9 hx9; obtain ⟨dA, dc, rfl, hdi, hb9⟩ := hx9; refine Hid.out ?_)
    refine Lib.hid ?_
    have HQX := Lib.hid (HQ0.out.below hb9 HQ0.out.lt)
    have HBX : Hid (Below w.heap.size w w9) := Lib.hid (HB0.out.trans (hb9.mono HB0.out.size))
    have d0 := HQX.out.cell_ 0 (.int .i64 0) rfl
    have d1 := HQX.out.cell_ 1 (.slice none 0 0) rfl
    have d2 := HQX.out.cell_ 2 (.slice none 0 0) rfl
    have f0 := HQX.out.frozen 0
    have f1 := HQX.out.frozen 1
    have f2 := HQX.out.frozen 2
    clear hb9 hdi HEL
    go_wp2
    have hq : Blk (((w9.setCell ⟨w.heap.size, 0, none⟩ (.int .i64 0)).setCell ⟨w.heap.size, 1, none⟩ (.slice none 0 0)).setCell ⟨w.heap.size, 2, none⟩ (.slice none 0 0)) w.heap.size 31 #[.int .i64 0, .slice none 0 0, .slice none 0 0] := ((HQX.out.set_ 0 (.int .i64 0)).set_ 1 (.slice none 0 0)).set_ 2 (.slice none 0 0)
    rw [HE.out]
    exact bodyPost_ret (results_ct Tryd.results14 _ _ w.heap.size 31 #[.int .i64 0, .slice none 0 0, .slice none 0 0] (0, 0) _ rfl hq Tryd.underlying31 rfl Tryd.sizeTree) rfl
      ⟨0, none, 0, 0, none, 0, 0, rfl, ⟨none, 0, none, 0, [], rfl, Pts.nil, Nds.nil, rfl⟩, ((HBX.out.setCell (p := ⟨w.heap.size, 0, none⟩) (Nat.le_refl _) _).setCell (p := ⟨w.heap.size, 1, none⟩) (Nat.le_refl _) _).setCell (p := ⟨w.heap.size, 2, none⟩) (Nat.le_refl _) _⟩
  case pos =>
    have hk := sums_ok (q := q) (n := n) (by rw [← her]; exact hok)
    have HE : Hid (sumT q n = (redT ⟨q, rowP, rowN q.toNat (fS q n)⟩, 0)) := Lib.hid (by unfold sumT; rw [← her, if_pos hok, sums_red hk])
    have HK := Lib.hid hk
    have hqq : ((q.toNat : Nat) : Int) = q := by have := hk.1; omega
    have HQQ := Lib.hid hqq
    have hps := row_ps (q := q.toNat) (f := fS q n) (by have := hk.1; omega) (by have := hk.2.1; omega) (fS_rng hk)
    rw [hqq] at hps
    subst hok
    clear hl her hk hqq
    go_enter Tryd.func14, Tryd.ntmps14
    go_upto_region 1 with fail
    rw [← HW0.out]
    go_wp2_with (go_at_call 16; refine HEL.out.mono ?_; intro e w9 hx9; obtain ⟨dA, dc, rfl, hdi, hb9⟩ := hx9; refine Hid.out ?_)
    refine Lib.hid ?_
    have HQX := Lib.hid (HQ0.out.below hb9 HQ0.out.lt)
    have HBX : Hid (Below w.heap.size w w9) := Lib.hid (HB0.out.trans (hb9.mono HB0.out.size))
    have hrow := rrow_any' q.toNat dA dc l 1 1 1 (fS q n) w9 hdi (by have := HK.out.1; omega) (by have := HK.out.2.1; omega) (by decide) (by decide) (by decide) (fS_rng HK.out) (fun x y z hx hy hz => by
      have hi : ((1 : Int) * (x : Int) + 1 * (y : Int) + 1 * (z : Int)).toNat = x + y + z := by omega
      have hlt : x + y + z < l.length := by rw [HLD.out.1, HK.out.2.2.1]; have := HK.out.1; omega
      unfold fS
      rw [← HLD.out.1]
      exact get_eq hi hlt)
    rw [HQQ.out] at hrow
    obtain ⟨t, ht⟩ : ∃ t, t = redT ⟨q, rowP, rowN q.toNat (fS q n)⟩ := ⟨_, rfl⟩
    rw [← ht] at hrow HE
    have HROW := Lib.hid hrow
    clear hrow ht hps hdi HEL
    have HS9 : Hid (w.heap.size < w9.heap.size) := Lib.hid (Nat.lt_of_lt_of_le HQ0.out.lt hb9.size)
    clear hb9
    go_wp2_with (go_at_call 44; refine HROW.out.mono ?_; intro e wc hx9; obtain ⟨rA, rc, tB, td, os, rfl, hpr, hnr, hno, heo, hbc⟩ := hx9; refine Hid.out ?_)
    refine Lib.hid ?_
    have HNO := Lib.hid hno
    have HEO := Lib.hid heo
    have HPC := Lib.hid (And.intro hpr hnr)
    have HQC := Lib.hid (HQX.out.below hbc HQX.out.lt)
    have HBC : Hid (Below w.heap.size w wc) := Lib.hid (HBX.out.trans (hbc.mono HBX.out.size))
    have d0 := HQC.out.cell_ 0 (.int .i64 0) rfl
    have d1 := HQC.out.cell_ 1 (.slice none 0 0) rfl
    have d2 := HQC.out.cell_ 2 (.slice none 0 0) rfl
    have f0 := HQC.out.frozen 0
    have f1 := HQC.out.frozen 1
    have f2 := HQC.out.frozen 2
    have hpl := hpr.le
    clear hpr hnr hno heo hbc HROW
    go_wp2
    have hk3 : Kept (fun g => g = w.heap.size) wc (((wc.setCell ⟨w.heap.size, 0, none⟩ (.int .i64 t.st)).setCell ⟨w.heap.size, 1, none⟩ (.slice rA t.ps.length rc)).setCell ⟨w.heap.size, 2, none⟩ (.slice tB os.length td)) := (((Kept.refl (fun g => g = w.heap.size) wc).setCell (p := ⟨w.heap.size, 0, none⟩) (Or.inl rfl) _).setCell (p := ⟨w.heap.size, 1, none⟩) (Or.inl rfl) _).setCell (p := ⟨w.heap.size, 2, none⟩) (Or.inl rfl) _
    have hs9 := HS9.out
    have hno := HNO.out.kept hk3 (fun g e1 e2 => by have h1 := (own_lt' HNO.out.1 e1).2; omega) (fun y hy g e1 e2 => by have h1 := (own_lt' (HNO.out.2 y hy) e1).2; omega)
    have hpo := ((HPC.out.1.set_new (p := ⟨w.heap.size, 0, none⟩) HPC.out.2 hs9 (.int .i64 t.st)).set_new (p := ⟨w.heap.size, 1, none⟩) HPC.out.2 hs9 (.slice rA t.ps.length rc)).set_new (p := ⟨w.heap.size, 2, none⟩) HPC.out.2 hs9 (.slice tB os.length td)
    have hbf := ((HBC.out.setCell (p := ⟨w.heap.size, 0, none⟩) (Nat.le_refl _) (.int .i64 t.st)).setCell (p := ⟨w.heap.size, 1, none⟩) (Nat.le_refl _) (.slice rA t.ps.length rc)).setCell (p := ⟨w.heap.size, 2, none⟩) (Nat.le_refl _) (.slice tB os.length td)
    have hq : Blk (((wc.setCell ⟨w.heap.size, 0, none⟩ (.int .i64 t.st)).setCell ⟨w.heap.size, 1, none⟩ (.slice rA t.ps.length rc)).setCell ⟨w.heap.size, 2, none⟩ (.slice tB os.length td)) w.heap.size 31 #[.int .i64 t.st, .slice rA t.ps.length rc, .slice tB os.length td] := ((HQC.out.set_ 0 (.int .i64 t.st)).set_ 1 (.slice rA t.ps.length rc)).set_ 2 (.slice tB os.length td)
    rw [HE.out]
    exact bodyPost_ret (results_ct Tryd.results14 _ _ w.heap.size 31 #[.int .i64 t.st, .slice rA t.ps.length rc, .slice tB os.length td] (0, 0) _ rfl hq Tryd.underlying31 rfl Tryd.sizeTree) rfl
      ⟨t.st, rA, _, rc, tB, _, td, rfl, ⟨rA, rc, tB, td, os, rfl, hpo, OwnN.reads hno, HEO.out⟩, hbf⟩
end Go.Proofs.YtmlhkbgifnifdaaDoor
namespace Go.Proofs.YtmlhkbgifnifdaaDoor
open Go.RowKit Go.Maps
set_option maxRecDepth 100000
set_option linter.unusedVariables false
set_option linter.unusedSimpArgs false

set_option maxHeartbeats 8000000 in
theorem rrelem_any (n : Int) (w : World) : Calls Tryd.prog 18 #[.int .i64 n] w (RetAE (elemT n) w) := by
  obtain ⟨w0, hw0⟩ : ∃ w0, w0 = w.alloc (.cells #[.int .i64 0, .slice none 0 0, .slice none 0 0] 31) := ⟨_, rfl⟩
  have hb0 : Below w.heap.size w w0 := by rw [hw0]; exact below_new _ _
  have q0 : Blk w0 w.heap.size 31 #[.int .i64 0, .slice none 0 0, .slice none 0 0] := by rw [hw0]; exact Blk.new _ _ _
  have HEL := Lib.hid (relem_any n w0)
  have HW0 := Lib.hid hw0
  have HB0 := Lib.hid hb0
  have HQ0 := Lib.hid q0
  obtain ⟨l, hl⟩ : ∃ l, l = arrV (elemL n) := ⟨_, rfl⟩
  have hl8 : ∃ l0 l1 l2 l3 l4 l5 l6 l7, elemL n = [l0, l1, l2, l3, l4, l5, l6, l7] := by
    have := elemL_len n
    generalize elemL n = x at this
    match x, this with
    | [l0, l1, l2, l3, l4, l5, l6, l7], _ => exact ⟨_, _, _, _, _, _, _, _, rfl⟩
  obtain ⟨l0, l1, l2, l3, l4, l5, l6, l7, hl8⟩ := hl8
  have HL8 := Lib.hid hl8
  unfold RetEl at HEL
  have hae : arrV [l0, l1, l2, l3, l4, l5, l6, l7] = #[.int .i64 l0, .int .i64 l1, .int .i64 l2, .int .i64 l3, .int .i64 l4, .int .i64 l5, .int .i64 l6, .int .i64 l7] := rfl
  rw [hl8, hae] at HEL
  clear hw0 hb0 q0 hl hl8 hae
  have HOE := Lib.hid (rfl : okE n = okE n)
  cases hok : okE n with
  | false =>
    have HE : Hid (elemT n = (PT.zero, 5)) := Lib.hid (by unfold elemT; rw [hok]; rfl)
    have he5 : elemE n = 5 := by unfold elemE; rw [hok]; rfl
    rw [he5] at HEL
    clear hok he5
    go_enter Tryd.func18, Tryd.ntmps18
    go_upto_region 1 with fail
    rw [← HW0.out]
    go_wp2_with (go_at_call 19; refine HEL.out.mono ?_; intro e w9 hx9; obtain ⟨rfl, hb9⟩ := hx9; refine Hid.out ?_)
    refine Lib.hid ?_
    obtain ⟨wa, hwa⟩ : ∃ wa, wa = w9.alloc (.cells #[.int .i64 l0, .int .i64 l1, .int .i64 l2, .int .i64 l3, .int .i64 l4, .int .i64 l5, .int .i64 l6, .int .i64 l7] 49) := ⟨_, rfl⟩
    have hba : Below w9.heap.size w9 wa := by rw [hwa]; exact below_new _ _
    have hb9a : Below w0.heap.size w0 wa := hb9.trans (hba.mono hb9.size)
    have HQX := Lib.hid (HQ0.out.below hb9a HQ0.out.lt)
    have HBX : Hid (Below w.heap.size w wa) := Lib.hid (HB0.out.trans (hb9a.mono HB0.out.size))
    have d0 := HQX.out.cell_ 0 (.int .i64 0) rfl
    have d1 := HQX.out.cell_ 1 (.slice none 0 0) rfl
    have d2 := HQX.out.cell_ 2 (.slice none 0 0) rfl
    have f0 := HQX.out.frozen 0
    have f1 := HQX.out.frozen 1
    have f2 := HQX.out.frozen 2
    go_upto_region 2 with fail
    rw [← hwa]
    clear hb9 hba hb9a hwa HEL
    go_wp2
    have hq : Blk (((wa.setCell ⟨w.heap.size, 0, none⟩ (.int .i64 0)).setCell ⟨w.heap.size, 1, none⟩ (.slice none 0 0)).setCell ⟨w.heap.size, 2, none⟩ (.slice none 0 0)) w.heap.size 31 #[.int .i64 0, .slice none 0 0, .slice none 0 0] := ((HQX.out.set_ 0 (.int .i64 0)).set_ 1 (.slice none 0 0)).set_ 2 (.slice none 0 0)
    rw [HE.out]
    exact bodyPost_ret (results_ct Tryd.results18 _ _ w.heap.size 31 #[.int .i64 0, .slice none 0 0, .slice none 0 0] (0, 0) _ rfl hq Tryd.underlying31 rfl Tryd.sizeTree) rfl
      ⟨0, none, 0, 0, none, 0, 0, rfl, ⟨none, 0, none, 0, [], rfl, Pts.nil, Nds.nil, rfl⟩, ((HBX.out.setCell (p := ⟨w.heap.size, 0, none⟩) (Nat.le_refl _) _).setCell (p := ⟨w.heap.size, 1, none⟩) (Nat.le_refl _) _).setCell (p := ⟨w.heap.size, 2, none⟩) (Nat.le_refl _) _⟩
  | true =>
    have HE : Hid (elemT n = (redT ⟨((2 : Nat) : Int), rowP, rowN 2 (fE n)⟩, 0)) := Lib.hid (by rw [show (((2 : Nat) : Int)) = 2 from rfl, elem_red]; unfold elemT; rw [hok]; rfl)
    have he5 : elemE n = 0 := by unfold elemE; rw [hok]; rfl
    rw [he5] at HEL
    clear hok he5
    go_enter Tryd.func18, Tryd.ntmps18
    go_upto_region 1 with fail
    rw [← HW0.out]
    go_wp2_with (go_at_call 19; refine HEL.out.mono ?_; intro e w9 hx9; obtain ⟨rfl, hb9⟩ := hx9; refine Hid.out ?_)
    refine Lib.hid ?_
    obtain ⟨wa, hwa⟩ : ∃ wa, wa = w9.alloc (.cells #[.int .i64 l0, .int .i64 l1, .int .i64 l2, .int .i64 l3, .int .i64 l4, .int .i64 l5, .int .i64 l6, .int .i64 l7] 49) := ⟨_, rfl⟩
    obtain ⟨pX, hpX⟩ : ∃ pX, pX = w9.heap.size := ⟨_, rfl⟩
    have hba : Below w9.heap.size w9 wa := by rw [hwa]; exact below_new _ _
    have hX : Blk wa pX 49 (arrV (elemL n)) := by rw [hwa, hpX, HL8.out]; exact Blk.new _ _ _
    have hb9a : Below w0.heap.size w0 wa := hb9.trans (hba.mono hb9.size)
    have HBX : Hid (Below w0.heap.size w0 wa) := Lib.hid hb9a
    have HXX := Lib.hid hX
    have HQX := Lib.hid (HQ0.out.below hb9a HQ0.out.lt)
    have HBX0 := Lib.hid HBX.out
    have HBX : Hid (Below w.heap.size w wa) := Lib.hid (HB0.out.trans (hb9a.mono HB0.out.size))
    have hint : Ints wa (some ⟨pX, 0, none⟩) (elemL n) := ⟨⟨by simp, fun _ => ⟨⟨pX, 0, none⟩, rfl, hX.lt, fun j u hj => by
      rw [addr_add]
      have := hX.cell_ j u (by unfold arrV; simpa using hj)
      simpa using this⟩⟩, by rw [elemL_len]; decide⟩
    have hrow := rrow_any' 2 (some ⟨pX, 0, none⟩) 8 (elemL n) 4 2 1 (fE n) wa hint (by decide) (by decide) (by decide) (by decide) (by decide) (fE_rng n) (fun x y z hx hy hz => by
      have hi : ((4 : Int) * (x : Int) + 2 * (y : Int) + 1 * (z : Int)).toNat = 4 * x + 2 * y + z := by omega
      have hlt : 4 * x + 2 * y + z < (elemL n).length := by rw [elemL_len]; omega
      exact get_eq hi hlt)
    rw [elemL_len] at hrow
    obtain ⟨t, ht⟩ : ∃ t, t = redT ⟨((2 : Nat) : Int), rowP, rowN 2 (fE n)⟩ := ⟨_, rfl⟩
    rw [← ht] at hrow HE
    have HROW := Lib.hid hrow
    clear hrow ht HEL
    have HS9 : Hid (w.heap.size < wa.heap.size) := Lib.hid (Nat.lt_of_lt_of_le HQ0.out.lt hb9a.size)
    go_upto_region 2 with fail
    rw [← hwa, ← hpX]
    clear hb9 hba hb9a hwa hpX hX hint
    go_wp2_with (go_at_call 44; refine HROW.out.mono ?_; intro e wc hx9; obtain ⟨rA, rc, tB, td, os, rfl, hpr, hnr, hno, heo, hbc⟩ := hx9; refine Hid.out ?_)
    refine Lib.hid ?_
    have HNO := Lib.hid hno
    have HEO := Lib.hid heo
    have HPC := Lib.hid (And.intro hpr hnr)
    have HQC := Lib.hid (HQX.out.below hbc HQX.out.lt)
    have HBC : Hid (Below w.heap.size w wc) := Lib.hid (HBX.out.trans (hbc.mono HBX.out.size))
    have d0 := HQC.out.cell_ 0 (.int .i64 0) rfl
    have d1 := HQC.out.cell_ 1 (.slice none 0 0) rfl
    have d2 := HQC.out.cell_ 2 (.slice none 0 0) rfl
    have f0 := HQC.out.frozen 0
    have f1 := HQC.out.frozen 1
    have f2 := HQC.out.frozen 2
    have hpl := hpr.le
    clear hpr hnr hno heo hbc HROW
    go_wp2
    have hk3 : Kept (fun g => g = w.heap.size) wc (((wc.setCell ⟨w.heap.size, 0, none⟩ (.int .i64 t.st)).setCell ⟨w.heap.size, 1, none⟩ (.slice rA t.ps.length rc)).setCell ⟨w.heap.size, 2, none⟩ (.slice tB os.length td)) := (((Kept.refl (fun g => g = w.heap.size) wc).setCell (p := ⟨w.heap.size, 0, none⟩) (Or.inl rfl) _).setCell (p := ⟨w.heap.size, 1, none⟩) (Or.inl rfl) _).setCell (p := ⟨w.heap.size, 2, none⟩) (Or.inl rfl) _
    have hs9 := HS9.out
    have hno := HNO.out.kept hk3 (fun g e1 e2 => by have h1 := (own_lt' HNO.out.1 e1).2; omega) (fun y hy g e1 e2 => by have h1 := (own_lt' (HNO.out.2 y hy) e1).2; omega)
    have hpo := ((HPC.out.1.set_new (p := ⟨w.heap.size, 0, none⟩) HPC.out.2 hs9 (.int .i64 t.st)).set_new (p := ⟨w.heap.size, 1, none⟩) HPC.out.2 hs9 (.slice rA t.ps.length rc)).set_new (p := ⟨w.heap.size, 2, none⟩) HPC.out.2 hs9 (.slice tB os.length td)
    have hbf := ((HBC.out.setCell (p := ⟨w.heap.size, 0, none⟩) (Nat.le_refl _) (.int .i64 t.st)).setCell (p := ⟨w.heap.size, 1, none⟩) (Nat.le_refl _) (.slice rA t.ps.length rc)).setCell (p := ⟨w.heap.size, 2, none⟩) (Nat.le_refl _) (.slice tB os.length td)
    have hq : Blk (((wc.setCell ⟨w.heap.size, 0, none⟩ (.int .i64 t.st)).setCell ⟨w.heap.size, 1, none⟩ (.slice rA t.ps.length rc)).setCell ⟨w.heap.size, 2, none⟩ (.slice tB os.length td)) w.heap.size 31 #[.int .i64 t.st, .slice rA t.ps.length rc, .slice tB os.length td] := ((HQC.out.set_ 0 (.int .i64 t.st)).set_ 1 (.slice rA t.ps.length rc)).set_ 2 (.slice tB os.length td)
    rw [HE.out]
    exact bodyPost_ret (results_ct Tryd.results18 _ _ w.heap.size 31 #[.int .i64 t.st, .slice rA t.ps.length rc, .slice tB os.length td] (0, 0) _ rfl hq Tryd.underlying31 rfl Tryd.sizeTree) rfl
      ⟨t.st, rA, _, rc, tB, _, td, rfl, ⟨rA, rc, tB, td, os, rfl, hpo, OwnN.reads hno, HEO.out⟩, hbf⟩
end Go.Proofs.YtmlhkbgifnifdaaDoor
namespace Go.Proofs.YtmlhkbgifnifdaaDoor
set_option linter.unusedVariables false
set_option linter.unusedSimpArgs false

/-- different numbers below N are at most N -/
theorem pigeon : ∀ (N : Nat) (l : List Nat), l.Nodup → (∀ x ∈ l, x < N) → l.length ≤ N
  | 0, l, _, h => by
    cases l with
    | nil => simp
    | cons x r => exact absurd (h x (by simp)) (by omega)
  | N + 1, l, hn, h => by
    have h1 := pigeon N (l.erase N) (hn.erase N) (fun x hx => by
      have h2 := h x (List.mem_of_mem_erase hx)
      have : x ≠ N := by
        rintro rfl
        exact (List.Nodup.not_mem_erase hn) hx
      omega)
    have h3 : l.length ≤ (l.erase N).length + 1 := by
      rw [List.length_erase]
      split <;> omega
    omega
theorem nodup_map {α β : Type} {f : α → β} : ∀ {l : List α}, l.Nodup → (∀ x ∈ l, ∀ y ∈ l, f x = f y → x = y) → (l.map f).Nodup
  | [], _, _ => by simp
  | x :: r, hn, h => by
    rw [List.nodup_cons] at hn
    rw [List.map_cons, List.nodup_cons]
    refine ⟨fun hm => ?_, nodup_map hn.2 fun a ha b hb => h a (by simp [ha]) b (by simp [hb])⟩
    obtain ⟨y, hy, e⟩ := List.mem_map.1 hm
    have := h y (by simp [hy]) x (by simp) e
    subst this
    exact hn.1 hy
section
variable {S : Type} [DecidableEq S] {Y : Sys S} {R : Nat → S → Prop}
structure BN (Y : Sys S) (R : Nat → S → Prop) (b : BS S) : Prop where
  nd : (b.1.map Prod.fst).Nodup
  rg : ∀ y ∈ b.1, R y.1.1 y.1.2 ∧ y.1.1 < Y.L
  le : b.2.length ≤ b.1.length
omit [DecidableEq S] in
theorem BN.nil : BN Y R ([], []) := ⟨by simp, fun y h => absurd h (by simp), Nat.le_refl _⟩
theorem bld_n (hR : ∀ a s t, R a s → a < Y.L → t < Y.q → R (a + 1) (Y.step s a t)) (hF : ∀ s, R Y.L s → 0 ≤ Y.fin s ∧ Y.fin s < (Y.q : Int)) :
    ∀ (n : Nat), n ≤ Y.L → ∀ (s : S) (b : BS S), R (Y.L - n) s → BI Y b → BN Y R b → BN Y R (bld Y n s b).2
  | 0, hn, s, b, hr, hb, h => h
  | n + 1, hn, s, b, hr, hb, h => by
    unfold bld
    cases hlk : lookS b.1 (Y.L - (n + 1), s) with
    | some k => exact h
    | none =>
      dsimp only
      have key : ∀ j, j ≤ Y.q → BN Y R (kidsB (bld Y n) (fun t => Y.step s (Y.L - (n + 1)) t) j b).2 := by
        intro j
        induction j with
        | zero => intro _; exact h
        | succ j ih =>
          intro hj
          have hk := kids_ok hR hF hn hr hb j (by omega)
          refine bld_n hR hF n (by omega) _ _ ?_ hk.i (ih (by omega))
          have := hR _ s j hr (by omega) (by omega)
          rwa [show Y.L - (n + 1) + 1 = Y.L - n by omega] at this
      have hk := kids_ok hR hF hn hr hb Y.q (Nat.le_refl _)
      have hN := key Y.q (Nat.le_refl _)
      have hl := kids_look (a := Y.L - (n + 1)) hk (by omega) hlk
      refine ⟨?_, fun y hy => ?_, ?_⟩
      · dsimp only
        rw [List.map_append, List.nodup_append]
        refine ⟨hN.nd, by simp, fun x hx y hy => ?_⟩
        obtain ⟨e, he, rfl⟩ := List.mem_map.1 hx
        simp only [List.map_cons, List.map_nil, List.mem_singleton] at hy
        subst hy
        intro e2
        obtain ⟨p, k⟩ := e
        dsimp only at e2
        subst e2
        exact lookS_none hl k he
      · dsimp only at hy
        rcases List.mem_append.1 hy with hy | hy
        · exact hN.rg y hy
        · rw [List.mem_singleton.1 hy]
          exact ⟨hr, by dsimp only; omega⟩
      · dsimp only
        rw [List.length_append, List.length_singleton]
        have := hN.le
        rcases addN_cases (kidsB (bld Y n) (fun t => Y.step s (Y.L - (n + 1)) t) Y.q b).2.2 (((n + 1 : Nat) : Int), (kidsB (bld Y n) (fun t => Y.step s (Y.L - (n + 1)) t) Y.q b).1) with ⟨i, ha, -, -⟩ | ⟨ha, -⟩
        · rw [ha]; dsimp only; omega
        · rw [ha]; dsimp only; rw [List.length_append, List.length_singleton]; omega
/-- places that are told apart by numbers below N -/
theorem bld_size (hR : ∀ a s t, R a s → a < Y.L → t < Y.q → R (a + 1) (Y.step s a t)) (hF : ∀ s, R Y.L s → 0 ≤ Y.fin s ∧ Y.fin s < (Y.q : Int)) {s : S} (hr : R 0 s) (N : Nat) (code : Nat × S → Nat)
    (hc : ∀ a s, R a s → a < Y.L → code (a, s) < N) (hi : ∀ a s a' s', R a s → a < Y.L → R a' s' → a' < Y.L → code (a, s) = code (a', s') → a = a' ∧ s = s') : (bld Y Y.L s ([], [])).2.2.length ≤ N := by
  have h := bld_n hR hF Y.L (Nat.le_refl _) s ([], []) (by rw [Nat.sub_self]; exact hr) (BI.nil Y) BN.nil
  refine Nat.le_trans h.le ?_
  have h1 : (((bld Y Y.L s ([], [])).2.1.map Prod.fst).map code).Nodup := nodup_map h.nd (fun x hx y hy e => by
    obtain ⟨u, hu, rfl⟩ := List.mem_map.1 hx
    obtain ⟨v, hv, rfl⟩ := List.mem_map.1 hy
    obtain ⟨u1, u2⟩ := h.rg u hu
    obtain ⟨v1, v2⟩ := h.rg v hv
    obtain ⟨e1, e2⟩ := hi _ _ _ _ u1 u2 v1 v2 e
    exact Prod.ext e1 e2)
  have h2 := pigeon N _ h1 (fun x hx => by
    obtain ⟨p, hp, rfl⟩ := List.mem_map.1 hx
    obtain ⟨u, hu, rfl⟩ := List.mem_map.1 hp
    obtain ⟨u1, u2⟩ := h.rg u hu
    exact hc _ _ u1 u2)
  simpa using h2
end
end Go.Proofs.YtmlhkbgifnifdaaDoor
namespace Go.Proofs.YtmlhkbgifnifdaaDoor
set_option linter.unusedVariables false
set_option linter.unusedSimpArgs false

theorem known_hood {ps : List (Int × Int)} (h : knownB ps = true) : hoodB ps = true := by
  unfold knownB at h
  simp only [Bool.or_eq_true, decide_eq_true_eq] at h
  rcases h with (h | h) | h <;> subst h <;> decide
/-- the nodes of the tree of a rule by counts -/
def totN (x : TotL) : List Nd := (bld (sysT x) x.hood.length (0, 0) ([], [])).2.2
theorem totT_eq {x : TotL} (h : rightT x = true) : totT x = (⟨x.states, x.hood, totN x⟩, 0) := by unfold totT totN; rw [if_pos h]
/-- the state of the steps ahead of place i -/
def stAt (c : Nat) (zs : List Int) (i : Nat) : Int × Int := ((cntTo c zs i : Nat), if c < i then zs.getD c 0 else 0)
theorem run_st {x : TotL} {c : Nat} (hc : ctrP x.hood = c) (ins : List Nat) : ∀ m i, i + m = ins.length → runS (sysT x) (stAt c (ins.map fun (t : Nat) => (t : Int)) i) i (ins.drop i) = stAt c (ins.map fun (t : Nat) => (t : Int)) ins.length
  | 0, i, h => by
    obtain rfl : i = ins.length := by omega
    rw [List.drop_length]; rfl
  | m + 1, i, h => by
    have hi : i < ins.length := by omega
    rw [List.drop_eq_getElem_cons hi]
    show runS (sysT x) (stepT (ctrP x.hood) (stAt c _ i) i ins[i]) (i + 1) (ins.drop (i + 1)) = _
    rw [← run_st hc ins m (i + 1) (by omega)]
    congr 1
    have hz : (ins.map fun (t : Nat) => (t : Int)).getD i 0 = (ins[i] : Int) := by
      rw [List.getD_eq_getElem?_getD, List.getElem?_map, List.getElem?_eq_getElem hi]; rfl
    obtain ⟨zs, hzs⟩ : ∃ zs, zs = ins.map fun (t : Nat) => (t : Int) := ⟨_, rfl⟩
    rw [← hzs] at hz ⊢
    unfold stepT stAt
    rw [hc]
    by_cases hic : i = c
    · subst hic
      have e1 : cntTo i zs (i + 1) = cntTo i zs i := if_neg (fun h => h.1 rfl)
      rw [if_pos rfl]
      refine Prod.ext ?_ ?_
      · show ((cntTo i zs i : Nat) : Int) = ((cntTo i zs (i + 1) : Nat) : Int)
        rw [e1]
      · show ((ins[i] : Nat) : Int) = if i < i + 1 then zs.getD i 0 else 0
        rw [if_pos (Nat.lt_succ_self i), hz]
    · have hne : ¬ (i : Int) = (c : Int) := by omega
      rw [if_neg hne]
      have e2 : (if c < i then zs.getD c 0 else 0) = if c < i + 1 then zs.getD c 0 else 0 := by
        by_cases h1 : c < i
        · have h2 : c < i + 1 := by omega
          rw [if_pos h1, if_pos h2]
        · have h2 : ¬ c < i + 1 := by omega
          rw [if_neg h1, if_neg h2]
      by_cases ht : ins[i] = 1
      · have e1 : cntTo c zs (i + 1) = cntTo c zs i + 1 := if_pos ⟨hic, by rw [hz, ht]; rfl⟩
        rw [if_pos ht]
        refine Prod.ext ?_ e2
        show ((cntTo c zs i : Nat) : Int) + 1 = ((cntTo c zs (i + 1) : Nat) : Int)
        rw [e1]
        omega
      · have e1 : cntTo c zs (i + 1) = cntTo c zs i := if_neg (fun hh => ht (by
          have h3 := hh.2
          rw [hz] at h3
          omega))
        rw [if_neg ht]
        refine Prod.ext ?_ e2
        show ((cntTo c zs i : Nat) : Int) = ((cntTo c zs (i + 1) : Nat) : Int)
        rw [e1]
theorem tot_parts {x : TotL} (h : rightT x = true) : Can x.states.toNat x.hood.length (totN x) ∧ (∀ ins : List Nat, ins.length = x.hood.length → (∀ t ∈ ins, t < x.states.toNat) → val (totN x) (((totN x).length - 1 : Nat) : Int) ins = valP x (ins.map fun (t : Nat) => (t : Int))) ∧ rightN x.states x.hood (totN x) = true := by
  obtain ⟨k1, k2, k3⟩ := rightT_parts h
  obtain ⟨l1, l9⟩ := known_len k1
  obtain ⟨c, c1, c2, -⟩ := known_ctr k1
  have h0 : rngT x 0 (0, 0) := ⟨by decide, by decide, by omega, by decide, by show (0 : Int) < _; omega⟩
  obtain ⟨b1, b2⟩ := bld_can (Y := sysT x) (R := rngT x) (rngT_step x k2) (rngT_fin x k2) (show 1 ≤ x.hood.length from l1) (show x.hood.length ≤ 100 by omega) h0
  have hsz : (totN x).length ≤ 4096 := bld_size (Y := sysT x) (R := rngT x) (rngT_step x k2) (rngT_fin x k2) h0 4096 (fun p => p.1 * 128 + p.2.1.toNat * 8 + p.2.2.toNat)
    (fun a s hr ha => by
      obtain ⟨r1, r2, r3, r4, r5⟩ := hr
      change a < x.hood.length at ha
      dsimp only
      omega)
    (fun a s a' s' hr ha hr' ha' e => by
      obtain ⟨r1, r2, r3, r4, r5⟩ := hr
      obtain ⟨q1, q2, q3, q4, q5⟩ := hr'
      change a < x.hood.length at ha
      change a' < x.hood.length at ha'
      dsimp only at e
      exact ⟨by omega, Prod.ext (by omega) (by omega)⟩)
  have hcan : Can x.states.toNat x.hood.length (totN x) := b1
  refine ⟨hcan, fun ins hl hq => ?_, rightN_of k2 k3 (known_hood k1) hcan.pos hsz hcan.root hcan.v hcan.lv⟩
  have hv := b2 ins hl hq
  refine Eq.trans hv ?_
  have hrun := run_st c1 ins ins.length 0 (by omega)
  rw [List.drop_zero] at hrun
  have e0 : stAt c (ins.map fun (t : Nat) => (t : Int)) 0 = (0, 0) := by unfold stAt; rw [if_neg (by omega)]; rfl
  rw [e0] at hrun
  rw [hrun]
  show nextT x _ = valP x _
  unfold valP stAt
  rw [c1, if_pos (by omega), List.length_map, Int.toNat_natCast]
theorem tot_eval {x : TotL} (h : rightT x = true) {zs : List Int} (hl : zs.length = x.hood.length) (hz : ∀ z ∈ zs, 0 ≤ z ∧ z < x.states) : evalP (totT x).1 zs = (valP x zs, 0) := by
  obtain ⟨t1, t2, t3⟩ := tot_parts h
  have hb : zs.any (badS x.states) = false := by
    rw [List.any_eq_false]
    intro z hzm
    have := hz z hzm
    simp only [badS, Bool.or_eq_true, decide_eq_true_eq]
    omega
  obtain ⟨u1, u2⟩ := toNat_back hb
  have hr : PT.right ⟨x.states, x.hood, totN x⟩ = true := t3
  rw [totT_eq h]
  unfold evalP
  rw [if_pos hr]
  dsimp only
  rw [if_pos hl, hb, if_neg (by simp), t2 (zs.map Int.toNat) (by rw [List.length_map]; exact hl) u2, u1]
end Go.Proofs.YtmlhkbgifnifdaaDoor
namespace Go.Proofs.YtmlhkbgifnifdaaDoor
set_option linter.unusedVariables false
set_option linter.unusedSimpArgs false

theorem cnt_take (c : Nat) (zs : List Int) : ∀ i, i ≤ zs.length → cntTo c zs i + (if c < i ∧ zs.getD c 0 = 1 then 1 else 0) = (zs.take i).count 1
  | 0, _ => by rw [if_neg (fun h => absurd h.1 (Nat.not_lt_zero _))]; rfl
  | i + 1, h => by
    have hi : i < zs.length := by omega
    have ih := cnt_take c zs i (by omega)
    have hz : zs.getD i 0 = zs[i] := by rw [List.getD_eq_getElem?_getD, List.getElem?_eq_getElem hi]; rfl
    rw [List.take_succ_eq_append_getElem hi, List.count_append, ← ih]
    by_cases h1 : zs[i] = 1
    · have e1 : List.count 1 [zs[i]] = 1 := by rw [h1]; rfl
      rw [e1]
      by_cases hic : i = c
      · subst hic
        have e2 : cntTo i zs (i + 1) = cntTo i zs i := if_neg (fun h => h.1 rfl)
        rw [e2, if_pos ⟨Nat.lt_succ_self i, by rw [hz, h1]⟩, if_neg (fun hh => absurd hh.1 (Nat.lt_irrefl i))]
      · have e2 : cntTo c zs (i + 1) = cntTo c zs i + 1 := if_pos ⟨hic, by rw [hz, h1]⟩
        have e3 : (c < i + 1 ∧ zs.getD c 0 = 1) ↔ (c < i ∧ zs.getD c 0 = 1) := ⟨fun hh => ⟨by omega, hh.2⟩, fun hh => ⟨by omega, hh.2⟩⟩
        rw [e2]; simp only [e3]
        omega
    · have e1 : List.count 1 [zs[i]] = 0 := by
        rw [List.count_eq_zero]
        intro hm
        exact h1 (List.mem_singleton.1 hm).symm
      have e2 : cntTo c zs (i + 1) = cntTo c zs i := if_neg (fun h => h1 (by rw [← hz]; exact h.2))
      have e3 : (c < i + 1 ∧ zs.getD c 0 = 1) ↔ (c < i ∧ zs.getD c 0 = 1) := ⟨fun hh => ⟨by
        rcases Nat.lt_or_ge c i with h4 | h4
        · exact h4
        · have h5 : i = c := by omega
          subst h5
          exact absurd (hz ▸ hh.2) h1, hh.2⟩, fun hh => ⟨by omega, hh.2⟩⟩
      rw [e1, e2]; simp only [e3]
      omega
theorem cnt_all (c : Nat) (zs : List Int) (hc : c < zs.length) : cntTo c zs zs.length + (if zs.getD c 0 = 1 then 1 else 0) = zs.count 1 := by
  have h := cnt_take c zs zs.length (Nat.le_refl _)
  rw [List.take_length] at h
  rw [← h]
  congr 1
  by_cases h1 : zs.getD c 0 = 1
  · rw [if_pos h1, if_pos ⟨hc, h1⟩]
  · rw [if_neg h1, if_neg (fun hh => h1 hh.2)]
def swapL (zs : List Int) (i k : Nat) : List Int := (zs.set i (zs.getD k 0)).set k (zs.getD i 0)
theorem swapL_len (zs : List Int) (i k : Nat) : (swapL zs i k).length = zs.length := by unfold swapL; rw [List.length_set, List.length_set]
theorem swapL_mem {zs : List Int} {i k : Nat} (hi : i < zs.length) (hk : k < zs.length) {z : Int} (h : z ∈ swapL zs i k) : z ∈ zs := by
  unfold swapL at h
  rcases List.mem_or_eq_of_mem_set h with h | h
  · rcases List.mem_or_eq_of_mem_set h with h | h
    · exact h
    · rw [h]; exact getD_mem hk
  · rw [h]; exact getD_mem hi
theorem swapL_get {zs : List Int} {i k c : Nat} (hic : i ≠ c) (hkc : k ≠ c) : (swapL zs i k).getD c 0 = zs.getD c 0 := by
  unfold swapL
  rw [List.getD_eq_getElem?_getD, List.getElem?_set_ne hkc, List.getElem?_set_ne hic, ← List.getD_eq_getElem?_getD]
theorem swapL_count {zs : List Int} {i k : Nat} (hi : i < zs.length) (hk : k < zs.length) : (swapL zs i k).count 1 = zs.count 1 := by
  have g : ∀ {j} (hj : j < zs.length), zs.getD j 0 = zs[j] := fun hj => by rw [List.getD_eq_getElem?_getD, List.getElem?_eq_getElem hj]; rfl
  unfold swapL
  rw [g hi, g hk]
  have hk2 : k < (zs.set i zs[k]).length := by rw [List.length_set]; exact hk
  rw [List.count_set hk2, List.count_set hi]
  have p1 : ∀ {j} (hj : j < zs.length), zs[j] = 1 → 1 ≤ zs.count 1 := fun hj e => by
    have : (1 : Int) ∈ zs := by rw [← e]; exact List.getElem_mem _
    exact List.one_le_count_iff.2 this
  by_cases hik : i = k
  · subst hik
    rw [List.getElem_set_self]
    by_cases h1 : zs[i] = 1
    · have := p1 hi h1
      simp [h1]
      omega
    · simp [h1]
  · rw [List.getElem_set_ne hik]
    by_cases h1 : zs[i] = 1 <;> by_cases h2 : zs[k] = 1
    · have := p1 hi h1
      simp [h1, h2]
      omega
    · have := p1 hi h1
      simp [h1, h2]
      omega
    · have := p1 hk h2
      simp [h1, h2]
    · simp [h1, h2]
theorem val_swap {x : TotL} {c : Nat} (hc : ctrP x.hood = c) {zs : List Int} (hcl : c < zs.length) {i k : Nat} (hi : i < zs.length) (hk : k < zs.length) (hic : i ≠ c) (hkc : k ≠ c) : valP x (swapL zs i k) = valP x zs := by
  unfold valP
  rw [hc, Int.toNat_natCast, swapL_get hic hkc]
  have h1 := cnt_all c (swapL zs i k) (by rw [swapL_len]; exact hcl)
  have h2 := cnt_all c zs hcl
  rw [swapL_get hic hkc, swapL_count hi hk] at h1
  have e : cntTo c (swapL zs i k) (swapL zs i k).length = cntTo c zs zs.length := by omega
  rw [e]
end Go.Proofs.YtmlhkbgifnifdaaDoor
