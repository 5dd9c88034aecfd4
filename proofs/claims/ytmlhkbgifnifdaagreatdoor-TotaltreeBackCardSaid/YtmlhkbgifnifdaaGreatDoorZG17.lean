/-
  totaltree.Elementary, totaltree.Sums. No condition but that the library's table is there, and that numbers are those of Go.
  The reference's equality of lists of points. No condition but the reach.
  hood.collect: the offsets of a square for which a predicate holds; hood.Moore, hood.Neumann, hood.Hex. No condition but the radius.
-/
import Derived.Test.YtmlhkbgifnifdaaGreatDoorZG14
import Derived.Test.YtmlhkbgifnifdaaGreatDoorZG15
import Derived.Test.YtmlhkbgifnifdaaGreatDoorZG16
import Derived.Test.YtmlhkbgifnifdaaGreatDoorZG8
import Derived.Test.YtmlhkbgifnifdaaGreatDoorZG2
namespace Go.Proofs.YtmlhkbgifnifdaaGreatDoor
open Go.RowKit
set_option maxRecDepth 100000
set_option linter.unusedVariables false
set_option linter.unusedSimpArgs false

def rowP : List (Int × Int) := [(-1, 0), (0, 0), (1, 0)]
set_option maxHeartbeats 4000000 in
theorem row_any (w : World) : Calls Tryz.prog 46 #[] w (RetPts rowP w) := by
  have hb : Below w.heap.size w (w.alloc (.cells #[.int .i64 (-1), .int .i64 0, .int .i64 0, .int .i64 0, .int .i64 1, .int .i64 0] 51)) := below_new _ _
  have ho : OwnP 51 (w.alloc (.cells #[.int .i64 (-1), .int .i64 0, .int .i64 0, .int .i64 0, .int .i64 1, .int .i64 0] 51)) w.heap.size (.slice (some ⟨w.heap.size, 0, none⟩) 3 3) rowP :=
    World.ownsRow_lit (base := w.heap.size) (e := 51) (size := 2) w #[.int .i64 (-1), .int .i64 0, .int .i64 0, .int .i64 0, .int .i64 1, .int .i64 0] 3 (Nat.le_refl _) (by decide) rfl
  have HO := Lib.hid ho
  have HB := Lib.hid hb
  clear ho hb
  go_enter Tryz.func46, Tryz.ntmps46
  go_wp2
  go_ret
  obtain ⟨A, c, e, h1, h2⟩ := HO.out.pts
  exact ⟨A, c, by rw [← e]; rfl, h1, h2, HB.out⟩
/-- the steps of an elementary rule -/
def sysE (n : Int) : Sys Int := ⟨3, 2, fun s _ t => 2 * s + t, fun s => (elemL n).getD s.toNat 0⟩
def rngE (a : Nat) (s : Int) : Prop := 0 ≤ s ∧ s < (2 ^ a : Nat) ∧ a ≤ 3
theorem rngE_step (n : Int) : ∀ a s t, rngE a s → a < (sysE n).L → t < (sysE n).q → rngE (a + 1) ((sysE n).step s a t) := fun a s t h ha ht => by
  obtain ⟨h1, h2, h3⟩ := h
  change a < 3 at ha
  change t < 2 at ht
  refine ⟨?_, ?_, by omega⟩
  · show (0 : Int) ≤ 2 * s + t; omega
  · show (2 * s + t : Int) < ((2 ^ (a + 1) : Nat) : Int)
    rw [Nat.pow_succ]
    omega
theorem elemL_len (n : Int) : (elemL n).length = 8 := by
  unfold elemL
  split
  · exact digT_len _ _ _
  · rfl
theorem elemL_rng (n : Int) : ∀ z ∈ elemL n, 0 ≤ z ∧ z < 2 := fun z hz => by
  unfold elemL at hz
  split at hz
  · exact digT_rng (by decide) 8 n z hz
  · simp at hz; omega
theorem rngE_fin (n : Int) : ∀ s, rngE (sysE n).L s → 0 ≤ (sysE n).fin s ∧ (sysE n).fin s < ((sysE n).q : Int) := fun s h => by
  have h1 : s < 8 := h.2.1
  have hm : (elemL n).getD s.toNat 0 ∈ elemL n := getD_mem (by rw [elemL_len]; have := h.1; omega)
  exact elemL_rng n _ hm
theorem rngE_ok : ∀ a s, rngE a s → plI.ok a s := fun a s h => by
  obtain ⟨h1, h2, h3⟩ := h
  refine ⟨by omega, ?_⟩
  have h4 : 2 ^ a ≤ 2 ^ 3 := Nat.pow_le_pow_right (by decide) h3
  unfold in64
  omega
set_option maxHeartbeats 4000000 in
theorem elem1_any (s : Int) (a t : Nat) (w : World) (h0 : 0 ≤ s) (h1 : s ≤ 100) (ht : t ≤ 100) : Calls Tryz.prog 47 #[.int .i64 s, .int .i64 (a : Int), .int .i64 (t : Int)] w fun e w' => e = .returned (.int .i64 (2 * s + t)) ∧ Below w.heap.size w w' := by
  have e1 : wrap64 (2 * s) = 2 * s := by unfold wrap64; omega
  have e2 : wrap64 (2 * s + t) = 2 * s + t := by unfold wrap64; omega
  clear h0 h1 ht
  go_enter Tryz.func47, Tryz.ntmps47
  go_wp2
  go_ret
  exact ⟨ret_int e2, Below.refl _ _⟩
set_option maxHeartbeats 4000000 in
theorem elem2_any (n s : Int) (p : Nat) (w : World) (hb : Blk w p 67 (arrV (elemL n))) (h0 : 0 ≤ s) (h1 : s < 8) : Calls Tryz.prog 48 #[.int .i64 s, .pointer (some ⟨p, 0, none⟩)] w fun e w' => e = .returned (.int .i64 ((elemL n).getD s.toNat 0)) ∧ Below w.heap.size w w' := by
  obtain ⟨k, rfl⟩ : ∃ k : Nat, s = k := ⟨s.toNat, by omega⟩
  have hk : k < (elemL n).length := by rw [elemL_len]; omega
  have hc : w.cell? ⟨p, k, none⟩ = some (.int .i64 ((elemL n).getD k 0)) := hb.cell_ k _ (by
    unfold arrV
    simp only [List.getElem?_toArray]
    rw [List.getElem?_map, List.getElem?_eq_getElem hk, List.getD_eq_getElem?_getD, List.getElem?_eq_getElem hk]
    rfl)
  have hk8 : k < 8 := by omega
  rw [Int.toNat_natCast]
  obtain ⟨v, hv⟩ : ∃ v, v = (elemL n).getD k 0 := ⟨_, rfl⟩
  rw [← hv] at hc ⊢
  clear hk hv h0 h1
  go_enter Tryz.func48, Tryz.ntmps48
  go_wp2
  go_ret
  exact ⟨rfl, Below.refl _ _⟩
def elemT (n : Int) : PT × Int := if okE n = true then (⟨2, rowP, (bld (sysE n) 3 0 ([], [])).2.2⟩, 0) else (PT.zero, 5)
set_option maxHeartbeats 8000000 in
theorem telem_any (n : Int) (w : World) (hT : TabB w.heap.size w) : Calls Tryz.prog 18 #[.int .i64 n] w (RetAE (elemT n) w) := by
  obtain ⟨w0, hw0⟩ : ∃ w0, w0 = w.alloc (.cells #[.int .i64 0, .slice none 0 0, .slice none 0 0] 25) := ⟨_, rfl⟩
  have hb0 : Below w.heap.size w w0 := by rw [hw0]; exact below_new _ _
  have q0 : Blk w0 w.heap.size 25 #[.int .i64 0, .slice none 0 0, .slice none 0 0] := by rw [hw0]; exact Blk.new _ _ _
  have HEL := Lib.hid (elem_any n w0)
  have HW0 := Lib.hid hw0
  have HB0 := Lib.hid hb0
  have HQ0 := Lib.hid q0
  have HTB := Lib.hid hT
  obtain ⟨l, hl⟩ : ∃ l, l = arrV (elemL n) := ⟨_, rfl⟩
  have hl8 : ∃ l0 l1 l2 l3 l4 l5 l6 l7, elemL n = [l0, l1, l2, l3, l4, l5, l6, l7] := by
    have := elemL_len n
    generalize elemL n = x at this
    match x, this with
    | [l0, l1, l2, l3, l4, l5, l6, l7], _ => exact ⟨_, _, _, _, _, _, _, _, rfl⟩
  obtain ⟨l0, l1, l2, l3, l4, l5, l6, l7, hl8⟩ := hl8
  have HL8 := Lib.hid hl8
  unfold RetEl at HEL
  have hae : arrV [l0, l1, l2, l3, l4, l5, l6, l7] = #[.int .i64 l0, .int .i64 l1, .int .i64 l2, .int .i64 l3, .int .i64 l4, .int .i64 l5, .int .i64 l6, .int .i64 l7] := rfl
  rw [hl8, hae] at HEL
  clear hw0 hb0 q0 hT hl hl8 hae
  have HOE := Lib.hid (rfl : okE n = okE n)
  cases hok : okE n with
  | false =>
    have HE : Hid (elemT n = (PT.zero, 5)) := Lib.hid (by unfold elemT; rw [hok]; rfl)
    have he5 : elemE n = 5 := by unfold elemE; rw [hok]; rfl
    rw [he5] at HEL
    clear hok he5
    go_enter Tryz.func18, Tryz.ntmps18
    go_upto_region 1 with fail
    rw [← HW0.out]
    go_wp2_with (go_at_call 44; refine HEL.out.mono ?_; intro e w9 hx9; obtain ⟨rfl, hb9⟩ := hx9; refine Hid.out ?_)
    refine Lib.hid ?_
    obtain ⟨wa, hwa⟩ : ∃ wa, wa = w9.alloc (.cells #[.int .i64 l0, .int .i64 l1, .int .i64 l2, .int .i64 l3, .int .i64 l4, .int .i64 l5, .int .i64 l6, .int .i64 l7] 67) := ⟨_, rfl⟩
    have hba : Below w9.heap.size w9 wa := by rw [hwa]; exact below_new _ _
    have hb9a : Below w0.heap.size w0 wa := hb9.trans (hba.mono hb9.size)
    have HQX := Lib.hid (HQ0.out.below hb9a HQ0.out.lt)
    have HBX : Hid (Below w.heap.size w wa) := Lib.hid (HB0.out.trans (hb9a.mono HB0.out.size))
    have d0 := HQX.out.cell_ 0 (.int .i64 0) rfl
    have d1 := HQX.out.cell_ 1 (.slice none 0 0) rfl
    have d2 := HQX.out.cell_ 2 (.slice none 0 0) rfl
    have f0 := HQX.out.frozen 0
    have f1 := HQX.out.frozen 1
    have f2 := HQX.out.frozen 2
    go_upto_region 2 with fail
    rw [← hwa]
    clear hb9 hba hb9a hwa HEL
    go_wp2
    have hq : Blk (((wa.setCell ⟨w.heap.size, 0, none⟩ (.int .i64 0)).setCell ⟨w.heap.size, 1, none⟩ (.slice none 0 0)).setCell ⟨w.heap.size, 2, none⟩ (.slice none 0 0)) w.heap.size 25 #[.int .i64 0, .slice none 0 0, .slice none 0 0] := ((HQX.out.set_ 0 (.int .i64 0)).set_ 1 (.slice none 0 0)).set_ 2 (.slice none 0 0)
    rw [HE.out]
    exact bodyPost_ret (results_ct Tryz.results18 _ _ w.heap.size 25 #[.int .i64 0, .slice none 0 0, .slice none 0 0] (0, 0) _ rfl hq Tryz.underlying25 rfl Tryz.sizeTree) rfl
      ⟨0, none, 0, 0, none, 0, 0, rfl, ⟨none, 0, none, 0, [], rfl, Pts.nil, Nds.nil, rfl⟩, ((HBX.out.setCell (p := ⟨w.heap.size, 0, none⟩) (Nat.le_refl _) _).setCell (p := ⟨w.heap.size, 1, none⟩) (Nat.le_refl _) _).setCell (p := ⟨w.heap.size, 2, none⟩) (Nat.le_refl _) _⟩
  | true =>
    have HE : Hid (elemT n = (⟨2, rowP, (bld (sysE n) 3 0 ([], [])).2.2⟩, 0)) := Lib.hid (by unfold elemT; rw [hok]; rfl)
    have he5 : elemE n = 0 := by unfold elemE; rw [hok]; rfl
    rw [he5] at HEL
    clear hok he5
    go_enter Tryz.func18, Tryz.ntmps18
    go_upto_region 1 with fail
    rw [← HW0.out]
    go_wp2_with (go_at_call 44; refine HEL.out.mono ?_; intro e w9 hx9; obtain ⟨rfl, hb9⟩ := hx9; refine Hid.out ?_)
    refine Lib.hid ?_
    obtain ⟨wa, hwa⟩ : ∃ wa, wa = w9.alloc (.cells #[.int .i64 l0, .int .i64 l1, .int .i64 l2, .int .i64 l3, .int .i64 l4, .int .i64 l5, .int .i64 l6, .int .i64 l7] 67) := ⟨_, rfl⟩
    obtain ⟨pX, hpX⟩ : ∃ pX, pX = w9.heap.size := ⟨_, rfl⟩
    have hba : Below w9.heap.size w9 wa := by rw [hwa]; exact below_new _ _
    have hX : Blk wa pX 67 (arrV (elemL n)) := by rw [hwa, hpX, HL8.out]; exact Blk.new _ _ _
    have hb9a : Below w0.heap.size w0 wa := hb9.trans (hba.mono hb9.size)
    have HBX : Hid (Below w0.heap.size w0 wa) := Lib.hid hb9a
    have HXX := Lib.hid hX
    have HROW := Lib.hid (row_any wa)
    go_upto_region 2 with fail
    rw [← hwa, ← hpX]
    clear hb9 hba hb9a hwa hpX hX HEL
    go_wp2_with (go_at_call 46; refine HROW.out.mono ?_; intro e wb hx9; obtain ⟨rA, rc, rfl, hpr, hnr, hbr⟩ := hx9; refine Hid.out ?_)
    refine Lib.hid ?_
    have hb1 : Below w.heap.size w wb := HB0.out.trans ((HBX.out.trans (hbr.mono HBX.out.size)).mono HB0.out.size)
    have hXb := HXX.out.below hbr HXX.out.lt
    have hbuild := buildE_any (sysE n) rngE (rngE_step n) (rngE_fin n) rngE_ok (show 1 ≤ 3 by decide) (show 3 ≤ 9 by decide) (show 1 ≤ 2 by decide) (show 2 ≤ 8 by decide) wb pX 0 ⟨by decide, by decide, by decide⟩ rA rc rowP hpr rfl ((HTB.out.on hb1).up hb1.size)
      (fun a s t W' hr ha ht hW => elem1_any s a t W' hr.1 (by have h1 := hr.2.1; have h4 : 2 ^ a ≤ 2 ^ 3 := Nat.pow_le_pow_right (by decide) hr.2.2; omega) (by change t < 2 at ht; omega))
      (fun s W' hr hW => elem2_any n s pX W' (hXb.below hW hXb.lt) hr.1 hr.2.1)
    have HBU := Lib.hid hbuild
    have HB1 := Lib.hid (HBX.out.trans (hbr.mono HBX.out.size))
    have HPR := Lib.hid hpr
    have HNR := Lib.hid hnr
    have HLW : Hid (w.heap.size < wa.heap.size) := Lib.hid (Nat.lt_of_lt_of_le HQ0.out.lt HBX.out.size)
    have HSB : Hid (wa.heap.size ≤ wb.heap.size) := Lib.hid hbr.size
    clear hpr hnr hbr hb1 hXb hbuild HROW
    go_wp2_with (go_at_call 45; refine HBU.out.mono ?_; intro e wc hx9; obtain ⟨tB, td, os, rfl, hno, heo, hbc⟩ := hx9; refine Hid.out ?_)
    refine Lib.hid ?_
    have HNO := Lib.hid hno
    have HEO := Lib.hid heo
    have HPC := Lib.hid (HPR.out.ext hbc)
    have HB2 : Hid (Below w0.heap.size w0 wc) := Lib.hid (HB1.out.trans (hbc.mono HB1.out.size))
    have HQX := Lib.hid (HQ0.out.below HB2.out HQ0.out.lt)
    have HBX : Hid (Below w.heap.size w wc) := Lib.hid (HB0.out.trans (HB2.out.mono HB0.out.size))
    have d0 := HQX.out.cell_ 0 (.int .i64 0) rfl
    have d1 := HQX.out.cell_ 1 (.slice none 0 0) rfl
    have d2 := HQX.out.cell_ 2 (.slice none 0 0) rfl
    have f0 := HQX.out.frozen 0
    have f1 := HQX.out.frozen 1
    have f2 := HQX.out.frozen 2
    clear hno heo hbc HBU
    go_wp2
    have hk3 : Kept (fun g => g = w.heap.size) wc (((wc.setCell ⟨w.heap.size, 0, none⟩ (.int .i64 2)).setCell ⟨w.heap.size, 1, none⟩ (.slice rA rowP.length rc)).setCell ⟨w.heap.size, 2, none⟩ (.slice tB os.length td)) := (((Kept.refl (fun g => g = w.heap.size) wc).setCell (p := ⟨w.heap.size, 0, none⟩) (Or.inl rfl) _).setCell (p := ⟨w.heap.size, 1, none⟩) (Or.inl rfl) _).setCell (p := ⟨w.heap.size, 2, none⟩) (Or.inl rfl) _
    have hlt := HLW.out
    have hsb := HSB.out
    have hno := HNO.out.kept hk3 (fun g e1 e2 => by have h1 := (own_lt' HNO.out.1 e1).2; omega) (fun y hy g e1 e2 => by have h1 := (own_lt' (HNO.out.2 y hy) e1).2; omega)
    have hpo := ((HPC.out.set_new (p := ⟨w.heap.size, 0, none⟩) HNR.out hlt (.int .i64 2)).set_new (p := ⟨w.heap.size, 1, none⟩) HNR.out hlt (.slice rA rowP.length rc)).set_new (p := ⟨w.heap.size, 2, none⟩) HNR.out hlt (.slice tB os.length td)
    have hbf := ((HBX.out.setCell (p := ⟨w.heap.size, 0, none⟩) (Nat.le_refl _) (.int .i64 2)).setCell (p := ⟨w.heap.size, 1, none⟩) (Nat.le_refl _) (.slice rA rowP.length rc)).setCell (p := ⟨w.heap.size, 2, none⟩) (Nat.le_refl _) (.slice tB os.length td)
    have hq : Blk (((wc.setCell ⟨w.heap.size, 0, none⟩ (.int .i64 2)).setCell ⟨w.heap.size, 1, none⟩ (.slice rA rowP.length rc)).setCell ⟨w.heap.size, 2, none⟩ (.slice tB os.length td)) w.heap.size 25 #[.int .i64 2, .slice rA rowP.length rc, .slice tB os.length td] := ((HQX.out.set_ 0 (.int .i64 2)).set_ 1 (.slice rA rowP.length rc)).set_ 2 (.slice tB os.length td)
    rw [HE.out]
    exact bodyPost_ret (results_ct Tryz.results18 _ _ w.heap.size 25 #[.int .i64 2, .slice rA rowP.length rc, .slice tB os.length td] (0, 0) _ rfl hq Tryz.underlying25 rfl Tryz.sizeTree) rfl
      ⟨2, rA, _, rc, tB, _, td, rfl, ⟨rA, rc, tB, td, os, rfl, hpo, OwnN.reads hno, HEO.out⟩, hbf⟩
/-- the steps of a totalistic rule of rows -/
def sysS (q n : Int) : Sys Int := ⟨3, q.toNat, fun s _ t => s + t, fun s => (digsT q n).1.getD s.toNat 0⟩
def sumT (q n : Int) : PT × Int := if (digsT q n).2 = 0 then (⟨q, rowP, (bld (sysS q n) 3 0 ([], [])).2.2⟩, 0) else (PT.zero, (digsT q n).2)
def okS (q n : Int) : Prop := 2 ≤ q ∧ q ≤ 8 ∧ (digsT q n).1.length = (3 * q - 2).toNat ∧ ∀ z ∈ (digsT q n).1, 0 ≤ z ∧ z < q
theorem sums_ok {q n : Int} (h : (digsT q n).2 = 0) : okS q n := by
  unfold okS
  unfold digsT at *
  by_cases h1 : q < 2 ∨ 8 < q
  · rw [if_pos h1] at h; simp at h
  · rw [if_neg h1] at h ⊢
    by_cases h2 : n < 0
    · rw [if_pos h2] at h; simp at h
    · rw [if_neg h2] at h ⊢
      by_cases h3 : 0 < digR q (3 * q - 2).toNat n
      · rw [if_pos h3] at h; simp at h
      · rw [if_neg h3]
        exact ⟨by omega, by omega, digT_len _ _ _, digT_rng (by omega) _ _⟩
def rngS (q : Int) (a : Nat) (s : Int) : Prop := 0 ≤ s ∧ s ≤ (a : Int) * (q - 1) ∧ a ≤ 3
theorem rngS_le {q n : Int} (h : okS q n) {a : Nat} {s : Int} (hr : rngS q a s) : s ≤ 100 := by
  obtain ⟨h1, h2, h3⟩ := hr
  have h4 : (a : Int) * (q - 1) ≤ 3 * 7 := Int.mul_le_mul (by omega) (by have := h.2.1; omega) (by have := h.1; omega) (by decide)
  omega
theorem rngS_step {q n : Int} (hk : okS q n) : ∀ a s t, rngS q a s → a < (sysS q n).L → t < (sysS q n).q → rngS q (a + 1) ((sysS q n).step s a t) := fun a s t h ha ht => by
  obtain ⟨h1, h2, h3⟩ := h
  change a < 3 at ha
  change t < q.toNat at ht
  refine ⟨?_, ?_, by omega⟩
  · show (0 : Int) ≤ s + t; omega
  · show (s + t : Int) ≤ ((a + 1 : Nat) : Int) * (q - 1)
    rw [Int.natCast_succ, Int.add_mul]
    have := hk.1
    omega
theorem rngS_lt {q n : Int} (hk : okS q n) {s : Int} (h : rngS q 3 s) : s.toNat < (digsT q n).1.length := by
  obtain ⟨h1, h2, -⟩ := h
  rw [hk.2.2.1]
  have := hk.1
  omega
theorem rngS_fin {q n : Int} (hk : okS q n) : ∀ s, rngS q (sysS q n).L s → 0 ≤ (sysS q n).fin s ∧ (sysS q n).fin s < ((sysS q n).q : Int) := fun s h => by
  have hm : (digsT q n).1.getD s.toNat 0 ∈ (digsT q n).1 := getD_mem (rngS_lt hk h)
  have := hk.2.2.2 _ hm
  show 0 ≤ (digsT q n).1.getD s.toNat 0 ∧ (digsT q n).1.getD s.toNat 0 < (q.toNat : Int)
  omega
theorem rngS_ok {q n : Int} (hk : okS q n) : ∀ a s, rngS q a s → plI.ok a s := fun a s h => by
  have h4 := rngS_le hk h
  obtain ⟨h1, h2, h3⟩ := h
  refine ⟨by omega, ?_⟩
  unfold in64
  omega
set_option maxHeartbeats 4000000 in
theorem sums1_any (s : Int) (a t : Nat) (w : World) (h0 : 0 ≤ s) (h1 : s ≤ 100) (ht : t ≤ 100) : Calls Tryz.prog 50 #[.int .i64 s, .int .i64 (a : Int), .int .i64 (t : Int)] w fun e w' => e = .returned (.int .i64 (s + t)) ∧ Below w.heap.size w w' := by
  have e2 : wrap64 (s + t) = s + t := by unfold wrap64; omega
  clear h0 h1 ht
  go_enter Tryz.func50, Tryz.ntmps50
  go_wp2
  go_ret
  exact ⟨ret_int e2, Below.refl _ _⟩
set_option maxHeartbeats 4000000 in
theorem sums2_any (l : List Int) (s : Int) (p : Nat) (dA : Option Addr) (dc : Nat) (w : World) (hb : Blk w p 28 #[.slice dA l.length dc]) (hi : Ints w dA l) (h0 : 0 ≤ s) (h1 : s.toNat < l.length) : Calls Tryz.prog 51 #[.int .i64 s, .pointer (some ⟨p, 0, none⟩)] w fun e w' => e = .returned (.int .i64 (l.getD s.toNat 0)) ∧ Below w.heap.size w w' := by
  obtain ⟨k, rfl⟩ : ∃ k : Nat, s = k := ⟨s.toNat, by omega⟩
  rw [Int.toNat_natCast] at h1 ⊢
  obtain ⟨b, o, e, -, hc⟩ := hi.at_ h1
  have hv : l.getD k 0 = l[k] := by rw [List.getD_eq_getElem?_getD, List.getElem?_eq_getElem h1]; rfl
  rw [hv]
  have c0 := hb.cell_ 0 (.slice dA l.length dc) rfl
  obtain ⟨v, hv'⟩ : ∃ v, v = l[k] := ⟨_, rfl⟩
  rw [← hv'] at hc ⊢
  subst e
  clear hv hv' h0
  go_enter Tryz.func51, Tryz.ntmps51
  go_wp2
  go_ret
  exact ⟨rfl, Below.refl _ _⟩
set_option maxHeartbeats 8000000 in
theorem tsums_any (q n : Int) (w : World) (hT : TabB w.heap.size w) (hn : n ≤ 9223372036854775807) : Calls Tryz.prog 19 #[.int .i64 q, .int .i64 n] w (RetAE (sumT q n) w) := by
  obtain ⟨w0, hw0⟩ : ∃ w0, w0 = w.alloc (.cells #[.int .i64 0, .slice none 0 0, .slice none 0 0] 25) := ⟨_, rfl⟩
  have hb0 : Below w.heap.size w w0 := by rw [hw0]; exact below_new _ _
  have q0 : Blk w0 w.heap.size 25 #[.int .i64 0, .slice none 0 0, .slice none 0 0] := by rw [hw0]; exact Blk.new _ _ _
  have HEL := Lib.hid (digits_any q n w0 hn)
  have HW0 := Lib.hid hw0
  have HB0 := Lib.hid hb0
  have HQ0 := Lib.hid q0
  have HTB := Lib.hid hT
  unfold RetIE at HEL
  clear hw0 hb0 q0 hT hn
  obtain ⟨l, hl⟩ : ∃ l, l = (digsT q n).1 := ⟨_, rfl⟩
  obtain ⟨er, her⟩ : ∃ er, er = (digsT q n).2 := ⟨_, rfl⟩
  have HLD := Lib.hid (And.intro hl her)
  rw [← hl, ← her] at HEL
  by_cases hok : er = 0
  case neg =>
    have HE : Hid (sumT q n = (PT.zero, er)) := Lib.hid (by unfold sumT; rw [← her, if_neg hok])
    have hne : (er != 0) = true := by simp [hok]
    clear hl her
    go_enter Tryz.func19, Tryz.ntmps19
    go_upto_region 1 with fail
    rw [← HW0.out]
    go_wp2_with (go_at_call 49; refine HEL.out.mono ?_; intro e w9 hx9; obtain ⟨dA, dc, rfl, hdi, hb9⟩ := hx9; refine Hid.out ?_)
    refine Lib.hid ?_
    obtain ⟨wa, hwa⟩ : ∃ wa, wa = w9.alloc (.cells #[.slice dA l.length dc] 28) := ⟨_, rfl⟩
    have hba : Below w9.heap.size w9 wa := by rw [hwa]; exact below_new _ _
    have hb9a : Below w0.heap.size w0 wa := hb9.trans (hba.mono hb9.size)
    have HQX := Lib.hid (HQ0.out.below hb9a HQ0.out.lt)
    have HBX : Hid (Below w.heap.size w wa) := Lib.hid (HB0.out.trans (hb9a.mono HB0.out.size))
    have d0 := HQX.out.cell_ 0 (.int .i64 0) rfl
    have d1 := HQX.out.cell_ 1 (.slice none 0 0) rfl
    have d2 := HQX.out.cell_ 2 (.slice none 0 0) rfl
    have f0 := HQX.out.frozen 0
    have f1 := HQX.out.frozen 1
    have f2 := HQX.out.frozen 2
    go_upto_region 2 with fail
    rw [← hwa]
    clear hb9 hba hb9a hwa hdi HEL
    go_wp2
    have hq : Blk (((wa.setCell ⟨w.heap.size, 0, none⟩ (.int .i64 0)).setCell ⟨w.heap.size, 1, none⟩ (.slice none 0 0)).setCell ⟨w.heap.size, 2, none⟩ (.slice none 0 0)) w.heap.size 25 #[.int .i64 0, .slice none 0 0, .slice none 0 0] := ((HQX.out.set_ 0 (.int .i64 0)).set_ 1 (.slice none 0 0)).set_ 2 (.slice none 0 0)
    rw [HE.out]
    exact bodyPost_ret (results_ct Tryz.results19 _ _ w.heap.size 25 #[.int .i64 0, .slice none 0 0, .slice none 0 0] (0, 0) _ rfl hq Tryz.underlying25 rfl Tryz.sizeTree) rfl
      ⟨0, none, 0, 0, none, 0, 0, rfl, ⟨none, 0, none, 0, [], rfl, Pts.nil, Nds.nil, rfl⟩, ((HBX.out.setCell (p := ⟨w.heap.size, 0, none⟩) (Nat.le_refl _) _).setCell (p := ⟨w.heap.size, 1, none⟩) (Nat.le_refl _) _).setCell (p := ⟨w.heap.size, 2, none⟩) (Nat.le_refl _) _⟩
  case pos =>
    have HE : Hid (sumT q n = (⟨q, rowP, (bld (sysS q n) 3 0 ([], [])).2.2⟩, 0)) := Lib.hid (by unfold sumT; rw [← her, if_pos hok])
    have hq := sums_ok (q := q) (n := n) (by rw [← her]; exact hok)
    have HQ := Lib.hid hq
    have HQB : Hid (2 ≤ q ∧ q ≤ 8) := Lib.hid ⟨hq.1, hq.2.1⟩
    have hqq : ((q.toNat : Nat) : Int) = q := by have := hq.1; omega
    have HQQ := Lib.hid hqq
    subst hok
    clear hl her hq hqq
    go_enter Tryz.func19, Tryz.ntmps19
    go_upto_region 1 with fail
    rw [← HW0.out]
    go_wp2_with (go_at_call 49; refine HEL.out.mono ?_; intro e w9 hx9; obtain ⟨dA, dc, rfl, hdi, hb9⟩ := hx9; refine Hid.out ?_)
    refine Lib.hid ?_
    obtain ⟨wa, hwa⟩ : ∃ wa, wa = w9.alloc (.cells #[.slice dA l.length dc] 28) := ⟨_, rfl⟩
    obtain ⟨pX, hpX⟩ : ∃ pX, pX = w9.heap.size := ⟨_, rfl⟩
    have hba : Below w9.heap.size w9 wa := by rw [hwa]; exact below_new _ _
    have hX : Blk wa pX 28 #[.slice dA l.length dc] := by rw [hwa, hpX]; exact Blk.new _ _ _
    have HDI := Lib.hid (hdi.ext hba)
    have hb9a : Below w0.heap.size w0 wa := hb9.trans (hba.mono hb9.size)
    have HBX : Hid (Below w0.heap.size w0 wa) := Lib.hid hb9a
    have HXX := Lib.hid hX
    have HROW := Lib.hid (row_any wa)
    go_upto_region 2 with fail
    rw [← hwa, ← hpX]
    clear hb9 hba hb9a hwa hpX hX hdi HEL
    go_wp2_with (go_at_call 46; refine HROW.out.mono ?_; intro e wb hx9; obtain ⟨rA, rc, rfl, hpr, hnr, hbr⟩ := hx9; refine Hid.out ?_)
    refine Lib.hid ?_
    have hb1 : Below w.heap.size w wb := HB0.out.trans ((HBX.out.trans (hbr.mono HBX.out.size)).mono HB0.out.size)
    have hXb := HXX.out.below hbr HXX.out.lt
    have hDb := HDI.out.ext hbr
    have hbuild := buildS_any (sysS q n) (rngS q) (rngS_step HQ.out) (rngS_fin HQ.out) (rngS_ok HQ.out) (show 1 ≤ 3 by decide) (show 3 ≤ 9 by decide) (show 1 ≤ q.toNat by have := HQB.out; omega) (show q.toNat ≤ 8 by have := HQB.out; omega) wb pX 0 ⟨by decide, by have := HQB.out; omega, by decide⟩ rA rc rowP hpr rfl ((HTB.out.on hb1).up hb1.size)
      (fun a s t W' hr ha ht hW => sums1_any s a t W' hr.1 (rngS_le HQ.out hr) (by change t < q.toNat at ht; have := HQB.out; omega))
      (fun s W' hr hW => by
        have h1 := sums2_any l s pX dA dc W' (hXb.below hW hXb.lt) (hDb.ext hW) hr.1 (by rw [HLD.out.1]; exact rngS_lt HQ.out hr)
        rw [HLD.out.1] at h1
        exact h1)
    rw [show (((sysS q n).q : Nat) : Int) = q from HQQ.out] at hbuild
    have HBU := Lib.hid hbuild
    have HB1 := Lib.hid (HBX.out.trans (hbr.mono HBX.out.size))
    have HPR := Lib.hid hpr
    have HNR := Lib.hid hnr
    have HLW : Hid (w.heap.size < wa.heap.size) := Lib.hid (Nat.lt_of_lt_of_le HQ0.out.lt HBX.out.size)
    have HSB : Hid (wa.heap.size ≤ wb.heap.size) := Lib.hid hbr.size
    clear hpr hnr hbr hb1 hXb hbuild HROW
    go_wp2_with (go_at_call 45; refine HBU.out.mono ?_; intro e wc hx9; obtain ⟨tB, td, os, rfl, hno, heo, hbc⟩ := hx9; refine Hid.out ?_)
    refine Lib.hid ?_
    have HNO := Lib.hid hno
    have HEO := Lib.hid heo
    have HPC := Lib.hid (HPR.out.ext hbc)
    have HB2 : Hid (Below w0.heap.size w0 wc) := Lib.hid (HB1.out.trans (hbc.mono HB1.out.size))
    have HQX := Lib.hid (HQ0.out.below HB2.out HQ0.out.lt)
    have HBX : Hid (Below w.heap.size w wc) := Lib.hid (HB0.out.trans (HB2.out.mono HB0.out.size))
    have d0 := HQX.out.cell_ 0 (.int .i64 0) rfl
    have d1 := HQX.out.cell_ 1 (.slice none 0 0) rfl
    have d2 := HQX.out.cell_ 2 (.slice none 0 0) rfl
    have f0 := HQX.out.frozen 0
    have f1 := HQX.out.frozen 1
    have f2 := HQX.out.frozen 2
    clear hno heo hbc HBU
    go_wp2
    have hk3 : Kept (fun g => g = w.heap.size) wc (((wc.setCell ⟨w.heap.size, 0, none⟩ (.int .i64 q)).setCell ⟨w.heap.size, 1, none⟩ (.slice rA rowP.length rc)).setCell ⟨w.heap.size, 2, none⟩ (.slice tB os.length td)) := (((Kept.refl (fun g => g = w.heap.size) wc).setCell (p := ⟨w.heap.size, 0, none⟩) (Or.inl rfl) _).setCell (p := ⟨w.heap.size, 1, none⟩) (Or.inl rfl) _).setCell (p := ⟨w.heap.size, 2, none⟩) (Or.inl rfl) _
    have hlt := HLW.out
    have hsb := HSB.out
    have hno := HNO.out.kept hk3 (fun g e1 e2 => by have h1 := (own_lt' HNO.out.1 e1).2; omega) (fun y hy g e1 e2 => by have h1 := (own_lt' (HNO.out.2 y hy) e1).2; omega)
    have hpo := ((HPC.out.set_new (p := ⟨w.heap.size, 0, none⟩) HNR.out hlt (.int .i64 q)).set_new (p := ⟨w.heap.size, 1, none⟩) HNR.out hlt (.slice rA rowP.length rc)).set_new (p := ⟨w.heap.size, 2, none⟩) HNR.out hlt (.slice tB os.length td)
    have hbf := ((HBX.out.setCell (p := ⟨w.heap.size, 0, none⟩) (Nat.le_refl _) (.int .i64 q)).setCell (p := ⟨w.heap.size, 1, none⟩) (Nat.le_refl _) (.slice rA rowP.length rc)).setCell (p := ⟨w.heap.size, 2, none⟩) (Nat.le_refl _) (.slice tB os.length td)
    have hq : Blk (((wc.setCell ⟨w.heap.size, 0, none⟩ (.int .i64 q)).setCell ⟨w.heap.size, 1, none⟩ (.slice rA rowP.length rc)).setCell ⟨w.heap.size, 2, none⟩ (.slice tB os.length td)) w.heap.size 25 #[.int .i64 q, .slice rA rowP.length rc, .slice tB os.length td] := ((HQX.out.set_ 0 (.int .i64 q)).set_ 1 (.slice rA rowP.length rc)).set_ 2 (.slice tB os.length td)
    rw [HE.out]
    exact bodyPost_ret (results_ct Tryz.results19 _ _ w.heap.size 25 #[.int .i64 q, .slice rA rowP.length rc, .slice tB os.length td] (0, 0) _ rfl hq Tryz.underlying25 rfl Tryz.sizeTree) rfl
      ⟨q, rA, _, rc, tB, _, td, rfl, ⟨rA, rc, tB, td, os, rfl, hpo, OwnN.reads hno, HEO.out⟩, hbf⟩
end Go.Proofs.YtmlhkbgifnifdaaGreatDoor
namespace Go.Proofs.YtmlhkbgifnifdaaGreatDoor
set_option linter.unusedSimpArgs false
set_option linter.unusedVariables false
open Go.RowKit
set_option maxRecDepth 100000

set_option maxHeartbeats 400000 in
theorem samePtsR (A B : Option Addr) (xs ys : List (Int × Int)) (c d : Nat) (w : World) (ha : Pts w A xs) (hb : Pts w B ys) :
    Calls Tryz.prog 32 #[.slice A xs.length c, .slice B ys.length d] w fun e w' => e = .returned (.bool (decide (xs = ys))) ∧ Qt w w' := by
  have hn := ha.le
  have hm := hb.le
  by_cases hl : xs.length = ys.length
  · have hd : ((xs.length : Int) != ys.length) = false := by simp [hl]
    have HL := Lib.hid hl
    clear hl
    go_enter Tryz.func32, Tryz.ntmps32
    go_wp2
    go_loopw [5] (fun i wr => ∃ k q : Nat, k ≤ xs.length ∧ i = .int .i64 k ∧ wr = w.drewN q ∧ Hid (xs.take k = ys.take k)) (fun i _ => xs.length - (intOf i).toNat)
    case atStart => exact ⟨0, 0, Nat.zero_le _, rfl, rfl, Lib.hid rfl⟩
    case round =>
      obtain ⟨k, q, hk, rfl, rfl, HT⟩ := hrel
      by_cases hlt : k < xs.length
      · have hlt2 : k < ys.length := by have := HL.out; omega
        obtain ⟨b1, o1, rfl, -, hc, hc'⟩ := ha.at_ hlt
        obtain ⟨b2, o2, rfl, -, hc2, hc2'⟩ := hb.at_ hlt2
        go_wp2
        have hst := Tryz.stood_pt
        have heg := Tryz.guard_pt
        have hnq := neq_pt
        go_quiet (fail)
        go_wp2
        · have hne : ¬ xs[k] = ys[k] := ptNe_true ‹_›
          go_ret
          refine ⟨ret_bool (decide_eq_false ?_).symm, (Qt.drewN _ _).step _⟩
          rintro rfl
          exact hne rfl
        · have he : xs[k] = ys[k] := ptNe_false ‹_›
          go_roundw
          case rel => exact ⟨k + 1, _, by omega, by go_num, rfl, Lib.hid (take_eq_snoc HT.out hlt hlt2 he)⟩
          case measure => simp [intOf]; omega
      · have hk' : k = xs.length := by omega
        have hfin : xs = ys := by
          have := HT.out
          rwa [hk', List.take_of_length_le (Nat.le_refl _), List.take_of_length_le (by rw [HL.out]; exact Nat.le_refl _)] at this
        clear hk'
        have HF := Lib.hid hfin
        clear hfin
        go_wp2
        go_ret
        exact ⟨ret_bool (decide_eq_true HF.out).symm, Qt.drewN _ _⟩
  · have hd : ((xs.length : Int) != ys.length) = true := by simp; omega
    have hf : ¬ xs = ys := by
      rintro rfl
      exact hl rfl
    have HF := Lib.hid hf
    clear hl hf
    go_enter Tryz.func32, Tryz.ntmps32
    go_wp2
    go_ret
    exact ⟨ret_bool (decide_eq_false HF.out).symm, Qt.refl _⟩
end Go.Proofs.YtmlhkbgifnifdaaGreatDoor
namespace Go.Proofs.YtmlhkbgifnifdaaGreatDoor
set_option linter.unusedSimpArgs false
open Go.RowKit
set_option maxRecDepth 100000
set_option linter.unusedVariables false

def xsOf (r : Nat) : List Int := (List.range (2 * r + 1)).map fun (i : Nat) => (i : Int) - (r : Int)
def rowOf (r : Nat) (p : Int → Int → Bool) (y : Int) (i : Nat) : List (Int × Int) := (((xsOf r).take i).filter (p · y)).map fun x => (x, y)
def gridOf (r : Nat) (p : Int → Int → Bool) (j : Nat) : List (Int × Int) := ((xsOf r).take j).flatMap fun y => rowOf r p y (2 * r + 1)
theorem xsOf_len (r : Nat) : (xsOf r).length = 2 * r + 1 := by simp [xsOf]
theorem xsOf_take (r i : Nat) (h : i < 2 * r + 1) : (xsOf r).take (i + 1) = (xsOf r).take i ++ [(i : Int) - r] := by
  rw [List.take_succ_eq_append_getElem (by rw [xsOf_len]; exact h)]
  simp [xsOf]
theorem rowOf_yes {r : Nat} {p : Int → Int → Bool} {y : Int} {i : Nat} (h : i < 2 * r + 1) (hp : p ((i : Int) - r) y = true) : rowOf r p y (i + 1) = rowOf r p y i ++ [((i : Int) - r, y)] := by
  simp [rowOf, xsOf_take r i h, hp]
theorem rowOf_no {r : Nat} {p : Int → Int → Bool} {y : Int} {i : Nat} (h : i < 2 * r + 1) (hp : p ((i : Int) - r) y = false) : rowOf r p y (i + 1) = rowOf r p y i := by
  simp [rowOf, xsOf_take r i h, hp]
theorem gridOf_succ {r : Nat} {p : Int → Int → Bool} {j : Nat} (h : j < 2 * r + 1) : gridOf r p (j + 1) = gridOf r p j ++ rowOf r p ((j : Int) - r) (2 * r + 1) := by
  simp [gridOf, xsOf_take r j h]
theorem rowOf_len (r : Nat) (p : Int → Int → Bool) (y : Int) (i : Nat) : (rowOf r p y i).length ≤ 2 * r + 1 := by
  unfold rowOf
  rw [List.length_map]
  refine Nat.le_trans (List.length_filter_le _ _) ?_
  rw [List.length_take, xsOf_len]; omega
theorem gridOf_len (r : Nat) (p : Int → Int → Bool) : ∀ j, j ≤ 2 * r + 1 → (gridOf r p j).length ≤ j * (2 * r + 1)
  | 0, _ => by simp [gridOf]
  | j + 1, h => by
    rw [gridOf_succ (by omega), List.length_append, Nat.add_mul]
    have := gridOf_len r p j (by omega)
    have := rowOf_len r p ((j : Int) - r) (2 * r + 1)
    omega

set_option maxHeartbeats 400000 in
theorem collect_any (r : Nat) (hr : r ≤ 2) (K : FuncId) (cap : Array Value) (p : Int → Int → Bool) (w : World)
    (hent : ∀ (args : Array Value) (w : World), (callFunc K args).run Tryz.prog w = .ok (.enter K args) w)
    (hc : ∀ (x y : Int) (w' : World), -2 ≤ x → x ≤ 2 → -2 ≤ y → y ≤ 2 → Below w.heap.size w w' → Calls Tryz.prog K (#[.int .i64 x, .int .i64 y] ++ cap) w' fun e w'' => e = .returned (.bool (p x y)) ∧ w' = w'') :
    Calls Tryz.prog 91 #[.int .i64 r, .func (.func K) #[] cap] w (RetPts (gridOf r p (2 * r + 1)) w) := by
  have HC := Lib.hid hc
  clear hc
  go_enter Tryz.func91, Tryz.ntmps91
  go_wp2
  go_loopw [5, 6] (fun v y wr => ∃ j : Nat, j ≤ 2 * r + 1 ∧ y = .int .i64 ((j : Int) - r) ∧ OwnP 51 wr w.heap.size v (gridOf r p j) ∧ Below w.heap.size w wr) (fun _ y _ => (r + 1 - intOf y).toNat)
  case atStart => exact ⟨0, by omega, by go_num, OwnP.nil _ _ _, Below.refl _ _⟩
  case round =>
    obtain ⟨j, hj, rfl, hown, hb⟩ := hrel
    by_cases hlt : j < 2 * r + 1
    · have hdec : decide (((j : Int) - r) ≤ (r : Int)) = true := decide_eq_true (by omega)
      go_wp2
      obtain ⟨wo, rfl⟩ : ∃ wo : World, wo = wr := ⟨_, rfl⟩
      go_loopw [5, 7] (fun v x wr => ∃ i : Nat, i ≤ 2 * r + 1 ∧ x = .int .i64 ((i : Int) - r) ∧ OwnP 51 wr w.heap.size v (gridOf r p j ++ rowOf r p ((j : Int) - r) i) ∧ Below w.heap.size w wr) (fun _ x _ => (r + 1 - intOf x).toNat)
      case atStart => exact ⟨0, by omega, by go_num, by simpa [rowOf] using hown, hb⟩
      case round =>
        obtain ⟨i, hi, rfl, hown2, hb2⟩ := hrel
        clear hown
        by_cases hlt2 : i < 2 * r + 1
        · go_wp2_with fail
          have hcall := HC.out ((i : Int) - r) ((j : Int) - r) wr (by omega) (by omega) (by omega) (by omega) hb2
          refine hcall.mono ?_
          rintro e w' ⟨rfl, rfl⟩
          clear hcall
          have hlen := gridOf_len r p j (by omega)
          have hlen2 := rowOf_len r p ((j : Int) - r) i
          have hlen3 : j * (2 * r + 1) ≤ 5 * 5 := Nat.mul_le_mul (by omega) (by omega)
          have hlen4 : (gridOf r p j ++ rowOf r p ((j : Int) - r) i).length < 1000000000000 := by
            rw [List.length_append]; omega
          clear hlen hlen2 hlen3
          cases hp : p ((i : Int) - r) ((j : Int) - r)
          · have HP := rowOf_no hlt2 hp
            have HP2 := Lib.hid HP
            clear HP
            go_wp2
            go_roundw
            case rel => exact ⟨i + 1, by omega, by go_num, by rw [HP2.out]; exact hown2, hb2⟩
            case measure => simp [intOf]; omega
          · have HP := rowOf_yes hlt2 hp
            have HP2 := Lib.hid HP
            clear HP
            go_wp2_with (at_builtin; refine wpList_pushP rfl _ _ _ rfl w.heap.size 51 Tryz.underlying22 Tryz.infoPt _ _ rfl hown2 _ _ rfl hlen4 hb2.size ?_)
            intro v' w1 hown3 hb3
            have hb4 := hb2.trans hb3
            go_wp2
            go_roundw
            case rel => exact ⟨i + 1, by omega, by go_num, by rw [HP2.out]; exact hown3, hb4⟩
            case measure => simp [intOf]; omega
        · obtain rfl : i = 2 * r + 1 := by omega
          have HG := Lib.hid (gridOf_succ (p := p) hlt)
          go_wp2
          go_roundw
          case rel => exact ⟨j + 1, by omega, by go_num, by rw [HG.out]; exact hown2, hb2⟩
          case measure => simp [intOf]; omega
    · obtain rfl : j = 2 * r + 1 := by omega
      obtain ⟨A, c, hv, hp, hnew⟩ := hown.pts
      subst hv
      go_wp2
      go_ret
      exact ⟨A, c, rfl, hp, hnew, hb⟩

theorem enters {P : Program} {f : FuncId} {fn : Func} {c : Code} (hf : P.funcs[f]? = some fn) (hname : (fn.name == "runtime.NumGoroutine") = false) (hb : fn.body = some c) (args : Array Value) (w : World) :
    (callFunc f args).run P w = .ok (.enter f args) w := by
  have h1 : fn.name ≠ "runtime.NumGoroutine" := by simpa using hname
  simp [callFunc, hf, h1, hb]
def inAll (_ _ : Int) : Bool := true
def inDia (r : Nat) (x y : Int) : Bool := decide (x.natAbs + y.natAbs ≤ r)
def inHex (x y : Int) : Bool := decide (0 ≤ x * y)
def mooreL (r : Nat) : List (Int × Int) := gridOf r inAll (2 * r + 1)
def neumL (r : Nat) : List (Int × Int) := gridOf r (inDia r) (2 * r + 1)
def hexL : List (Int × Int) := gridOf 1 inHex 3
set_option maxHeartbeats 400000 in
theorem moore1_any (x y : Int) (w : World) : Calls Tryz.prog 92 #[.int .i64 x, .int .i64 y] w fun e w' => e = .returned (.bool (inAll x y)) ∧ w = w' := by
  go_enter Tryz.func92, Tryz.ntmps92
  go_wp2
  go_ret
  exact ⟨rfl, rfl⟩
set_option maxHeartbeats 400000 in
theorem hex1_any (x y : Int) (w : World) (hx : -2 ≤ x) (hx' : x ≤ 2) (hy : -2 ≤ y) (hy' : y ≤ 2) : Calls Tryz.prog 94 #[.int .i64 x, .int .i64 y] w fun e w' => e = .returned (.bool (inHex x y)) ∧ w = w' := by
  have h1 : -4 ≤ x * y ∧ x * y ≤ 4 := by
    obtain rfl | rfl | rfl | rfl | rfl : x = -2 ∨ x = -1 ∨ x = 0 ∨ x = 1 ∨ x = 2 := by omega
    all_goals omega
  obtain ⟨h1, h2⟩ := h1
  go_enter Tryz.func94, Tryz.ntmps94
  go_wp2
  go_ret
  exact ⟨rfl, rfl⟩
set_option maxHeartbeats 400000 in
theorem neum1_any (r : Nat) (hr : r ≤ 2) (a : Addr) (x y : Int) (w : World) (hc : w.cell? a = some (.int .i64 r)) (hx : -2 ≤ x) (hx' : x ≤ 2) (hy : -2 ≤ y) (hy' : y ≤ 2) :
    Calls Tryz.prog 93 #[.int .i64 x, .int .i64 y, .pointer (some a)] w fun e w' => e = .returned (.bool (inDia r x y)) ∧ w = w' := by
  go_enter Tryz.func93, Tryz.ntmps93
  go_wp2
  all_goals go_ret
  all_goals exact ⟨ret_bool (decide_eq_decide.2 (by omega)), rfl⟩
set_option maxHeartbeats 400000 in
theorem moore_any (r : Nat) (hr : r ≤ 2) (w : World) :
    Calls Tryz.prog 78 #[.int .i64 r] w (RetPts (mooreL r) w) := by
  have hE := enters Tryz.func92 (by kernel_rfl) rfl
  have hC := Lib.hid (collect_any r hr 92 #[] inAll w hE (fun x y w' _ _ _ _ _ => moore1_any x y w'))
  clear hE
  go_enter Tryz.func78, Tryz.ntmps78
  go_wp2_with fail
  refine hC.out.mono ?_
  rintro e w' ⟨A, c, rfl, hp, hnew, hb⟩
  go_wp2
  go_ret
  exact ⟨A, c, rfl, hp, hnew, hb⟩
set_option maxHeartbeats 400000 in
theorem hex_any (w : World) :
    Calls Tryz.prog 80 #[] w (RetPts hexL w) := by
  have hE := enters Tryz.func94 (by kernel_rfl) rfl
  have hC := Lib.hid (collect_any 1 (by omega) 94 #[] inHex w hE (fun x y w' h1 h2 h3 h4 _ => hex1_any x y w' h1 h2 h3 h4))
  clear hE
  go_enter Tryz.func80, Tryz.ntmps80
  go_wp2_with fail
  refine hC.out.mono ?_
  rintro e w' ⟨A, c, rfl, hp, hnew, hb⟩
  go_wp2
  go_ret
  exact ⟨A, c, rfl, hp, hnew, hb⟩
set_option maxHeartbeats 400000 in
theorem neum_any (r : Nat) (hr : r ≤ 2) (w : World) :
    Calls Tryz.prog 79 #[.int .i64 r] w (RetPts (neumL r) w) := by
  have hE := enters Tryz.func93 (by kernel_rfl) rfl
  have hc0 : (w.alloc (.cells #[.int .i64 r] 3)).cell? ⟨w.heap.size, 0, none⟩ = some (.int .i64 r) := cell_of_row _ _ _ _ _ _ (heap_alloc_new w _)
  have hC := Lib.hid (collect_any r hr 93 #[.pointer (some ⟨w.heap.size, 0, none⟩)] (inDia r) (w.alloc (.cells #[.int .i64 r] 3)) hE
    (fun x y w' h1 h2 h3 h4 h5 => neum1_any r hr _ x y w' ((h5.cell (by simp)).trans hc0) h1 h2 h3 h4))
  clear hE hc0
  go_enter Tryz.func79, Tryz.ntmps79
  go_wp2_with fail
  refine hC.out.mono ?_
  rintro e w' ⟨A, c, rfl, hp, hnew, hb⟩
  have hb' := (((Below.refl w.heap.size w).alloc (Nat.le_refl _) (.cells #[.int .i64 r] 3)).trans (hb.mono (by simp)))
  clear hb
  go_wp2
  go_ret
  exact ⟨A, c, rfl, hp, hnew.mono (by simp), hb'⟩
end Go.Proofs.YtmlhkbgifnifdaaGreatDoor
