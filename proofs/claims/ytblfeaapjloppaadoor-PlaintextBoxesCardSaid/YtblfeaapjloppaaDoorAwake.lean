/-
  cellularlaw31.awake: the chapter's examples hold.
-/
import Derived.Test.YtblfeaapjloppaaDoorDrwW
import Derived.Test.YtblfeaapjloppaaDoorPars
namespace Go.Proofs.YtblfeaapjloppaaDoor
open Go.RowKit
set_option maxRecDepth 100000
set_option linter.unusedVariables false
set_option linter.unusedSimpArgs false

def awG : List Cel := [⟨1, 0, 1⟩, ⟨2, 1, 1⟩, ⟨0, 2, 1⟩, ⟨1, 2, 1⟩, ⟨2, 2, 1⟩]
def awT : List Cel := [⟨0, 1, 1⟩, ⟨1, 1, 2⟩]
def awO : List Cel := [⟨0, 1, 1⟩]
theorem cls_new (w : World) (ps : List Cel) (h : ps.length ≤ 1000) : Cls (w.alloc (.cells (ps.flatMap celCells).toArray 34)) (some ⟨w.heap.size, 0, none⟩) ps := by
  have hl : (ps.flatMap celCells).length = 3 * ps.length := by
    clear h
    induction ps with
    | nil => rfl
    | cons a l ih => rw [List.flatMap_cons, List.length_append, ih]; simp [celCells]; omega
  refine ⟨⟨?_, fun _ => ⟨_, rfl, by simp, fun j v hv => ?_⟩⟩, by omega⟩
  · first | exact hl | (rw [hl]; omega)
  · rw [addr_add]
    have : (w.alloc (.cells (ps.flatMap celCells).toArray 34)).cell? ⟨w.heap.size, 0 + j, none⟩ = (ps.flatMap celCells).toArray[0 + j]? := cell_of_row _ _ _ _ _ _ (heap_alloc_new w _)
    rw [this]
    simpa using hv
def aw1 : List UInt8 := [46, 79, 10, 46, 46, 79, 10, 79, 79, 79]
theorem awP1 : rm aw1 ⟨[], 0, 0, false, true⟩ = (awG, 0) := by decide
theorem awP2 : rm [33, 120, 10, 10, 49] ⟨[], 0, 0, false, true⟩ = (awO, 0) := by decide
theorem awP3 : rm [56] ⟨[], 0, 0, false, true⟩ = ([], 15) := by decide
theorem awT1 : textT awG = ([46, 79, 10, 46, 46, 79, 10, 79, 79, 79, 10], 0) := by decide
theorem awT2 : textT awT = ([10, 49, 50, 10], 0) := by decide
theorem awD1 : drawT awO ⟨-1, 0, 3, 2⟩ = ([46, 46, 46, 10, 46, 79, 46, 10], 0) := by decide
theorem awC1 (w : World) : Calls Tryd.prog 9 #[.string ⟨#[46, 79, 10, 46, 46, 79, 10, 79, 79, 79]⟩] w (RetRead (awG, 0) w) := by
  have h := parse_any ⟨#[46, 79, 10, 46, 46, 79, 10, 79, 79, 79]⟩ w (by decide)
  rw [show (⟨#[46, 79, 10, 46, 46, 79, 10, 79, 79, 79]⟩ : ByteArray).data.toList = aw1 from rfl, awP1] at h
  exact h
theorem awC2 (w : World) : Calls Tryd.prog 9 #[.string ⟨#[33, 120, 10, 10, 49]⟩] w (RetRead (awO, 0) w) := by
  have h := parse_any ⟨#[33, 120, 10, 10, 49]⟩ w (by decide)
  rw [show (⟨#[33, 120, 10, 10, 49]⟩ : ByteArray).data.toList = [33, 120, 10, 10, 49] from rfl, awP2] at h
  exact h
theorem awC3 (w : World) : Calls Tryd.prog 9 #[.string ⟨#[56]⟩] w (RetRead ([], 15) w) := by
  have h := parse_any ⟨#[56]⟩ w (by decide)
  rw [show (⟨#[56]⟩ : ByteArray).data.toList = [56] from rfl, awP3] at h
  exact h
set_option maxHeartbeats 8000000 in
theorem awake_any (w : World) : Calls Tryd.prog 8 #[] w fun e w' => e = .returned (.bool true) ∧ Below w.heap.size w w' := by
  have hc1 := cls_new w awG (by decide)
  have hb1 := below_new w (.cells (awG.flatMap celCells).toArray 34)
  obtain ⟨w1, hw1⟩ : ∃ w1, w1 = w.alloc (.cells (awG.flatMap celCells).toArray 34) := ⟨_, rfl⟩
  rw [← hw1] at hc1 hb1
  have HW1 : Hid (w1 = w.alloc (.cells #[.int .i64 1, .int .i64 0, .int .i64 1, .int .i64 2, .int .i64 1, .int .i64 1, .int .i64 0, .int .i64 2, .int .i64 1, .int .i64 1, .int .i64 2, .int .i64 1, .int .i64 2, .int .i64 2, .int .i64 1] 34)) := Lib.hid hw1
  have HB1 := Lib.hid hb1
  have HC1 := Lib.hid hc1
  clear hc1 hb1 hw1
  have C1 := Lib.hid awC1
  have C2 := Lib.hid awC2
  have C3 := Lib.hid awC3
  unfold RetRead at C1 C2 C3
  have T1 : Hid (∀ W, Cls W (some ⟨w.heap.size, 0, none⟩) awG → Calls Tryd.prog 12 #[.slice (some ⟨w.heap.size, 0, none⟩) 5 5] W fun e w' => e = .returned (.tuple #[.string ⟨#[46, 79, 10, 46, 46, 79, 10, 79, 79, 79, 10]⟩, .int .i64 0]) ∧ Below W.heap.size W w') := Lib.hid (fun W h => by
    have h := text_any (some ⟨w.heap.size, 0, none⟩) 5 awG W h
    rw [awT1] at h
    exact h)
  have T2 : Hid (∀ W, Calls Tryd.prog 12 #[.slice (some ⟨W.heap.size, 0, none⟩) 2 2] (W.alloc (.cells #[.int .i64 0, .int .i64 1, .int .i64 1, .int .i64 1, .int .i64 1, .int .i64 2] 34)) fun e w' => e = .returned (.tuple #[.string ⟨#[10, 49, 50, 10]⟩, .int .i64 0]) ∧ Below W.heap.size W w') := Lib.hid (fun W => by
    have h := text_any (some ⟨W.heap.size, 0, none⟩) 2 awT _ (cls_new W awT (by decide))
    rw [awT2] at h
    refine Calls.mono h ?_
    rintro e w' ⟨he, hb⟩
    have hn := below_new W (.cells (awT.flatMap celCells).toArray 34)
    exact ⟨he, hn.trans (hb.mono hn.size)⟩)
  have D1 : Hid (∀ W A c, Cls W A awO → Calls Tryd.prog 14 #[.slice A 1 c, .agg #[.int .i64 (-1), .int .i64 0, .int .i64 3, .int .i64 2]] W fun e w' => e = .returned (.tuple #[.string ⟨#[46, 46, 46, 10, 46, 79, 46, 10]⟩, .int .i64 0]) ∧ Below W.heap.size W w') := Lib.hid (fun W A c h => by
    have h := draw_any A c awO ⟨-1, 0, 3, 2⟩ W h
    rw [awD1] at h
    exact h)
  have S1 : Hid (∀ W A c, Cls W A awG → Cls W (some ⟨w.heap.size, 0, none⟩) awG → Calls Tryd.prog 11 #[.slice A 5 c, .slice (some ⟨w.heap.size, 0, none⟩) 5 5] W fun e w' => e = .returned (.bool true) ∧ Below W.heap.size W w') := Lib.hid (fun W A c h h2 => by
    have h := rsame_any A (some ⟨w.heap.size, 0, none⟩) c 5 awG awG W h h2
    rw [show sameC awG awG = true from by decide] at h
    exact h)
  have S2 : Hid (∀ W A c, Cls W A awO → Calls Tryd.prog 11 #[.slice A 1 c, .slice (some ⟨W.heap.size, 0, none⟩) 1 1] (W.alloc (.cells #[.int .i64 0, .int .i64 1, .int .i64 1] 34)) fun e w' => e = .returned (.bool true) ∧ Below W.heap.size W w') := Lib.hid (fun W A c h => by
    have hn := below_new W (.cells (awO.flatMap celCells).toArray 34)
    have h := rsame_any A (some ⟨W.heap.size, 0, none⟩) c 1 awO awO _ (h.ext hn) (cls_new W awO (by decide))
    rw [show sameC awO awO = true from by decide] at h
    refine Calls.mono h ?_
    rintro e w' ⟨he, hb⟩
    exact ⟨he, hn.trans (hb.mono hn.size)⟩)
  go_enter Tryd.func8, Tryd.ntmps8
  go_upto_region 2 with fail
  rw [← HW1.out]
  go_wp2_with fail
  refine (C1.out _).mono ?_
  rintro e w2 ⟨A1, c1, rfl, hcl, hb⟩
  have HB2 := Lib.hid (HB1.out.trans (hb.mono HB1.out.size))
  have HG2 := Lib.hid (HC1.out.ext hb)
  have HP2 := Lib.hid hcl
  clear hcl hb
  have E1 := Lib.hid (T1.out w2 HG2.out)
  go_wp2_with fail
  refine E1.out.mono ?_
  rintro e w3 ⟨rfl, hb⟩
  have HB3 := Lib.hid (HB2.out.trans (hb.mono HB2.out.size))
  have HG3 := Lib.hid (HG2.out.ext hb)
  have HP3 := Lib.hid (HP2.out.ext hb)
  clear hb
  have E2 := Lib.hid (T2.out w3)
  go_wp2_with fail
  refine E2.out.mono ?_
  rintro e w4 ⟨rfl, hb⟩
  have HB4 := Lib.hid (HB3.out.trans (hb.mono HB3.out.size))
  have HG4 := Lib.hid (HG3.out.ext hb)
  have HP4 := Lib.hid (HP3.out.ext hb)
  clear hb
  go_wp2_with fail
  refine (C2.out _).mono ?_
  rintro e w5 ⟨A2, c2, rfl, hcl, hb⟩
  have HB5 := Lib.hid (HB4.out.trans (hb.mono HB4.out.size))
  have HG5 := Lib.hid (HG4.out.ext hb)
  have HP5 := Lib.hid (HP4.out.ext hb)
  have HO5 := Lib.hid hcl
  clear hcl hb
  go_wp2_with fail
  refine (C3.out _).mono ?_
  rintro e w6 ⟨A3, c3, rfl, -, hb⟩
  have HB6 := Lib.hid (HB5.out.trans (hb.mono HB5.out.size))
  have HG6 := Lib.hid (HG5.out.ext hb)
  have HP6 := Lib.hid (HP5.out.ext hb)
  have HO6 := Lib.hid (HO5.out.ext hb)
  clear hb
  have E3 := Lib.hid (D1.out w6 A2 c2 HO6.out)
  go_wp2_with fail
  refine E3.out.mono ?_
  rintro e w7 ⟨rfl, hb⟩
  have HB7 := Lib.hid (HB6.out.trans (hb.mono HB6.out.size))
  have HG7 := Lib.hid (HG6.out.ext hb)
  have HP7 := Lib.hid (HP6.out.ext hb)
  have HO7 := Lib.hid (HO6.out.ext hb)
  clear hb
  have E4 := Lib.hid (S1.out w7 A1 c1 HP7.out HG7.out)
  go_wp2_with fail
  refine E4.out.mono ?_
  rintro e w8 ⟨rfl, hb⟩
  have HB8 := Lib.hid (HB7.out.trans (hb.mono HB7.out.size))
  have HO8 := Lib.hid (HO7.out.ext hb)
  clear hb
  have E5 := Lib.hid (S2.out w8 A2 c2 HO8.out)
  go_wp2_with fail
  refine E5.out.mono ?_
  rintro e w9 ⟨rfl, hb⟩
  have HB9 := Lib.hid (HB8.out.trans (hb.mono HB8.out.size))
  clear hb
  go_wp2
  go_ret
  exact ⟨rfl, HB9.out⟩
end Go.Proofs.YtblfeaapjloppaaDoor
