/-
  cellularlaw30.awake: the chapter's examples hold, where the library's variables are there.
-/
import Derived.Test.YtekmldneinnmoaaDoorTxt
import Derived.Test.YtekmldneinnmoaaDoorPars
import Derived.ChangeKeysEq
namespace Go.Proofs.YtekmldneinnmoaaDoor
open Go.RowKit
set_option maxRecDepth 100000
set_option linter.unusedVariables false
set_option linter.unusedSimpArgs false

def awR : List Cel := [⟨0, 0, 1⟩, ⟨1, 0, 1⟩, ⟨2, 0, 1⟩]
def awP : List Cel := [⟨5, 5, 1⟩, ⟨7, 5, 2⟩, ⟨5, 8, 1⟩]
theorem guard_run : Tryd.prog.eqGuardType Tryd.prog.depth 31 = false := by kernel_rfl
theorem cells_int : Tryd.prog.cellsOf 3 = 1 := by kernel_rfl
theorem neq_run (a b c d : Int) (w : World) : (binOp .neq 31 (.agg #[.int .i64 a, .int .i64 b]) (.agg #[.int .i64 c, .int .i64 d])).run Tryd.prog w = .ok (.bool (!((a == c) && (b == d)))) w := by
  have hii : (Tryd.prog.info? 3).isSome = true := by kernel_rfl
  obtain ⟨i0, hi⟩ := Option.isSome_iff_exists.1 hii
  rw [run_neq_struct, show (10000 : Nat) = 9999 + 1 from rfl, run_equalIn_array _ 9999 _ _ Tryd.underlying31 hi, cells_int]
  simp [Op.eqItems, List.range, List.range.loop, go_sem, cells_int]
  by_cases h2 : a = c <;> by_cases h3 : b = d <;> simp [h2, h3]
theorem cls_new (w : World) (ps : List Cel) (h : ps.length ≤ 1000) : Cls (w.alloc (.cells (ps.flatMap celCells).toArray 42)) (some ⟨w.heap.size, 0, none⟩) ps := by
  have hl : (ps.flatMap celCells).length = 3 * ps.length := by
    clear h
    induction ps with
    | nil => rfl
    | cons a l ih => rw [List.flatMap_cons, List.length_append, ih]; simp [celCells]; omega
  refine ⟨⟨?_, fun _ => ⟨_, rfl, by simp, fun j v hv => ?_⟩⟩, by omega⟩
  · first | exact hl | (rw [hl]; omega)
  · rw [addr_add]
    have : (w.alloc (.cells (ps.flatMap celCells).toArray 42)).cell? ⟨w.heap.size, 0 + j, none⟩ = (ps.flatMap celCells).toArray[0 + j]? := cell_of_row _ _ _ _ _ _ (heap_alloc_new w _)
    rw [this]
    simpa using hv
theorem it3 : Lib.itoa 3 = [51] := by rw [show (3 : Int) = ((3 : Nat) : Int) from rfl, itoa_nat, dec_small (by decide)]; rfl
theorem it1 : Lib.itoa 1 = [49] := by rw [show (1 : Int) = ((1 : Nat) : Int) from rfl, itoa_nat, dec_small (by decide)]; rfl
theorem it4 : Lib.itoa 4 = [52] := by rw [show (4 : Int) = ((4 : Nat) : Int) from rfl, itoa_nat, dec_small (by decide)]; rfl
theorem awT1 : textL awR [66, 51, 47, 83, 50, 51] = ([120, 32, 61, 32, 51, 44, 32, 121, 32, 61, 32, 49, 44, 32, 114, 117, 108, 101, 32, 61, 32, 66, 51, 47, 83, 50, 51, 10, 51, 111, 33, 10], 0) := by
  have hb : (boxC awR).1 = ⟨0, 0, 3, 1⟩ := by decide
  have hr : runsL awR = [(3, 1)] := by decide
  have ht : topC awR = 1 := by decide
  have hf : fullT awR [66, 51, 47, 83, 50, 51] = [120, 32, 61, 32, 51, 44, 32, 121, 32, 61, 32, 49, 44, 32, 114, 117, 108, 101, 32, 61, 32, 66, 51, 47, 83, 50, 51, 10, 51, 111, 33, 10] := by
    unfold fullT itemsL
    rw [hb, hr, ht]
    unfold headL
    dsimp only [List.map]
    unfold itemC
    dsimp only
    rw [it3, it1]
    decide
  unfold textL
  rw [hb, hf, if_neg (by decide), if_neg (by decide), if_neg (by decide), if_neg (by decide)]
theorem awT2 : textL awP [82] = ([120, 32, 61, 32, 51, 44, 32, 121, 32, 61, 32, 52, 44, 32, 114, 117, 108, 101, 32, 61, 32, 82, 10, 65, 46, 66, 51, 36, 65, 33, 10], 0) := by
  have hb : (boxC awP).1 = ⟨5, 5, 3, 4⟩ := by decide
  have hr : runsL awP = [(1, 1), (1, 0), (1, 2), (3, -1), (1, 1)] := by decide
  have ht : topC awP = 2 := by decide
  have hf : fullT awP [82] = [120, 32, 61, 32, 51, 44, 32, 121, 32, 61, 32, 52, 44, 32, 114, 117, 108, 101, 32, 61, 32, 82, 10, 65, 46, 66, 51, 36, 65, 33, 10] := by
    unfold fullT itemsL
    rw [hb, hr, ht]
    unfold headL
    dsimp only [List.map]
    unfold itemC
    dsimp only
    rw [it3, it4]
    decide
  unfold textL
  rw [hb, hf, if_neg (by decide), if_neg (by decide), if_neg (by decide), if_neg (by decide)]
theorem awN : runsL awP = [(1, 1), (1, 0), (1, 2), (3, -1), (1, 1)] ∧ rightC awP = true := by decide
theorem awQ1 : parseL [35, 32, 111, 110, 101, 32, 114, 111, 119, 10, 120, 32, 61, 32, 51, 44, 32, 121, 32, 61, 32, 49, 44, 32, 114, 117, 108, 101, 32, 61, 32, 66, 51, 47, 83, 50, 51, 10, 32, 51, 111, 32, 33, 114, 101, 115, 116] = (awR, [66, 51, 47, 83, 50, 51], 0) := by decide
theorem awQc1 (w : World) (hg : GCell w) : Calls Tryd.prog 12 #[.string ⟨#[35, 32, 111, 110, 101, 32, 114, 111, 119, 10, 120, 32, 61, 32, 51, 44, 32, 121, 32, 61, 32, 49, 44, 32, 114, 117, 108, 101, 32, 61, 32, 66, 51, 47, 83, 50, 51, 10, 32, 51, 111, 32, 33, 114, 101, 115, 116]⟩] w (RetParse (awR, [66, 51, 47, 83, 50, 51], 0) w) := by
  have h := parse_any [35, 32, 111, 110, 101, 32, 114, 111, 119, 10, 120, 32, 61, 32, 51, 44, 32, 121, 32, 61, 32, 49, 44, 32, 114, 117, 108, 101, 32, 61, 32, 66, 51, 47, 83, 50, 51, 10, 32, 51, 111, 32, 33, 114, 101, 115, 116] w hg (by decide)
  rwa [awQ1] at h
theorem awQ2 : parseL [120, 32, 61, 32, 50, 44, 32, 121, 32, 61, 32, 49, 44, 32, 114, 117, 108, 101, 32, 61, 32, 82, 10, 51, 111, 33] = ([], [], 5) := by decide
theorem awQc2 (w : World) (hg : GCell w) : Calls Tryd.prog 12 #[.string ⟨#[120, 32, 61, 32, 50, 44, 32, 121, 32, 61, 32, 49, 44, 32, 114, 117, 108, 101, 32, 61, 32, 82, 10, 51, 111, 33]⟩] w (RetParse ([], [], 5) w) := by
  have h := parse_any [120, 32, 61, 32, 50, 44, 32, 121, 32, 61, 32, 49, 44, 32, 114, 117, 108, 101, 32, 61, 32, 82, 10, 51, 111, 33] w hg (by decide)
  rwa [awQ2] at h
theorem awQ3 : parseL [120, 32, 61, 32, 50, 44, 32, 121, 32, 61, 32, 49, 44, 32, 114, 117, 108, 101, 32, 61, 32, 82, 10, 50, 111] = ([], [], 4) := by decide
theorem awQc3 (w : World) (hg : GCell w) : Calls Tryd.prog 12 #[.string ⟨#[120, 32, 61, 32, 50, 44, 32, 121, 32, 61, 32, 49, 44, 32, 114, 117, 108, 101, 32, 61, 32, 82, 10, 50, 111]⟩] w (RetParse ([], [], 4) w) := by
  have h := parse_any [120, 32, 61, 32, 50, 44, 32, 121, 32, 61, 32, 49, 44, 32, 114, 117, 108, 101, 32, 61, 32, 82, 10, 50, 111] w hg (by decide)
  rwa [awQ3] at h
theorem awQ4 : parseL [120, 32, 61, 32, 50, 44, 32, 121, 32, 61, 32, 49, 44, 32, 114, 117, 108, 101, 32, 61, 32, 82, 10, 48, 50, 111, 33] = ([], [], 15) := by decide
theorem awQc4 (w : World) (hg : GCell w) : Calls Tryd.prog 12 #[.string ⟨#[120, 32, 61, 32, 50, 44, 32, 121, 32, 61, 32, 49, 44, 32, 114, 117, 108, 101, 32, 61, 32, 82, 10, 48, 50, 111, 33]⟩] w (RetParse ([], [], 15) w) := by
  have h := parse_any [120, 32, 61, 32, 50, 44, 32, 121, 32, 61, 32, 49, 44, 32, 114, 117, 108, 101, 32, 61, 32, 82, 10, 48, 50, 111, 33] w hg (by decide)
  rwa [awQ4] at h
theorem pts5 {w : World} {A : Option Addr} {l : List (Int × Int)} (h : Pts w A l) (h5 : l.length = 5) : ∃ b o, A = some ⟨b, o, none⟩ ∧ b < w.heap.size ∧ ∀ k (hk : k < l.length), w.cell? ⟨b, o + k * 2, none⟩ = some (.int .i64 l[k].1) ∧ w.cell? ⟨b, o + k * 2 + 1, none⟩ = some (.int .i64 l[k].2) := by
  obtain ⟨b, o, e, hb, -, -⟩ := h.at_ (k := 0) (by omega)
  refine ⟨b, o, e, hb, fun k hk => ?_⟩
  obtain ⟨b', o', e', -, h1, h2⟩ := h.at_ hk
  rw [e] at e'
  injection e' with e'
  injection e' with e1 e2
  subst e1 e2
  exact ⟨h1, h2⟩
set_option maxHeartbeats 8000000 in
theorem awake_any (w : World) (hg : Glob w) : Calls Tryd.prog 7 #[] w fun e w' => e = .returned (.bool true) ∧ Below w.heap.size w w' := by
  have hc1 := cls_new w awR (by decide)
  have hb1 := below_new w (.cells (awR.flatMap celCells).toArray 42)
  obtain ⟨w1, hw1⟩ : ∃ w1, w1 = w.alloc (.cells (awR.flatMap celCells).toArray 42) := ⟨_, rfl⟩
  rw [← hw1] at hc1 hb1
  have hc2 := cls_new w1 awP (by decide)
  have hb2 := below_new w1 (.cells (awP.flatMap celCells).toArray 42)
  obtain ⟨w2, hw2⟩ : ∃ w2, w2 = w1.alloc (.cells (awP.flatMap celCells).toArray 42) := ⟨_, rfl⟩
  rw [← hw2] at hc2 hb2
  have HW1 : Hid (w1 = w.alloc (.cells #[.int .i64 0, .int .i64 0, .int .i64 1, .int .i64 1, .int .i64 0, .int .i64 1, .int .i64 2, .int .i64 0, .int .i64 1] 42)) := Lib.hid hw1
  have HW2 : Hid (w2 = w1.alloc (.cells #[.int .i64 5, .int .i64 5, .int .i64 1, .int .i64 7, .int .i64 5, .int .i64 2, .int .i64 5, .int .i64 8, .int .i64 1] 42)) := Lib.hid hw2
  have hs1 : w1.heap.size = w.heap.size + 1 := by rw [hw1]; simp
  have HS1 := Lib.hid hs1
  have HB2 := Lib.hid (hb1.trans (hb2.mono hb1.size))
  have HR2 := Lib.hid (hc1.ext hb2)
  have HP2 := Lib.hid hc2
  rw [hs1] at HP2
  have HG2 := Lib.hid (hg.ext HB2.out)
  clear hc1 hb1 hc2 hb2 hw1 hw2 hs1 hg
  have C1 : Hid (Calls Tryd.prog 8 #[.slice (some ⟨w.heap.size, 0, none⟩) 3 3, .string ⟨#[66, 51, 47, 83, 50, 51]⟩] w2 fun e w' => e = .returned (.tuple #[.string ⟨#[120, 32, 61, 32, 51, 44, 32, 121, 32, 61, 32, 49, 44, 32, 114, 117, 108, 101, 32, 61, 32, 66, 51, 47, 83, 50, 51, 10, 51, 111, 33, 10]⟩, .int .i64 0]) ∧ Below w2.heap.size w2 w') := Lib.hid (by
    have h := text_any (some ⟨w.heap.size, 0, none⟩) 3 awR [66, 51, 47, 83, 50, 51] w2 HG2.out HR2.out (by decide)
    rw [awT1] at h
    exact h)
  have C2 : Hid (∀ w', Below w2.heap.size w2 w' → Calls Tryd.prog 10 #[.slice (some ⟨w.heap.size + 1, 0, none⟩) 3 3] w' fun e w'' => ∃ A c, e = .returned (.tuple #[.slice A 5 c, .int .i64 0]) ∧ Pts w'' A [(1, 1), (1, 0), (1, 2), (3, -1), (1, 1)] ∧ Below w'.heap.size w' w'') := Lib.hid (fun w' hb => by
    have h := Runs_any (some ⟨w.heap.size + 1, 0, none⟩) 3 awP w' (HP2.out.ext hb)
    refine Calls.mono h ?_
    rintro e w'' ⟨A, c, rfl, h1, -, h3⟩
    rw [awN.1] at h1 ⊢
    rw [awN.2]
    exact ⟨A, c, rfl, h1, h3⟩)
  have C3 : Hid (∀ w', Below w2.heap.size w2 w' → Calls Tryd.prog 8 #[.slice (some ⟨w.heap.size + 1, 0, none⟩) 3 3, .string ⟨#[82]⟩] w' fun e w'' => e = .returned (.tuple #[.string ⟨#[120, 32, 61, 32, 51, 44, 32, 121, 32, 61, 32, 52, 44, 32, 114, 117, 108, 101, 32, 61, 32, 82, 10, 65, 46, 66, 51, 36, 65, 33, 10]⟩, .int .i64 0]) ∧ Below w'.heap.size w' w'') := Lib.hid (fun w' hb => by
    have h := text_any (some ⟨w.heap.size + 1, 0, none⟩) 3 awP [82] w' (HG2.out.ext hb) (HP2.out.ext hb) (by decide)
    rw [awT2] at h
    exact h)
  have P1 := Lib.hid awQc1
  have P2 := Lib.hid awQc2
  have P3 := Lib.hid awQc3
  have P4 := Lib.hid awQc4
  unfold RetParse at P1 P2 P3 P4
  go_enter Tryd.func7, Tryd.ntmps7
  go_upto_region 2 with fail
  rw [← HW1.out]
  go_upto_region 3 with fail
  rw [← HW2.out]
  rw [HS1.out]
  go_wp2_with fail
  refine C1.out.mono ?_
  rintro e w3 ⟨rfl, hb3⟩
  have HB3 := Lib.hid hb3
  clear hb3
  have D2 := Lib.hid (C2.out w3 HB3.out)
  go_wp2_with fail
  refine D2.out.mono ?_
  rintro e w4 ⟨A, c, rfl, hp4, hb4⟩
  have HB4 := Lib.hid (HB3.out.trans (hb4.mono HB3.out.size))
  have HN4 := Lib.hid hp4
  clear hp4 hb4
  have D3 := Lib.hid (C3.out w4 HB4.out)
  go_wp2_with fail
  refine D3.out.mono ?_
  rintro e w5 ⟨rfl, hb5⟩
  have HN5 := Lib.hid (HN4.out.ext hb5)
  have HB5 := Lib.hid (HB4.out.trans (hb5.mono HB4.out.size))
  clear hb5
  have E1 := Lib.hid (P1.out w5 (HG2.out.ext HB5.out).1)
  go_wp2_with fail
  refine E1.out.mono ?_
  rintro e w6 ⟨A1, c1, rfl, hcl, hb⟩
  have HN6 := Lib.hid (HN5.out.ext hb)
  have HB6 := Lib.hid (HB5.out.trans (hb.mono HB5.out.size))
  have HQ6 := Lib.hid hcl
  clear hcl hb
  have E2 := Lib.hid (P2.out w6 (HG2.out.ext HB6.out).1)
  go_wp2_with fail
  refine E2.out.mono ?_
  rintro e w7 ⟨A2, c2, rfl, hcl, hb⟩
  have HN7 := Lib.hid (HN6.out.ext hb)
  have HB7 := Lib.hid (HB6.out.trans (hb.mono HB6.out.size))
  have HQ7 := Lib.hid (HQ6.out.ext hb)
  clear hcl hb
  have E3 := Lib.hid (P3.out w7 (HG2.out.ext HB7.out).1)
  go_wp2_with fail
  refine E3.out.mono ?_
  rintro e w8 ⟨A3, c3, rfl, hcl, hb⟩
  have HN8 := Lib.hid (HN7.out.ext hb)
  have HB8 := Lib.hid (HB7.out.trans (hb.mono HB7.out.size))
  have HQ8 := Lib.hid (HQ7.out.ext hb)
  clear hcl hb
  have E4 := Lib.hid (P4.out w8 (HG2.out.ext HB8.out).1)
  go_wp2_with fail
  refine E4.out.mono ?_
  rintro e w9 ⟨A4, c4, rfl, hcl, hb⟩
  have HN9 := Lib.hid (HN8.out.ext hb)
  have HB9 := Lib.hid (HB8.out.trans (hb.mono HB8.out.size))
  have HQ9 := Lib.hid (HQ8.out.ext hb)
  clear hcl hb
  have HSM : Hid (Calls Tryd.prog 14 #[.slice A1 3 c1, .slice (some ⟨w.heap.size, 0, none⟩) 3 3] w9 fun e w' => e = .returned (.bool true) ∧ Below w9.heap.size w9 w') := Lib.hid (by
    have h := rsame_any A1 (some ⟨w.heap.size, 0, none⟩) c1 3 awR awR w9 HQ9.out (HR2.out.ext HB9.out)
    rw [show sameC awR awR = true from by decide] at h
    exact h)
  obtain ⟨b, o, rfl, -, hc⟩ := pts5 HN9.out rfl
  have x0 : w9.cell? ⟨b, o, none⟩ = some (.int .i64 1) := (hc 0 (by decide)).1
  have y0 : w9.cell? ⟨b, o + 1, none⟩ = some (.int .i64 1) := (hc 0 (by decide)).2
  have x1 : w9.cell? ⟨b, o + 2, none⟩ = some (.int .i64 1) := (hc 1 (by decide)).1
  have y1 : w9.cell? ⟨b, o + 3, none⟩ = some (.int .i64 0) := (hc 1 (by decide)).2
  have x2 : w9.cell? ⟨b, o + 4, none⟩ = some (.int .i64 1) := (hc 2 (by decide)).1
  have y2 : w9.cell? ⟨b, o + 5, none⟩ = some (.int .i64 2) := (hc 2 (by decide)).2
  have x3 : w9.cell? ⟨b, o + 6, none⟩ = some (.int .i64 3) := (hc 3 (by decide)).1
  have y3 : w9.cell? ⟨b, o + 7, none⟩ = some (.int .i64 (-1)) := (hc 3 (by decide)).2
  have x4 : w9.cell? ⟨b, o + 8, none⟩ = some (.int .i64 1) := (hc 4 (by decide)).1
  have y4 : w9.cell? ⟨b, o + 9, none⟩ = some (.int .i64 1) := (hc 4 (by decide)).2
  clear hc
  have hnq := neq_run
  have heg := guard_run
  go_upto_region 10 with fail
  go_wp2_with fail
  refine HSM.out.mono ?_
  rintro e w10 ⟨rfl, hb10⟩
  have HB10 := Lib.hid (HB9.out.trans (hb10.mono HB9.out.size))
  clear hb10
  go_wp2
  go_ret
  exact ⟨rfl, HB2.out.trans (HB10.out.mono HB2.out.size)⟩
end Go.Proofs.YtekmldneinnmoaaDoor
