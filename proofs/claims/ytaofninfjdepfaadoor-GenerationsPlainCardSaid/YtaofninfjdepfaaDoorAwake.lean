/-
  cellularlaw09.awake: the chapter's examples hold. No condition but that the package's variable is there.
-/
import Derived.Test.YtaofninfjdepfaaDoorParseG
import Derived.Test.YtaofninfjdepfaaDoorTextG
import Derived.Test.YtaofninfjdepfaaDoorSame
namespace Go.Proofs.YtaofninfjdepfaaDoor
open Go.RowKit
set_option maxRecDepth 100000
set_option linter.unusedVariables false
set_option linter.unusedSimpArgs false

def tA : TotL := ⟨mooreL 1, 3, [2], []⟩
theorem aw1 (w : World) (hg : Glob w) : Calls Tryd.prog 10 #[.string ⟨#[47, 50, 47, 51]⟩] w (RetTot (tA, 0) w) := by
  have h := gparse_any ⟨#[47, 50, 47, 51]⟩ w hg (by decide)
  rwa [show parseG (ByteArray.mk #[47, 50, 47, 51]).data.toList = (tA, 0) from by decide] at h
theorem aw2 (w : World) (hg : Glob w) : Calls Tryd.prog 10 #[.string ⟨#[66, 50, 47, 83, 47, 67, 51]⟩] w (RetTot (tA, 0) w) := by
  have h := gparse_any ⟨#[66, 50, 47, 83, 47, 67, 51]⟩ w hg (by decide)
  rwa [show parseG (ByteArray.mk #[66, 50, 47, 83, 47, 67, 51]).data.toList = (tA, 0) from by decide] at h
theorem aw3 (w : World) (hg : Glob w) : Calls Tryd.prog 10 #[.string ⟨#[66, 50, 47, 83, 47, 67, 50]⟩] w (RetTot (zeroT, 5) w) := by
  have h := gparse_any ⟨#[66, 50, 47, 83, 47, 67, 50]⟩ w hg (by decide)
  rwa [show parseG (ByteArray.mk #[66, 50, 47, 83, 47, 67, 50]).data.toList = (zeroT, 5) from by decide] at h
theorem aw4 (w : World) (hg : Glob w) : Calls Tryd.prog 10 #[.string ⟨#[66, 51, 47, 83, 50, 51]⟩] w (RetTot (zeroT, 15) w) := by
  have h := gparse_any ⟨#[66, 51, 47, 83, 50, 51]⟩ w hg (by decide)
  rwa [show parseG (ByteArray.mk #[66, 51, 47, 83, 50, 51]).data.toList = (zeroT, 15) from by decide] at h
theorem aw5 (w : World) (hg : Glob w) : Calls Tryd.prog 10 #[.string ⟨#[66, 50, 47, 83, 51, 52, 53, 47, 67, 52, 86]⟩] w (RetTot (zeroT, 5) w) := by
  have h := gparse_any ⟨#[66, 50, 47, 83, 51, 52, 53, 47, 67, 52, 86]⟩ w hg (by decide)
  rwa [show parseG (ByteArray.mk #[66, 50, 47, 83, 51, 52, 53, 47, 67, 52, 86]).data.toList = (zeroT, 5) from by decide] at h
theorem aw6 : textG tA = [66, 50, 47, 83, 47, 67, 51] := by decide
theorem aw7 : nextT tA 0 2 = 1 := by decide
theorem aw8 : nextT tA 1 5 = 2 := by decide
theorem aw9 : nextT tA 2 2 = 0 := by decide
theorem aw10 : ((plainT tA).states == 2) = true := by decide
theorem aw11 : sameT tA tA = true := by decide
theorem aw12 : ((tA.hood.length : Int) != 9) = false := by decide
theorem aw13 : ((zeroT.hood.length : Int) != 0) = false := by decide
set_option maxHeartbeats 4000000 in
theorem awake_any (w : World) (hg : Glob w) : Calls Tryd.prog 9 #[] w fun e w' => e = .returned (.bool true) ∧ Below w.heap.size w w' := by
  have P1 := Lib.hid aw1
  have P2 := Lib.hid aw2
  have P3 := Lib.hid aw3
  have P4 := Lib.hid aw4
  have P5 := Lib.hid aw5
  have F6 := Lib.hid aw6
  have F7 := Lib.hid aw7
  have F8 := Lib.hid aw8
  have F9 := Lib.hid aw9
  have F11 := Lib.hid aw11
  have d1 := aw10
  have d2 := aw12
  have d3 := aw13
  generalize tA = t1 at *
  generalize zeroT = t3 at *
  have HG0 := Lib.hid hg
  have HB0 := Lib.hid (Below.refl w.heap.size w)
  clear hg
  go_enter Tryd.func9, Tryd.ntmps9
  go_wp2_with fail
  refine (P1.out _ HG0.out).mono ?_
  rintro e w1 ⟨A1, a1, B1, b1, C1, c1, rfl, ht, hb⟩
  dsimp only [totV]
  have HG1 := Lib.hid ((HG0.out.ext hb).ext (below_new w1 (.cells #[.slice A1 t1.hood.length a1, .int .i64 t1.states, .slice B1 t1.birth.length b1, .slice C1 t1.survive.length c1] 26)))
  have HB1 := Lib.hid (Below.alloc (HB0.out.trans (hb.mono HB0.out.size)) (HB0.out.trans (hb.mono HB0.out.size)).size (.cells #[.slice A1 t1.hood.length a1, .int .i64 t1.states, .slice B1 t1.birth.length b1, .slice C1 t1.survive.length c1] 26))
  have X1 := Lib.hid (Box.new ht a1 b1 c1)
  clear ht hb HG0 HB0
  have Y1 := X1
  clear X1
  go_wp2_with fail
  refine (P2.out _ HG1.out).mono ?_
  rintro e w2 ⟨A2, a2, B2, b2, C2, c2, rfl, ht, hb⟩
  dsimp only [totV]
  have X1 := Lib.hid ((Y1.out.ext hb).alloc (.cells #[.slice A2 t1.hood.length a2, .int .i64 t1.states, .slice B2 t1.birth.length b2, .slice C2 t1.survive.length c2] 26))
  clear Y1
  have HG2 := Lib.hid ((HG1.out.ext hb).ext (below_new w2 (.cells #[.slice A2 t1.hood.length a2, .int .i64 t1.states, .slice B2 t1.birth.length b2, .slice C2 t1.survive.length c2] 26)))
  have HB2 := Lib.hid (Below.alloc (HB1.out.trans (hb.mono HB1.out.size)) (HB1.out.trans (hb.mono HB1.out.size)).size (.cells #[.slice A2 t1.hood.length a2, .int .i64 t1.states, .slice B2 t1.birth.length b2, .slice C2 t1.survive.length c2] 26))
  have X2 := Lib.hid (Box.new ht a2 b2 c2)
  clear ht hb HG1 HB1
  have Y1 := X1
  clear X1
  have Y2 := X2
  clear X2
  go_wp2_with fail
  refine (P3.out _ HG2.out).mono ?_
  rintro e w3 ⟨A3, a3, B3, b3, C3, c3, rfl, ht, hb⟩
  dsimp only [totV]
  have X1 := Lib.hid ((Y1.out.ext hb).alloc (.cells #[.slice A3 t3.hood.length a3, .int .i64 t3.states, .slice B3 t3.birth.length b3, .slice C3 t3.survive.length c3] 26))
  clear Y1
  have X2 := Lib.hid ((Y2.out.ext hb).alloc (.cells #[.slice A3 t3.hood.length a3, .int .i64 t3.states, .slice B3 t3.birth.length b3, .slice C3 t3.survive.length c3] 26))
  clear Y2
  have HG3 := Lib.hid ((HG2.out.ext hb).ext (below_new w3 (.cells #[.slice A3 t3.hood.length a3, .int .i64 t3.states, .slice B3 t3.birth.length b3, .slice C3 t3.survive.length c3] 26)))
  have HB3 := Lib.hid (Below.alloc (HB2.out.trans (hb.mono HB2.out.size)) (HB2.out.trans (hb.mono HB2.out.size)).size (.cells #[.slice A3 t3.hood.length a3, .int .i64 t3.states, .slice B3 t3.birth.length b3, .slice C3 t3.survive.length c3] 26))
  clear ht hb HG2 HB2
  have Y1 := X1
  clear X1
  have Y2 := X2
  clear X2
  go_wp2_with fail
  refine (P4.out _ HG3.out).mono ?_
  rintro e w4 ⟨A4, a4, B4, b4, C4, c4, rfl, ht, hb⟩
  dsimp only [totV]
  have X1 := Lib.hid ((Y1.out.ext hb).alloc (.cells #[.slice A4 t3.hood.length a4, .int .i64 t3.states, .slice B4 t3.birth.length b4, .slice C4 t3.survive.length c4] 26))
  clear Y1
  have X2 := Lib.hid ((Y2.out.ext hb).alloc (.cells #[.slice A4 t3.hood.length a4, .int .i64 t3.states, .slice B4 t3.birth.length b4, .slice C4 t3.survive.length c4] 26))
  clear Y2
  have HG4 := Lib.hid ((HG3.out.ext hb).ext (below_new w4 (.cells #[.slice A4 t3.hood.length a4, .int .i64 t3.states, .slice B4 t3.birth.length b4, .slice C4 t3.survive.length c4] 26)))
  have HB4 := Lib.hid (Below.alloc (HB3.out.trans (hb.mono HB3.out.size)) (HB3.out.trans (hb.mono HB3.out.size)).size (.cells #[.slice A4 t3.hood.length a4, .int .i64 t3.states, .slice B4 t3.birth.length b4, .slice C4 t3.survive.length c4] 26))
  clear ht hb HG3 HB3
  have Y1 := X1
  clear X1
  have Y2 := X2
  clear X2
  go_wp2_with fail
  refine (P5.out _ HG4.out).mono ?_
  rintro e w5 ⟨A5, a5, B5, b5, C5, c5, rfl, ht, hb⟩
  dsimp only [totV]
  have X1 := Lib.hid ((Y1.out.ext hb).alloc (.cells #[.slice A5 t3.hood.length a5, .int .i64 t3.states, .slice B5 t3.birth.length b5, .slice C5 t3.survive.length c5] 26))
  clear Y1
  have X2 := Lib.hid ((Y2.out.ext hb).alloc (.cells #[.slice A5 t3.hood.length a5, .int .i64 t3.states, .slice B5 t3.birth.length b5, .slice C5 t3.survive.length c5] 26))
  clear Y2
  have HG5 := Lib.hid ((HG4.out.ext hb).ext (below_new w5 (.cells #[.slice A5 t3.hood.length a5, .int .i64 t3.states, .slice B5 t3.birth.length b5, .slice C5 t3.survive.length c5] 26)))
  have HB5 := Lib.hid (Below.alloc (HB4.out.trans (hb.mono HB4.out.size)) (HB4.out.trans (hb.mono HB4.out.size)).size (.cells #[.slice A5 t3.hood.length a5, .int .i64 t3.states, .slice B5 t3.birth.length b5, .slice C5 t3.survive.length c5] 26))
  have X5 := Lib.hid (Box.new ht a5 b5 c5)
  clear ht hb HG4 HB4
  have HS := rsame_any A1 B1 C1 A2 B2 C2 a1 b1 c1 a2 b2 c2 t1 t1 _ X1.out.tot X2.out.tot
  rw [F11.out] at HS
  unfold totV at HS
  have HS2 := Lib.hid HS
  clear HS
  have x10 := X1.out.c0
  have x11 := X1.out.c1
  have x12 := X1.out.c2
  have x13 := X1.out.c3
  have x20 := X2.out.c0
  have x21 := X2.out.c1
  have x22 := X2.out.c2
  have x23 := X2.out.c3
  have x50 := X5.out.c0
  go_wp2_with fail
  refine HS2.out.mono ?_
  rintro e w6 ⟨rfl, hb⟩
  clear x10 x11 x12 x13 x20 x21 x22 x23 x50 HS2 X2 X5
  have Y1 := Lib.hid (X1.out.ext hb)
  have HB6 := Lib.hid (HB5.out.trans (hb.mono HB5.out.size))
  clear X1 hb HB5
  have HS := gtext_any A1 B1 C1 a1 b1 c1 t1 _ Y1.out.tot
  rw [F6.out] at HS
  unfold totV at HS
  have HS2 := Lib.hid HS
  clear HS
  have x10 := Y1.out.c0
  have x11 := Y1.out.c1
  have x12 := Y1.out.c2
  have x13 := Y1.out.c3
  go_wp2_with fail
  refine HS2.out.mono ?_
  rintro e w7 ⟨rfl, hb⟩
  clear x10 x11 x12 x13 HS2
  have X1 := Lib.hid (Y1.out.ext hb)
  have HB7 := Lib.hid (HB6.out.trans (hb.mono HB6.out.size))
  clear Y1 hb HB6
  have Y1 := X1
  clear X1
  have HS := next_any A1 B1 C1 a1 b1 c1 t1 0 2 _ Y1.out.tot
  rw [F7.out] at HS
  unfold totV at HS
  have HS2 := Lib.hid HS
  clear HS
  have x10 := Y1.out.c0
  have x11 := Y1.out.c1
  have x12 := Y1.out.c2
  have x13 := Y1.out.c3
  go_wp2_with fail
  refine HS2.out.mono ?_
  rintro e w8 ⟨rfl, hb⟩
  clear x10 x11 x12 x13 HS2
  have X1 := Lib.hid (Y1.out.ext hb)
  have HB8 := Lib.hid (HB7.out.trans (hb.mono HB7.out.size))
  clear Y1 hb HB7
  have Y1 := X1
  clear X1
  have HS := next_any A1 B1 C1 a1 b1 c1 t1 1 5 _ Y1.out.tot
  rw [F8.out] at HS
  unfold totV at HS
  have HS2 := Lib.hid HS
  clear HS
  have x10 := Y1.out.c0
  have x11 := Y1.out.c1
  have x12 := Y1.out.c2
  have x13 := Y1.out.c3
  go_wp2_with fail
  refine HS2.out.mono ?_
  rintro e w9 ⟨rfl, hb⟩
  clear x10 x11 x12 x13 HS2
  have X1 := Lib.hid (Y1.out.ext hb)
  have HB9 := Lib.hid (HB8.out.trans (hb.mono HB8.out.size))
  clear Y1 hb HB8
  have Y1 := X1
  clear X1
  have HS := next_any A1 B1 C1 a1 b1 c1 t1 2 2 _ Y1.out.tot
  rw [F9.out] at HS
  unfold totV at HS
  have HS2 := Lib.hid HS
  clear HS
  have x10 := Y1.out.c0
  have x11 := Y1.out.c1
  have x12 := Y1.out.c2
  have x13 := Y1.out.c3
  go_wp2_with fail
  refine HS2.out.mono ?_
  rintro e w10 ⟨rfl, hb⟩
  clear x10 x11 x12 x13 HS2
  have X1 := Lib.hid (Y1.out.ext hb)
  have HB10 := Lib.hid (HB9.out.trans (hb.mono HB9.out.size))
  clear Y1 hb HB9
  have Y1 := X1
  clear X1
  have HS := plain_any A1 B1 C1 a1 b1 c1 t1 _ Y1.out.tot
  unfold totV at HS
  have HS2 := Lib.hid HS
  clear HS
  have x10 := Y1.out.c0
  have x11 := Y1.out.c1
  have x12 := Y1.out.c2
  have x13 := Y1.out.c3
  go_wp2_with fail
  refine HS2.out.mono ?_
  rintro e w11 ⟨⟨A', a', B', b', C', c', rfl, -⟩, hb⟩
  have HBZ := Lib.hid (HB10.out.trans (hb.mono HB10.out.size))
  clear HS2 hb
  dsimp only [totV]
  have hfd : ∀ (v0 v2 v3 : Value) (n : Int) (w : World), (Instr.field 26 (.agg #[v0, .int .i64 n, v2, v3]) 1).run Tryd.prog w = .ok (.int .i64 n) w := fun _ _ _ _ _ => by kernel_rfl
  go_wp2_with fail
  go_ret
  exact ⟨rfl, HBZ.out⟩
end Go.Proofs.YtaofninfjdepfaaDoor
