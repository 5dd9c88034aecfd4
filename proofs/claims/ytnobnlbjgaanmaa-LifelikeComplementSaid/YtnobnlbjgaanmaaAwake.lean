/-
  cellularlaw08.awake: the chapter's examples hold: the walk.
-/
import Derived.Test.YtnobnlbjgaanmaaAwake0
namespace Go.Proofs.Ytnobnlbjgaanmaa
open Go.RowKit
set_option linter.unusedVariables false
set_option linter.unusedSimpArgs false

set_option maxHeartbeats 4000000 in
theorem awake_any (w : World) (hg : Glob w) : Calls Try.prog 8 #[] w fun e w' => e = .returned (.bool true) ∧ Below w.heap.size w w' := by
  have P1 := Lib.hid aw1
  have P2 := Lib.hid aw2
  have P3 := Lib.hid aw3
  have P4 := Lib.hid aw4
  have P5 := Lib.hid aw5
  have F := Lib.hid (And.intro aw6 (And.intro aw7 (And.intro aw8 (And.intro aw9 (And.intro aw10 (And.intro aw11 aw12))))))
  have FW := Lib.hid (show tA = ⟨mooreL 1, 2, [3], [2, 3]⟩ from rfl)
  have FZ := Lib.hid (show zeroT = ⟨[], 0, [], []⟩ from rfl)
  generalize tA = t1 at *
  generalize tU = t2 at *
  generalize tC = t6 at *
  generalize zeroT = t3 at *
  have HG0 := Lib.hid hg
  have HB0 := Lib.hid (Below.refl w.heap.size w)
  clear hg
  go_enter Try.func8, Try.ntmps8
  go_wp2_with fail
  refine (P1.out _ HG0.out).mono ?_
  rintro e w1 ⟨A1, a1, B1, b1, C1, c1, rfl, ht, hb⟩
  dsimp only [totV]
  have HG1 := Lib.hid ((HG0.out.ext hb).ext (below_new w1 (.cells #[.slice A1 t1.hood.length a1, .int .i64 t1.states, .slice B1 t1.birth.length b1, .slice C1 t1.survive.length c1] 25)))
  have HB1 := Lib.hid (Below.alloc (HB0.out.trans (hb.mono HB0.out.size)) (HB0.out.trans (hb.mono HB0.out.size)).size (.cells #[.slice A1 t1.hood.length a1, .int .i64 t1.states, .slice B1 t1.birth.length b1, .slice C1 t1.survive.length c1] 25))
  have X1 := Lib.hid (Box.new ht a1 b1 c1)
  clear ht hb HG0 HB0
  have Y1 := X1
  clear X1
  go_wp2_with fail
  refine (P2.out _ HG1.out).mono ?_
  rintro e w2 ⟨A2, a2, B2, b2, C2, c2, rfl, ht, hb⟩
  dsimp only [totV]
  have X1 := Lib.hid ((Y1.out.ext hb).alloc (.cells #[.slice A2 t2.hood.length a2, .int .i64 t2.states, .slice B2 t2.birth.length b2, .slice C2 t2.survive.length c2] 25))
  clear Y1
  have HG2 := Lib.hid ((HG1.out.ext hb).ext (below_new w2 (.cells #[.slice A2 t2.hood.length a2, .int .i64 t2.states, .slice B2 t2.birth.length b2, .slice C2 t2.survive.length c2] 25)))
  have HB2 := Lib.hid (Below.alloc (HB1.out.trans (hb.mono HB1.out.size)) (HB1.out.trans (hb.mono HB1.out.size)).size (.cells #[.slice A2 t2.hood.length a2, .int .i64 t2.states, .slice B2 t2.birth.length b2, .slice C2 t2.survive.length c2] 25))
  have X2 := Lib.hid (Box.new ht a2 b2 c2)
  clear ht hb HG1 HB1
  have Y1 := X1
  clear X1
  have Y2 := X2
  clear X2
  go_wp2_with fail
  refine (P3.out _ HG2.out).mono ?_
  rintro e w3 ⟨A3, a3, B3, b3, C3, c3, rfl, ht, hb⟩
  dsimp only [totV]
  have X1 := Lib.hid ((Y1.out.ext hb).alloc (.cells #[.slice A3 t3.hood.length a3, .int .i64 t3.states, .slice B3 t3.birth.length b3, .slice C3 t3.survive.length c3] 25))
  clear Y1
  have X2 := Lib.hid ((Y2.out.ext hb).alloc (.cells #[.slice A3 t3.hood.length a3, .int .i64 t3.states, .slice B3 t3.birth.length b3, .slice C3 t3.survive.length c3] 25))
  clear Y2
  have HG3 := Lib.hid ((HG2.out.ext hb).ext (below_new w3 (.cells #[.slice A3 t3.hood.length a3, .int .i64 t3.states, .slice B3 t3.birth.length b3, .slice C3 t3.survive.length c3] 25)))
  have HB3 := Lib.hid (Below.alloc (HB2.out.trans (hb.mono HB2.out.size)) (HB2.out.trans (hb.mono HB2.out.size)).size (.cells #[.slice A3 t3.hood.length a3, .int .i64 t3.states, .slice B3 t3.birth.length b3, .slice C3 t3.survive.length c3] 25))
  clear ht hb HG2 HB2
  have Y1 := X1
  clear X1
  have Y2 := X2
  clear X2
  go_wp2_with fail
  refine (P4.out _ HG3.out).mono ?_
  rintro e w4 ⟨A4, a4, B4, b4, C4, c4, rfl, ht, hb⟩
  dsimp only [totV]
  have X1 := Lib.hid ((Y1.out.ext hb).alloc (.cells #[.slice A4 t3.hood.length a4, .int .i64 t3.states, .slice B4 t3.birth.length b4, .slice C4 t3.survive.length c4] 25))
  clear Y1
  have X2 := Lib.hid ((Y2.out.ext hb).alloc (.cells #[.slice A4 t3.hood.length a4, .int .i64 t3.states, .slice B4 t3.birth.length b4, .slice C4 t3.survive.length c4] 25))
  clear Y2
  have HG4 := Lib.hid ((HG3.out.ext hb).ext (below_new w4 (.cells #[.slice A4 t3.hood.length a4, .int .i64 t3.states, .slice B4 t3.birth.length b4, .slice C4 t3.survive.length c4] 25)))
  have HB4 := Lib.hid (Below.alloc (HB3.out.trans (hb.mono HB3.out.size)) (HB3.out.trans (hb.mono HB3.out.size)).size (.cells #[.slice A4 t3.hood.length a4, .int .i64 t3.states, .slice B4 t3.birth.length b4, .slice C4 t3.survive.length c4] 25))
  clear ht hb HG3 HB3
  have Y1 := X1
  clear X1
  have Y2 := X2
  clear X2
  go_wp2_with fail
  refine (P5.out _ HG4.out).mono ?_
  rintro e w5 ⟨A5, a5, B5, b5, C5, c5, rfl, ht, hb⟩
  dsimp only [totV]
  have X1 := Lib.hid ((Y1.out.ext hb).alloc (.cells #[.slice A5 t3.hood.length a5, .int .i64 t3.states, .slice B5 t3.birth.length b5, .slice C5 t3.survive.length c5] 25))
  clear Y1
  have X2 := Lib.hid ((Y2.out.ext hb).alloc (.cells #[.slice A5 t3.hood.length a5, .int .i64 t3.states, .slice B5 t3.birth.length b5, .slice C5 t3.survive.length c5] 25))
  clear Y2
  have HG5 := Lib.hid ((HG4.out.ext hb).ext (below_new w5 (.cells #[.slice A5 t3.hood.length a5, .int .i64 t3.states, .slice B5 t3.birth.length b5, .slice C5 t3.survive.length c5] 25)))
  have HB5 := Lib.hid (Below.alloc (HB4.out.trans (hb.mono HB4.out.size)) (HB4.out.trans (hb.mono HB4.out.size)).size (.cells #[.slice A5 t3.hood.length a5, .int .i64 t3.states, .slice B5 t3.birth.length b5, .slice C5 t3.survive.length c5] 25))
  clear ht hb HG4 HB4
  have q0 := X1.out.c0
  have q1 := X1.out.c1
  have q2 := X1.out.c2
  have q3 := X1.out.c3
  have HC := Lib.hid (compl_any A1 B1 C1 a1 b1 c1 t1 _ X1.out.tot)
  rw [F.out.2.1] at HC
  unfold totV at HC
  go_wp2_with fail
  refine HC.out.mono ?_
  rintro e w6 ⟨A6, a6, B6, b6, C6, c6, rfl, ht, hb⟩
  dsimp only [totV]
  have HM := Lib.hid (rmoore_one ((w6.alloc (.cells #[.slice A6 t6.hood.length a6, .int .i64 t6.states, .slice B6 t6.birth.length b6, .slice C6 t6.survive.length c6] 25))))
  have Z1 := Lib.hid ((X1.out.ext hb).alloc (.cells #[.slice A6 t6.hood.length a6, .int .i64 t6.states, .slice B6 t6.birth.length b6, .slice C6 t6.survive.length c6] 25))
  have Z2 := Lib.hid ((X2.out.ext hb).alloc (.cells #[.slice A6 t6.hood.length a6, .int .i64 t6.states, .slice B6 t6.birth.length b6, .slice C6 t6.survive.length c6] 25))
  have Z6 := Lib.hid (Box.new ht a6 b6 c6)
  have HB6 := Lib.hid (Below.alloc (HB5.out.trans (hb.mono HB5.out.size)) (HB5.out.trans (hb.mono HB5.out.size)).size (.cells #[.slice A6 t6.hood.length a6, .int .i64 t6.states, .slice B6 t6.birth.length b6, .slice C6 t6.survive.length c6] 25))
  clear ht hb X1 X2 HG5 HB5 q0 q1 q2 q3 HC
  go_wp2_with fail
  refine HM.out.mono ?_
  rintro e w7 ⟨A7, a7, rfl, hp, hn, hb⟩
  clear HM
  have m1 := Below.alloc (below_new w7 (.cells #[.int .i64 3] 3)) (below_new w7 (.cells #[.int .i64 3] 3)).size (.cells #[.int .i64 2, .int .i64 3] 3)
  have m2 := Below.alloc m1 m1.size (.cells #[.slice A7 (mooreL 1).length a7, .int .i64 2, .slice (some ⟨w7.heap.size, 0, none⟩) 1 1, .slice (some ⟨w7.heap.size + 1, 0, none⟩) 2 2] 25)
  have i1 : Ints ((w7.alloc (.cells #[.int .i64 3] 3)).alloc (.cells #[.int .i64 2, .int .i64 3] 3)) (some ⟨w7.heap.size, 0, none⟩) [3] := (ints_new w7 [3] (by decide) (by decide)).ext (below_new _ _)
  have i2 : Ints ((w7.alloc (.cells #[.int .i64 3] 3)).alloc (.cells #[.int .i64 2, .int .i64 3] 3)) (some ⟨w7.heap.size + 1, 0, none⟩) [2, 3] := by
    have := ints_new (w7.alloc (.cells #[.int .i64 3] 3)) [2, 3] (by decide) (by decide)
    simpa using this
  have bx : Box (((w7.alloc (.cells #[.int .i64 3] 3)).alloc (.cells #[.int .i64 2, .int .i64 3] 3)).alloc (.cells #[.slice A7 (mooreL 1).length a7, .int .i64 2, .slice (some ⟨w7.heap.size, 0, none⟩) 1 1, .slice (some ⟨w7.heap.size + 1, 0, none⟩) 2 2] 25)) (w7.heap.size + 2) A7 a7 (some ⟨w7.heap.size, 0, none⟩) 1 (some ⟨w7.heap.size + 1, 0, none⟩) 2 ⟨mooreL 1, 2, [3], [2, 3]⟩ := by
    have := Box.new (t := ⟨mooreL 1, 2, [3], [2, 3]⟩) (TotR.mk (hp.ext m1) i1 i2) a7 1 2
    simpa using this
  have X1 := Lib.hid ((Z1.out.ext hb).ext m2)
  have X2 := Lib.hid ((Z2.out.ext hb).ext m2)
  have X6 := Lib.hid ((Z6.out.ext hb).ext m2)
  have XW := Lib.hid bx
  have HB7 := Lib.hid (((HB6.out.trans (hb.mono HB6.out.size))).trans (m2.mono (HB6.out.trans (hb.mono HB6.out.size)).size))
  clear m1 m2 i1 i2 bx Z1 Z2 Z6 HB6 hb hp hn
  have EQ : sameT t1 ⟨mooreL 1, 2, [3], [2, 3]⟩ = true := by have h := F.out.2.2.2.2.2.1; rw [← FW.out]; exact h
  have EQ2 := Lib.hid EQ
  clear EQ
  have d7 : ((t2.hood.length : Int) == 7) = true := by rw [F.out.2.2.2.2.2.2]; rfl
  have HS := rsame_any A1 B1 C1 A7 (some ⟨w7.heap.size, 0, none⟩) (some ⟨w7.heap.size + 1, 0, none⟩) a1 b1 c1 a7 1 2 t1 ⟨mooreL 1, 2, [3], [2, 3]⟩ _ X1.out.tot XW.out.tot
  rw [EQ2.out] at HS
  unfold totV at HS
  have HS2 := Lib.hid HS
  clear HS
  have HS := HS2
  clear HS2
  have x10 := X1.out.c0
  have x11 := X1.out.c1
  have x12 := X1.out.c2
  have x13 := X1.out.c3
  have xW0 := XW.out.c0
  have xW1 := XW.out.c1
  have xW2 := XW.out.c2
  have xW3 := XW.out.c3
  have u0 := X2.out.c0
  have x60 := X6.out.c0
  have x61 := X6.out.c1
  have x62 := X6.out.c2
  have x63 := X6.out.c3
  go_wp2_with fail
  refine HS.out.mono ?_
  rintro e w8 ⟨rfl, hb⟩
  clear x10 x11 x12 x13 xW0 xW1 xW2 xW3 u0 x60 x61 x62 x63
  have V1 := Lib.hid (X1.out.ext hb)
  clear X1
  have X1 := V1
  clear V1
  have VW := Lib.hid (XW.out.ext hb)
  clear XW
  have XW := VW
  clear VW
  have V2 := Lib.hid (X2.out.ext hb)
  clear X2
  have X2 := V2
  clear V2
  have V6 := Lib.hid (X6.out.ext hb)
  clear X6
  have X6 := V6
  clear V6
  have HB8 := Lib.hid (HB7.out.trans (hb.mono HB7.out.size))
  clear HB7 hb HS
  have HS := right_any A1 B1 C1 a1 b1 c1 t1 _ X1.out.tot
  rw [F.out.1] at HS
  unfold totV at HS
  have HS2 := Lib.hid HS
  clear HS
  have HS := HS2
  clear HS2
  have x10 := X1.out.c0
  have x11 := X1.out.c1
  have x12 := X1.out.c2
  have x13 := X1.out.c3
  have xW0 := XW.out.c0
  have xW1 := XW.out.c1
  have xW2 := XW.out.c2
  have xW3 := XW.out.c3
  have u0 := X2.out.c0
  have x60 := X6.out.c0
  have x61 := X6.out.c1
  have x62 := X6.out.c2
  have x63 := X6.out.c3
  go_wp2_with fail
  refine HS.out.mono ?_
  rintro e w9 ⟨rfl, hb⟩
  clear x10 x11 x12 x13 xW0 xW1 xW2 xW3 u0 x60 x61 x62 x63
  have V1 := Lib.hid (X1.out.ext hb)
  clear X1
  have X1 := V1
  clear V1
  have VW := Lib.hid (XW.out.ext hb)
  clear XW
  have XW := VW
  clear VW
  have V2 := Lib.hid (X2.out.ext hb)
  clear X2
  have X2 := V2
  clear V2
  have V6 := Lib.hid (X6.out.ext hb)
  clear X6
  have X6 := V6
  clear V6
  have HB9 := Lib.hid (HB8.out.trans (hb.mono HB8.out.size))
  clear HB8 hb HS
  have HS := same_any A1 B1 C1 A7 (some ⟨w7.heap.size, 0, none⟩) (some ⟨w7.heap.size + 1, 0, none⟩) a1 b1 c1 a7 1 2 t1 ⟨mooreL 1, 2, [3], [2, 3]⟩ _ X1.out.tot XW.out.tot
  rw [EQ2.out] at HS
  unfold totV at HS
  have HS2 := Lib.hid HS
  clear HS
  have HS := HS2
  clear HS2
  have x10 := X1.out.c0
  have x11 := X1.out.c1
  have x12 := X1.out.c2
  have x13 := X1.out.c3
  have xW0 := XW.out.c0
  have xW1 := XW.out.c1
  have xW2 := XW.out.c2
  have xW3 := XW.out.c3
  have u0 := X2.out.c0
  have x60 := X6.out.c0
  have x61 := X6.out.c1
  have x62 := X6.out.c2
  have x63 := X6.out.c3
  go_wp2_with fail
  refine HS.out.mono ?_
  rintro e w10 ⟨rfl, hb⟩
  clear x10 x11 x12 x13 xW0 xW1 xW2 xW3 u0 x60 x61 x62 x63
  have V1 := Lib.hid (X1.out.ext hb)
  clear X1
  have X1 := V1
  clear V1
  have VW := Lib.hid (XW.out.ext hb)
  clear XW
  have XW := VW
  clear VW
  have V2 := Lib.hid (X2.out.ext hb)
  clear X2
  have X2 := V2
  clear V2
  have V6 := Lib.hid (X6.out.ext hb)
  clear X6
  have X6 := V6
  clear V6
  have HB10 := Lib.hid (HB9.out.trans (hb.mono HB9.out.size))
  clear HB9 hb HS
  have HS := text_any A1 B1 C1 a1 b1 c1 t1 _ X1.out.tot
  rw [F.out.2.2.1] at HS
  unfold totV at HS
  have HS2 := Lib.hid HS
  clear HS
  have HS := HS2
  clear HS2
  have x10 := X1.out.c0
  have x11 := X1.out.c1
  have x12 := X1.out.c2
  have x13 := X1.out.c3
  have xW0 := XW.out.c0
  have xW1 := XW.out.c1
  have xW2 := XW.out.c2
  have xW3 := XW.out.c3
  have u0 := X2.out.c0
  have x60 := X6.out.c0
  have x61 := X6.out.c1
  have x62 := X6.out.c2
  have x63 := X6.out.c3
  go_wp2_with fail
  refine HS.out.mono ?_
  rintro e w11 ⟨rfl, hb⟩
  clear x10 x11 x12 x13 xW0 xW1 xW2 xW3 u0 x60 x61 x62 x63
  have V1 := Lib.hid (X1.out.ext hb)
  clear X1
  have X1 := V1
  clear V1
  have VW := Lib.hid (XW.out.ext hb)
  clear XW
  have XW := VW
  clear VW
  have V2 := Lib.hid (X2.out.ext hb)
  clear X2
  have X2 := V2
  clear V2
  have V6 := Lib.hid (X6.out.ext hb)
  clear X6
  have X6 := V6
  clear V6
  have HB11 := Lib.hid (HB10.out.trans (hb.mono HB10.out.size))
  clear HB10 hb HS
  have HS := text_any A6 B6 C6 a6 b6 c6 t6 _ X6.out.tot
  rw [F.out.2.2.2.1] at HS
  unfold totV at HS
  have HS2 := Lib.hid HS
  clear HS
  have HS := HS2
  clear HS2
  have x10 := X1.out.c0
  have x11 := X1.out.c1
  have x12 := X1.out.c2
  have x13 := X1.out.c3
  have xW0 := XW.out.c0
  have xW1 := XW.out.c1
  have xW2 := XW.out.c2
  have xW3 := XW.out.c3
  have u0 := X2.out.c0
  have x60 := X6.out.c0
  have x61 := X6.out.c1
  have x62 := X6.out.c2
  have x63 := X6.out.c3
  go_wp2_with fail
  refine HS.out.mono ?_
  rintro e w12 ⟨rfl, hb⟩
  clear x10 x11 x12 x13 xW0 xW1 xW2 xW3 u0 x60 x61 x62 x63
  have V1 := Lib.hid (X1.out.ext hb)
  clear X1
  have X1 := V1
  clear V1
  have VW := Lib.hid (XW.out.ext hb)
  clear XW
  have XW := VW
  clear VW
  have V2 := Lib.hid (X2.out.ext hb)
  clear X2
  have X2 := V2
  clear V2
  have V6 := Lib.hid (X6.out.ext hb)
  clear X6
  have X6 := V6
  clear V6
  have HB12 := Lib.hid (HB11.out.trans (hb.mono HB11.out.size))
  clear HB11 hb HS
  have HS := right_any none none none 0 0 0 t3 w12 (TotR.mk (t := t3) (by rw [FZ.out]; exact Pts.nil) (by rw [FZ.out]; exact Ints.nil) (by rw [FZ.out]; exact Ints.nil))
  rw [F.out.2.2.2.2.1] at HS
  unfold totV at HS
  rw [FZ.out] at HS
  have HS2 := Lib.hid HS
  clear HS
  have HS := HS2
  clear HS2
  have x10 := X1.out.c0
  have x11 := X1.out.c1
  have x12 := X1.out.c2
  have x13 := X1.out.c3
  have xW0 := XW.out.c0
  have xW1 := XW.out.c1
  have xW2 := XW.out.c2
  have xW3 := XW.out.c3
  have u0 := X2.out.c0
  have x60 := X6.out.c0
  have x61 := X6.out.c1
  have x62 := X6.out.c2
  have x63 := X6.out.c3
  go_wp2_with fail
  refine HS.out.mono ?_
  rintro e w13 ⟨rfl, hb⟩
  clear x10 x11 x12 x13 xW0 xW1 xW2 xW3 u0 x60 x61 x62 x63
  have V1 := Lib.hid (X1.out.ext hb)
  clear X1
  have X1 := V1
  clear V1
  have VW := Lib.hid (XW.out.ext hb)
  clear XW
  have XW := VW
  clear VW
  have V2 := Lib.hid (X2.out.ext hb)
  clear X2
  have X2 := V2
  clear V2
  have V6 := Lib.hid (X6.out.ext hb)
  clear X6
  have X6 := V6
  clear V6
  have HB13 := Lib.hid (HB12.out.trans (hb.mono HB12.out.size))
  clear HB12 hb HS
  go_wp2
  go_ret
  exact ⟨rfl, HB13.out⟩
end Go.Proofs.Ytnobnlbjgaanmaa
