/-
  A variable of api.Totals in memory, and the literals of the chapter's examples. No condition.
  The chapter's examples: the walk. No condition but that the library's table is there.
-/
import Derived.Test.YtmlhkbgifnifdaaGreatDoorZG23
import Derived.Test.YtmlhkbgifnifdaaGreatDoorZG16
import Derived.Test.YtmlhkbgifnifdaaGreatDoorZG22
import Derived.Test.YtmlhkbgifnifdaaGreatDoorZG11
namespace Go.Proofs.YtmlhkbgifnifdaaGreatDoor
set_option linter.unusedSimpArgs false
open Go.RowKit Go.Maps
set_option linter.unusedVariables false
set_option maxRecDepth 100000

/-- the four cells of a rule by counts -/
structure TtV (w : World) (p : Nat) (A : Option Addr) (n a : Nat) (s : Int) (B : Option Addr) (m b : Nat) (C : Option Addr) (k c : Nat) (x : TotL) : Prop where
  blk : Blk w p 30 #[.slice A n a, .int .i64 s, .slice B m b, .slice C k c]
  at_ : TotR w A B C x
  len0 : n = x.hood.length
  st_ : s = x.states
  len1 : m = x.birth.length
  len2 : k = x.survive.length
section
variable {w w' : World} {p : Nat} {s : Int} {A B C : Option Addr} {n a m b k c : Nat} {x y : TotL} {v : Value}
theorem TtV.ext (h : TtV w p A n a s B m b C k c x) (hb : Below w.heap.size w w') : TtV w' p A n a s B m b C k c x := ⟨h.blk.below hb h.blk.lt, h.at_.ext hb, h.len0, h.st_, h.len1, h.len2⟩
theorem TtV.cells (h : TtV w p A n a s B m b C k c x) : w.cell? ⟨p, 0, none⟩ = some (.slice A n a) ∧ w.cell? ⟨p, 1, none⟩ = some (.int .i64 s) ∧ w.cell? ⟨p, 2, none⟩ = some (.slice B m b) ∧ w.cell? ⟨p, 3, none⟩ = some (.slice C k c) :=
  ⟨h.blk.cell_ 0 (.slice A n a) rfl, h.blk.cell_ 1 (.int .i64 s) rfl, h.blk.cell_ 2 (.slice B m b) rfl, h.blk.cell_ 3 (.slice C k c) rfl⟩
theorem TtV.val (h : TtV w p A n a s B m b C k c x) : (.agg #[.slice A n a, .int .i64 s, .slice B m b, .slice C k c] : Value) = totV A a B b C c x := by
  obtain ⟨-, -, rfl, rfl, rfl, rfl⟩ := h
  rfl
theorem TtV.new {A B C : Option Addr} {a b c : Nat} (h : TotR w A B C x) : TtV (w.alloc (.cells #[.slice A x.hood.length a, .int .i64 x.states, .slice B x.birth.length b, .slice C x.survive.length c] 30)) w.heap.size A x.hood.length a x.states B x.birth.length b C x.survive.length c x :=
  ⟨Blk.new _ _ _, h.ext (below_new _ _), rfl, rfl, rfl, rfl⟩
theorem totals_tv (h : TtV w p A n a s B m b C k c x) (hT : TabB w.heap.size w) : Calls Tryz.prog 10 #[.agg #[.slice A n a, .int .i64 s, .slice B m b, .slice C k c]] w (RetAE (totT x) w) := by
  rw [h.val]; exact totals_any _ _ _ _ _ _ _ _ h.at_ hT
theorem tsame_tv {p' : Nat} {s' : Int} {A' B' C' : Option Addr} {n' a' m' b' k' c' : Nat} (h : TtV w p A n a s B m b C k c x) (h' : TtV w p' A' n' a' s' B' m' b' C' k' c' y) :
    Calls Tryz.prog 9 #[.agg #[.slice A n a, .int .i64 s, .slice B m b, .slice C k c], .agg #[.slice A' n' a', .int .i64 s', .slice B' m' b', .slice C' k' c']] w fun e w' => e = .returned (.bool (sameTot x y)) ∧ Below w.heap.size w w' := by
  rw [h.val, h'.val]; exact rtsame_any _ _ _ _ _ _ _ _ _ _ _ _ _ _ _ h.at_ h'.at_
theorem back_tv {t : PT} (h : TreeAt w v t) (hT : TabB w.heap.size w) : Calls Tryz.prog 7 #[v] w (RetTot (backP t) w) := by
  obtain ⟨A, c, B, d, os, rfl, h1, h2, h3⟩ := h
  have := tback_any t.st A c t.ps B d os w h1 h2 hT
  rw [h3] at this
  exact this
end
theorem ints1 (w : World) (base : Nat) (hb : base ≤ w.heap.size) (a : Int) : OwnIA (w.alloc (.cells #[.int .i64 a] 3)) base (.slice (some ⟨w.heap.size, 0, none⟩) 1 1) [a] :=
  World.ownsRow_lit (base := base) (e := 3) (size := 1) w #[.int .i64 a] 1 hb (by decide) rfl
theorem ints2 (w : World) (base : Nat) (hb : base ≤ w.heap.size) (a b : Int) : OwnIA (w.alloc (.cells #[.int .i64 a, .int .i64 b] 3)) base (.slice (some ⟨w.heap.size, 0, none⟩) 2 2) [a, b] :=
  World.ownsRow_lit (base := base) (e := 3) (size := 1) w #[.int .i64 a, .int .i64 b] 2 hb (by decide) rfl
theorem ints3 (w : World) (base : Nat) (hb : base ≤ w.heap.size) (a b c : Int) : OwnIA (w.alloc (.cells #[.int .i64 a, .int .i64 b, .int .i64 c] 3)) base (.slice (some ⟨w.heap.size, 0, none⟩) 3 3) [a, b, c] :=
  World.ownsRow_lit (base := base) (e := 3) (size := 1) w #[.int .i64 a, .int .i64 b, .int .i64 c] 3 hb (by decide) rfl
theorem ints9 (w : World) (base : Nat) (hb : base ≤ w.heap.size) (a b c d e f g h i : Int) : OwnIA (w.alloc (.cells #[.int .i64 a, .int .i64 b, .int .i64 c, .int .i64 d, .int .i64 e, .int .i64 f, .int .i64 g, .int .i64 h, .int .i64 i] 3)) base (.slice (some ⟨w.heap.size, 0, none⟩) 9 9) [a, b, c, d, e, f, g, h, i] :=
  World.ownsRow_lit (base := base) (e := 3) (size := 1) w #[.int .i64 a, .int .i64 b, .int .i64 c, .int .i64 d, .int .i64 e, .int .i64 f, .int .i64 g, .int .i64 h, .int .i64 i] 9 hb (by decide) rfl
theorem size_new (w : World) (b : Obj) : (w.alloc b).heap.size = w.heap.size + 1 := by simp
/-- the rule of the examples, behind its neighbourhood -/
theorem lit_life (w wz : World) (A : Option Addr) (n a : Nat) (hn : n = (mooreL 1).length) (hp : Pts w A (mooreL 1)) (hz : wz = ((w.alloc (.cells #[.int .i64 3] 3)).alloc (.cells #[.int .i64 2, .int .i64 3] 3)).alloc (.cells #[.slice A n a, .int .i64 2, .slice (some ⟨w.heap.size, 0, none⟩) 1 1, .slice (some ⟨w.heap.size + 1, 0, none⟩) 2 2] 30)) :
    Below w.heap.size w wz ∧ TtV wz (w.heap.size + 1 + 1) A n a 2 (some ⟨w.heap.size, 0, none⟩) 1 1 (some ⟨w.heap.size + 1, 0, none⟩) 2 2 lifeT := by
  obtain ⟨w1, h1⟩ : ∃ w1, w1 = w.alloc (.cells #[.int .i64 3] 3) := ⟨_, rfl⟩
  obtain ⟨w2, h2⟩ : ∃ w2, w2 = w1.alloc (.cells #[.int .i64 2, .int .i64 3] 3) := ⟨_, rfl⟩
  rw [← h1, ← h2] at hz
  have z1 : w1.heap.size = w.heap.size + 1 := by rw [h1]; exact size_new _ _
  have z2 : w2.heap.size = w.heap.size + 1 + 1 := by rw [h2, size_new, z1]
  have b1 : Below w.heap.size w w1 := by rw [h1]; exact below_new _ _
  have b2 : Below w1.heap.size w1 w2 := by rw [h2]; exact below_new _ _
  have b3 : Below w2.heap.size w2 wz := by rw [hz]; exact below_new _ _
  have b23 := b2.trans (b3.mono b2.size)
  have b13 := b1.trans (b23.mono b1.size)
  have i1 : OwnIA w1 w.heap.size (.slice (some ⟨w.heap.size, 0, none⟩) 1 1) [3] := by rw [h1]; exact ints1 w _ (Nat.le_refl _) 3
  have i2 : OwnIA w2 w.heap.size (.slice (some ⟨w.heap.size + 1, 0, none⟩) 2 2) [2, 3] := by
    have : OwnIA w2 w.heap.size (.slice (some ⟨w1.heap.size, 0, none⟩) 2 2) [2, 3] := by rw [h2]; exact ints2 w1 _ b1.size 2 3
    rw [z1] at this
    exact this
  refine ⟨b13, ?_, ⟨hp.ext b13, (OwnI.reads i1).ext b23, (OwnI.reads i2).ext b3⟩, hn, rfl, rfl, rfl⟩
  rw [hz, ← z2]
  exact Blk.new _ _ _
/-- the wanted tree, behind its neighbourhood -/
theorem lit_want (w wz : World) (A : Option Addr) (n a : Nat) (hn : n = rowP.length) (hp : Pts w A rowP) (hz : wz = ((((w.alloc (.cells #[.int .i64 0, .int .i64 0] 3)).alloc (.cells #[.int .i64 0, .int .i64 0] 3)).alloc (.cells #[.int .i64 1, .int .i64 1] 3)).alloc
      (.cells #[.int .i64 1, .slice (some ⟨w.heap.size, 0, none⟩) 2 2, .int .i64 2, .slice (some ⟨w.heap.size + 1, 0, none⟩) 2 2, .int .i64 3, .slice (some ⟨w.heap.size + 1 + 1, 0, none⟩) 2 2] 42)).alloc
      (.cells #[.int .i64 2, .slice A n a, .slice (some ⟨w.heap.size + 1 + 1 + 1, 0, none⟩) 3 3] 25)) :
    Below w.heap.size w wz ∧ TrV wz (w.heap.size + 1 + 1 + 1 + 1) 2 A n a (some ⟨w.heap.size + 1 + 1 + 1, 0, none⟩) 3 3 wantT := by
  obtain ⟨w1, h1⟩ : ∃ w1, w1 = w.alloc (.cells #[.int .i64 0, .int .i64 0] 3) := ⟨_, rfl⟩
  obtain ⟨w2, h2⟩ : ∃ w2, w2 = w1.alloc (.cells #[.int .i64 0, .int .i64 0] 3) := ⟨_, rfl⟩
  obtain ⟨w3, h3⟩ : ∃ w3, w3 = w2.alloc (.cells #[.int .i64 1, .int .i64 1] 3) := ⟨_, rfl⟩
  obtain ⟨w4, h4⟩ : ∃ w4, w4 = w3.alloc (.cells #[.int .i64 1, .slice (some ⟨w.heap.size, 0, none⟩) 2 2, .int .i64 2, .slice (some ⟨w.heap.size + 1, 0, none⟩) 2 2, .int .i64 3, .slice (some ⟨w.heap.size + 1 + 1, 0, none⟩) 2 2] 42) := ⟨_, rfl⟩
  rw [← h1, ← h2, ← h3, ← h4] at hz
  have z1 : w1.heap.size = w.heap.size + 1 := by rw [h1]; exact size_new _ _
  have z2 : w2.heap.size = w.heap.size + 1 + 1 := by rw [h2, size_new, z1]
  have z3 : w3.heap.size = w.heap.size + 1 + 1 + 1 := by rw [h3, size_new, z2]
  have z4 : w4.heap.size = w.heap.size + 1 + 1 + 1 + 1 := by rw [h4, size_new, z3]
  have b1 : Below w.heap.size w w1 := by rw [h1]; exact below_new _ _
  have b2 : Below w1.heap.size w1 w2 := by rw [h2]; exact below_new _ _
  have b3 : Below w2.heap.size w2 w3 := by rw [h3]; exact below_new _ _
  have b4 : Below w3.heap.size w3 w4 := by rw [h4]; exact below_new _ _
  have b5 : Below w4.heap.size w4 wz := by rw [hz]; exact below_new _ _
  have b45 := b4.trans (b5.mono b4.size)
  have b35 := b3.trans (b45.mono b3.size)
  have b25 := b2.trans (b35.mono b2.size)
  have b15 := b1.trans (b25.mono b1.size)
  have i1 : OwnIA wz w.heap.size (.slice (some ⟨w.heap.size, 0, none⟩) 2 2) [0, 0] := by
    have : OwnIA w1 w.heap.size (.slice (some ⟨w.heap.size, 0, none⟩) 2 2) [0, 0] := by rw [h1]; exact ints2 w _ (Nat.le_refl _) 0 0
    exact OwnI.ext this b25
  have i2 : OwnIA wz w.heap.size (.slice (some ⟨w.heap.size + 1, 0, none⟩) 2 2) [0, 0] := by
    have : OwnIA w2 w.heap.size (.slice (some ⟨w1.heap.size, 0, none⟩) 2 2) [0, 0] := by rw [h2]; exact ints2 w1 _ b1.size 0 0
    rw [z1] at this
    exact OwnI.ext this b35
  have i3 : OwnIA wz w.heap.size (.slice (some ⟨w.heap.size + 1 + 1, 0, none⟩) 2 2) [1, 1] := by
    have : OwnIA w3 w.heap.size (.slice (some ⟨w2.heap.size, 0, none⟩) 2 2) [1, 1] := by rw [h3]; exact ints2 w2 _ (by rw [z2]; omega) 1 1
    rw [z2] at this
    exact OwnI.ext this b45
  have hn4 : OwnNA w4 w.heap.size (.slice (some ⟨w.heap.size + 1 + 1 + 1, 0, none⟩) 3 3) [⟨1, some ⟨w.heap.size, 0, none⟩, 2, [0, 0]⟩, ⟨2, some ⟨w.heap.size + 1, 0, none⟩, 2, [0, 0]⟩, ⟨3, some ⟨w.heap.size + 1 + 1, 0, none⟩, 2, [1, 1]⟩] → OwnNA wz w.heap.size (.slice (some ⟨w.heap.size + 1 + 1 + 1, 0, none⟩) 3 3) [⟨1, some ⟨w.heap.size, 0, none⟩, 2, [0, 0]⟩, ⟨2, some ⟨w.heap.size + 1, 0, none⟩, 2, [0, 0]⟩, ⟨3, some ⟨w.heap.size + 1 + 1, 0, none⟩, 2, [1, 1]⟩] := fun h => OwnN.ext h b5
  have j1 : OwnIA w4 w.heap.size (.slice (some ⟨w.heap.size, 0, none⟩) 2 2) [0, 0] := by
    have : OwnIA w1 w.heap.size (.slice (some ⟨w.heap.size, 0, none⟩) 2 2) [0, 0] := by rw [h1]; exact ints2 w _ (Nat.le_refl _) 0 0
    exact OwnI.ext this (b2.trans ((b3.trans (b4.mono b3.size)).mono b2.size))
  have j2 : OwnIA w4 w.heap.size (.slice (some ⟨w.heap.size + 1, 0, none⟩) 2 2) [0, 0] := by
    have : OwnIA w2 w.heap.size (.slice (some ⟨w1.heap.size, 0, none⟩) 2 2) [0, 0] := by rw [h2]; exact ints2 w1 _ b1.size 0 0
    rw [z1] at this
    exact OwnI.ext this (b3.trans (b4.mono b3.size))
  have j3 : OwnIA w4 w.heap.size (.slice (some ⟨w.heap.size + 1 + 1, 0, none⟩) 2 2) [1, 1] := by
    have : OwnIA w3 w.heap.size (.slice (some ⟨w2.heap.size, 0, none⟩) 2 2) [1, 1] := by rw [h3]; exact ints2 w2 _ (by rw [z2]; omega) 1 1
    rw [z2] at this
    exact OwnI.ext this b4
  have hn' := hn4 (by
    refine ⟨?_, fun h hh => ?_⟩
    · rw [h4, ← z3]
      exact World.ownsRow_lit (base := w.heap.size) (e := 42) (size := 2) w3 _ 3 (by rw [z3]; omega) (by decide) rfl
    · simp only [List.mem_cons, List.not_mem_nil, or_false] at hh
      rcases hh with rfl | rfl | rfl
      · exact j1
      · exact j2
      · exact j3)
  rw [hn]
  rw [hn] at hz
  refine ⟨b15, ?_, ⟨_, _, _, _, _, rfl, hp.ext b15, OwnN.reads hn', rfl⟩⟩
  rw [hz, ← z4]
  exact Blk.new _ _ _
/-- the values -/
def lifeU : PT := (totT lifeT).1
def zeroU : PT := (elemT 0).1
def sumsU : PT := (sumT 2 0).1
def backZ : TotL := (backP zeroU).1
theorem life_tot : totT lifeT = (lifeU, 0) := by
  have h : (totT lifeT).2 = 0 := by
    unfold totT
    rw [if_pos life_right]
  rw [← h]
  rfl
theorem zero_tot : elemT 0 = (zeroU, 0) := Prod.ext rfl zero_ok
theorem sums_tot : sumT 2 0 = (sumsU, 0) := Prod.ext rfl sums_ok0
theorem life_e1 : evalP lifeU [1, 1, 1, 0, 0, 0, 0, 0, 0] = (1, 0) := life_1
theorem life_e2 : evalP lifeU [1, 1, 1, 0, 1, 1, 1, 0, 0] = (0, 0) := life_2
theorem life_bk : backP lifeU = (lifeT, true) := life_back
theorem zero_bk : backP zeroU = (backZ, false) := Prod.ext rfl zero_back
theorem zero_sm : sameP zeroU wantT = true := zero_want
theorem sums_sm : sameP sumsU wantT = true := sums_want
end Go.Proofs.YtmlhkbgifnifdaaGreatDoor
namespace Go.Proofs.YtmlhkbgifnifdaaGreatDoor
open Go.RowKit Go.Maps
set_option maxRecDepth 100000
set_option linter.unusedVariables false
set_option linter.unusedSimpArgs false
set_option maxHeartbeats 16000000 in
theorem alive_any (w : World) (ht : TabB w.heap.size w) : Calls Tryz.prog 6 #[] w fun e w' => e = .returned (.bool true) ∧ Below w.heap.size w w' := by
  have HTAB := Lib.hid ht
  have HB : Hid (Below w.heap.size w w) := Lib.hid (Below.refl _ _)
  have HML := Lib.hid (rmoore_one w)
  clear ht
  go_enter Tryz.func6, Tryz.ntmps6
  go_wp2_with (go_at_call 17; refine HML.out.mono ?_; rintro e x0 ⟨A0, c0, rfl, hp0, -, hb⟩; refine Hid.out ?_)
  refine Lib.hid ?_
  obtain ⟨n0, hn0⟩ : ∃ n0, n0 = (mooreL 1).length := ⟨_, rfl⟩
  rw [← hn0]
  clear HML
  have HBx := Lib.hid (HB.out.trans (hb.mono HB.out.size))
  clear HB
  have HB := HBx
  clear HBx
  obtain ⟨y0, hw⟩ : ∃ W, W = ((x0.alloc (.cells #[.int .i64 3] 3)).alloc (.cells #[.int .i64 2, .int .i64 3] 3)).alloc (.cells #[.slice A0 n0 c0, .int .i64 2, .slice (some ⟨x0.heap.size, 0, none⟩) 1 1, .slice (some ⟨x0.heap.size + 1, 0, none⟩) 2 2] 30) := ⟨_, rfl⟩
  obtain ⟨pL, hpL⟩ : ∃ p, p = x0.heap.size + 1 + 1 := ⟨_, rfl⟩
  obtain ⟨BL, hBL⟩ : ∃ b : Option Addr, b = some ⟨x0.heap.size, 0, none⟩ := ⟨_, rfl⟩
  obtain ⟨CL, hCL⟩ : ∃ b : Option Addr, b = some ⟨x0.heap.size + 1, 0, none⟩ := ⟨_, rfl⟩
  obtain ⟨hb1, hL⟩ := lit_life x0 y0 A0 n0 c0 hn0 hp0 hw
  rw [← hBL, ← hCL, ← hpL] at hL
  rw [← hBL, ← hCL] at hw
  clear hb hn0 hp0
  have HBx := Lib.hid (HB.out.trans (hb1.mono HB.out.size))
  clear HB
  have HB := HBx
  clear HBx
  have HL := Lib.hid hL
  clear hb1 hL
  have HW := Lib.hid (And.intro hw (And.intro hpL (And.intro hBL hCL)))
  clear hw hpL hBL hCL
  go_upto_region 2 with fail
  rw [← HW.out.2.1, ← HW.out.2.2.1, ← HW.out.2.2.2, ← HW.out.1]
  clear HW
  obtain ⟨cL0, cL1, cL2, cL3⟩ := HL.out.cells
  have hcall := totals_tv HL.out ((HTAB.out.on HB.out).up HB.out.size)
  rw [life_tot] at hcall
  have HCALL := Lib.hid hcall
  clear hcall
  go_wp2_with (go_at_call 10; refine HCALL.out.mono ?_; intro e x1 hx; obtain ⟨s1, A1, n1, c1, B1, m1, d1, rfl, hat, hb⟩ := hx; refine Hid.out ?_)
  refine Lib.hid ?_
  have HBx := Lib.hid (HB.out.trans (hb.mono HB.out.size))
  clear HB
  have HB := HBx
  clear HBx
  have Hx := Lib.hid (HL.out.ext hb)
  clear HL
  have HL := Hx
  clear Hx
  clear hb HCALL
  clear cL0 cL1 cL2 cL3
  obtain ⟨y1, hw⟩ : ∃ W, W = x1.alloc (.cells #[.int .i64 s1, .slice A1 n1 c1, .slice B1 m1 d1] 25) := ⟨_, rfl⟩
  obtain ⟨pT, hp⟩ : ∃ p, p = x1.heap.size := ⟨_, rfl⟩
  have hv := TrV.new hat
  rw [← hw, ← hp] at hv
  have hb : Below x1.heap.size x1 y1 := by rw [hw]; exact below_new _ _
  have HBx := Lib.hid (HB.out.trans (hb.mono HB.out.size))
  clear HB
  have HB := HBx
  clear HBx
  have Hx := Lib.hid (HL.out.ext hb)
  clear HL
  have HL := Hx
  clear Hx
  have HT := Lib.hid hv
  clear hv hb hat
  go_upto_region 3 with fail
  rw [← hw, ← hp]
  clear hw hp
  have hcall := telem_any 0 y1 ((HTAB.out.on HB.out).up HB.out.size)
  rw [zero_tot] at hcall
  have HCALL := Lib.hid hcall
  clear hcall
  go_wp2_with (go_at_call 18; refine HCALL.out.mono ?_; intro e x2 hx; obtain ⟨s2, A2, n2, c2, B2, m2, d2, rfl, hat, hb⟩ := hx; refine Hid.out ?_)
  refine Lib.hid ?_
  have HBx := Lib.hid (HB.out.trans (hb.mono HB.out.size))
  clear HB
  have HB := HBx
  clear HBx
  have Hx := Lib.hid (HT.out.ext hb)
  clear HT
  have HT := Hx
  clear Hx
  have Hx := Lib.hid (HL.out.ext hb)
  clear HL
  have HL := Hx
  clear Hx
  clear hb HCALL
  obtain ⟨y2, hw⟩ : ∃ W, W = x2.alloc (.cells #[.int .i64 s2, .slice A2 n2 c2, .slice B2 m2 d2] 25) := ⟨_, rfl⟩
  obtain ⟨pZ, hp⟩ : ∃ p, p = x2.heap.size := ⟨_, rfl⟩
  have hv := TrV.new hat
  rw [← hw, ← hp] at hv
  have hb : Below x2.heap.size x2 y2 := by rw [hw]; exact below_new _ _
  have HBx := Lib.hid (HB.out.trans (hb.mono HB.out.size))
  clear HB
  have HB := HBx
  clear HBx
  have Hx := Lib.hid (HT.out.ext hb)
  clear HT
  have HT := Hx
  clear Hx
  have Hx := Lib.hid (HL.out.ext hb)
  clear HL
  have HL := Hx
  clear Hx
  have HZ := Lib.hid hv
  clear hv hb hat
  go_upto_region 4 with fail
  rw [← hw, ← hp]
  clear hw hp
  have hcall := tsums_any 2 0 y2 ((HTAB.out.on HB.out).up HB.out.size) (by decide)
  rw [sums_tot] at hcall
  have HCALL := Lib.hid hcall
  clear hcall
  go_wp2_with (go_at_call 19; refine HCALL.out.mono ?_; intro e x3 hx; obtain ⟨s3, A3, n3, c3, B3, m3, d3, rfl, hat, hb⟩ := hx; refine Hid.out ?_)
  refine Lib.hid ?_
  have HBx := Lib.hid (HB.out.trans (hb.mono HB.out.size))
  clear HB
  have HB := HBx
  clear HBx
  have Hx := Lib.hid (HT.out.ext hb)
  clear HT
  have HT := Hx
  clear Hx
  have Hx := Lib.hid (HZ.out.ext hb)
  clear HZ
  have HZ := Hx
  clear Hx
  have Hx := Lib.hid (HL.out.ext hb)
  clear HL
  have HL := Hx
  clear Hx
  clear hb HCALL
  obtain ⟨y3, hw⟩ : ∃ W, W = x3.alloc (.cells #[.int .i64 s3, .slice A3 n3 c3, .slice B3 m3 d3] 25) := ⟨_, rfl⟩
  obtain ⟨pS, hp⟩ : ∃ p, p = x3.heap.size := ⟨_, rfl⟩
  have hv := TrV.new hat
  rw [← hw, ← hp] at hv
  have hb : Below x3.heap.size x3 y3 := by rw [hw]; exact below_new _ _
  have HBx := Lib.hid (HB.out.trans (hb.mono HB.out.size))
  clear HB
  have HB := HBx
  clear HBx
  have Hx := Lib.hid (HT.out.ext hb)
  clear HT
  have HT := Hx
  clear Hx
  have Hx := Lib.hid (HZ.out.ext hb)
  clear HZ
  have HZ := Hx
  clear Hx
  have Hx := Lib.hid (HL.out.ext hb)
  clear HL
  have HL := Hx
  clear Hx
  have HS := Lib.hid hv
  clear hv hb hat
  go_upto_region 5 with fail
  rw [← hw, ← hp]
  clear hw hp
  have HRW := Lib.hid (rrow_any y3)
  go_wp2_with (go_at_call 20; refine HRW.out.mono ?_; rintro e xr ⟨Ar, cr, rfl, hpr, -, hb⟩; refine Hid.out ?_)
  refine Lib.hid ?_
  obtain ⟨nr, hnr⟩ : ∃ nr, nr = rowP.length := ⟨_, rfl⟩
  rw [← hnr]
  clear HRW
  have HBx := Lib.hid (HB.out.trans (hb.mono HB.out.size))
  clear HB
  have HB := HBx
  clear HBx
  have Hx := Lib.hid (HT.out.ext hb)
  clear HT
  have HT := Hx
  clear Hx
  have Hx := Lib.hid (HZ.out.ext hb)
  clear HZ
  have HZ := Hx
  clear Hx
  have Hx := Lib.hid (HS.out.ext hb)
  clear HS
  have HS := Hx
  clear Hx
  have Hx := Lib.hid (HL.out.ext hb)
  clear HL
  have HL := Hx
  clear Hx
  obtain ⟨yr, hw⟩ : ∃ W, W = ((((xr.alloc (.cells #[.int .i64 0, .int .i64 0] 3)).alloc (.cells #[.int .i64 0, .int .i64 0] 3)).alloc (.cells #[.int .i64 1, .int .i64 1] 3)).alloc
        (.cells #[.int .i64 1, .slice (some ⟨xr.heap.size, 0, none⟩) 2 2, .int .i64 2, .slice (some ⟨xr.heap.size + 1, 0, none⟩) 2 2, .int .i64 3, .slice (some ⟨xr.heap.size + 1 + 1, 0, none⟩) 2 2] 42)).alloc
        (.cells #[.int .i64 2, .slice Ar nr cr, .slice (some ⟨xr.heap.size + 1 + 1 + 1, 0, none⟩) 3 3] 25) := ⟨_, rfl⟩
  obtain ⟨pW, hpW⟩ : ∃ p, p = xr.heap.size + 1 + 1 + 1 + 1 := ⟨_, rfl⟩
  obtain ⟨BW, hBW⟩ : ∃ b : Option Addr, b = some ⟨xr.heap.size + 1 + 1 + 1, 0, none⟩ := ⟨_, rfl⟩
  obtain ⟨hb1, hW⟩ := lit_want xr yr Ar nr cr hnr hpr hw
  rw [← hBW, ← hpW] at hW
  rw [← hBW] at hw
  clear hb hnr hpr
  have HBx := Lib.hid (HB.out.trans (hb1.mono HB.out.size))
  clear HB
  have HB := HBx
  clear HBx
  have Hx := Lib.hid (HT.out.ext hb1)
  clear HT
  have HT := Hx
  clear Hx
  have Hx := Lib.hid (HZ.out.ext hb1)
  clear HZ
  have HZ := Hx
  clear Hx
  have Hx := Lib.hid (HS.out.ext hb1)
  clear HS
  have HS := Hx
  clear Hx
  have Hx := Lib.hid (HL.out.ext hb1)
  clear HL
  have HL := Hx
  clear Hx
  have HW := Lib.hid hW
  clear hb1 hW
  have HWW := Lib.hid (And.intro hw (And.intro hpW hBW))
  clear hw hpW hBW
  go_upto_region 6 with fail
  rw [← HWW.out.2.1, ← HWW.out.2.2, ← HWW.out.1]
  clear HWW
  obtain ⟨cT0, cT1, cT2⟩ := HT.out.cells
  obtain ⟨wi1, hwi⟩ : ∃ W, W = yr.alloc (.cells #[.int .i64 1, .int .i64 1, .int .i64 1, .int .i64 0, .int .i64 0, .int .i64 0, .int .i64 0, .int .i64 0, .int .i64 0] 3) := ⟨_, rfl⟩
  have hri : Ints wi1 (some ⟨yr.heap.size, 0, none⟩) [1, 1, 1, 0, 0, 0, 0, 0, 0] := by rw [hwi]; exact OwnI.reads (ints9 yr 0 (Nat.zero_le _) 1 1 1 0 0 0 0 0 0)
  have hbi : Below yr.heap.size yr wi1 := by rw [hwi]; exact below_new _ _
  have HWI := Lib.hid hwi
  clear hwi
  have HBx := Lib.hid (HB.out.trans (hbi.mono HB.out.size))
  clear HB
  have HB := HBx
  clear HBx
  have Hx := Lib.hid (HT.out.ext hbi)
  clear HT
  have HT := Hx
  clear Hx
  have Hx := Lib.hid (HZ.out.ext hbi)
  clear HZ
  have HZ := Hx
  clear Hx
  have Hx := Lib.hid (HS.out.ext hbi)
  clear HS
  have HS := Hx
  clear Hx
  have Hx := Lib.hid (HW.out.ext hbi)
  clear HW
  have HW := Hx
  clear Hx
  have Hx := Lib.hid (HL.out.ext hbi)
  clear HL
  have HL := Hx
  clear Hx
  have hcall := eval_tv (cv := 9) HT.out.at_ hri
  rw [life_e1] at hcall
  have HCALL := Lib.hid hcall
  clear hcall
  go_wp2_with (go_at_call 21; rw [← HWI.out]; refine HCALL.out.mono ?_; intro e x4 hx; obtain ⟨rfl, hb⟩ := hx; refine Hid.out ?_)
  refine Lib.hid ?_
  have HBx := Lib.hid (HB.out.trans (hb.mono HB.out.size))
  clear HB
  have HB := HBx
  clear HBx
  have Hx := Lib.hid (HT.out.ext hb)
  clear HT
  have HT := Hx
  clear Hx
  have Hx := Lib.hid (HZ.out.ext hb)
  clear HZ
  have HZ := Hx
  clear Hx
  have Hx := Lib.hid (HS.out.ext hb)
  clear HS
  have HS := Hx
  clear Hx
  have Hx := Lib.hid (HW.out.ext hb)
  clear HW
  have HW := Hx
  clear Hx
  have Hx := Lib.hid (HL.out.ext hb)
  clear HL
  have HL := Hx
  clear Hx
  clear hb HCALL
  clear cT0 cT1 cT2
  clear HWI hri hbi
  go_upto_region 7 with fail
  obtain ⟨cT0, cT1, cT2⟩ := HT.out.cells
  obtain ⟨wi2, hwi⟩ : ∃ W, W = x4.alloc (.cells #[.int .i64 1, .int .i64 1, .int .i64 1, .int .i64 0, .int .i64 1, .int .i64 1, .int .i64 1, .int .i64 0, .int .i64 0] 3) := ⟨_, rfl⟩
  have hri : Ints wi2 (some ⟨x4.heap.size, 0, none⟩) [1, 1, 1, 0, 1, 1, 1, 0, 0] := by rw [hwi]; exact OwnI.reads (ints9 x4 0 (Nat.zero_le _) 1 1 1 0 1 1 1 0 0)
  have hbi : Below x4.heap.size x4 wi2 := by rw [hwi]; exact below_new _ _
  have HWI := Lib.hid hwi
  clear hwi
  have HBx := Lib.hid (HB.out.trans (hbi.mono HB.out.size))
  clear HB
  have HB := HBx
  clear HBx
  have Hx := Lib.hid (HT.out.ext hbi)
  clear HT
  have HT := Hx
  clear Hx
  have Hx := Lib.hid (HZ.out.ext hbi)
  clear HZ
  have HZ := Hx
  clear Hx
  have Hx := Lib.hid (HS.out.ext hbi)
  clear HS
  have HS := Hx
  clear Hx
  have Hx := Lib.hid (HW.out.ext hbi)
  clear HW
  have HW := Hx
  clear Hx
  have Hx := Lib.hid (HL.out.ext hbi)
  clear HL
  have HL := Hx
  clear Hx
  have hcall := eval_tv (cv := 9) HT.out.at_ hri
  rw [life_e2] at hcall
  have HCALL := Lib.hid hcall
  clear hcall
  go_wp2_with (go_at_call 21; rw [← HWI.out]; refine HCALL.out.mono ?_; intro e x5 hx; obtain ⟨rfl, hb⟩ := hx; refine Hid.out ?_)
  refine Lib.hid ?_
  have HBx := Lib.hid (HB.out.trans (hb.mono HB.out.size))
  clear HB
  have HB := HBx
  clear HBx
  have Hx := Lib.hid (HT.out.ext hb)
  clear HT
  have HT := Hx
  clear Hx
  have Hx := Lib.hid (HZ.out.ext hb)
  clear HZ
  have HZ := Hx
  clear Hx
  have Hx := Lib.hid (HS.out.ext hb)
  clear HS
  have HS := Hx
  clear Hx
  have Hx := Lib.hid (HW.out.ext hb)
  clear HW
  have HW := Hx
  clear Hx
  have Hx := Lib.hid (HL.out.ext hb)
  clear HL
  have HL := Hx
  clear Hx
  clear hb HCALL
  clear cT0 cT1 cT2
  clear HWI hri hbi
  go_upto_region 8 with fail
  have hlf : ∃ lf, lf = lifeT := ⟨_, rfl⟩
  obtain ⟨lf, hlf⟩ := hlf
  obtain ⟨bz, hbz⟩ : ∃ bz, bz = backZ := ⟨_, rfl⟩
  have HBK1 : Hid (backP lifeU = (lf, true)) := Lib.hid (by rw [hlf]; exact life_bk)
  have HBK2 : Hid (backP zeroU = (bz, false)) := Lib.hid (by rw [hbz]; exact zero_bk)
  have HSL : Hid (sameTot lf lifeT = true) := Lib.hid (by rw [hlf]; exact life_same)
  clear hlf hbz
  obtain ⟨cT0, cT1, cT2⟩ := HT.out.cells
  have hcall := back_tv HT.out.at_ ((HTAB.out.on HB.out).up HB.out.size)
  rw [HBK1.out] at hcall
  have HCALL := Lib.hid hcall
  clear hcall
  go_wp2_with (go_at_call 7; refine HCALL.out.mono ?_; intro e x6 hx; obtain ⟨Ab1, ab1, Bb1, bb1, Cb1, cb1, rfl, htr, hb⟩ := hx; unfold totV; refine Hid.out ?_)
  refine Lib.hid ?_
  have HBx := Lib.hid (HB.out.trans (hb.mono HB.out.size))
  clear HB
  have HB := HBx
  clear HBx
  have Hx := Lib.hid (HT.out.ext hb)
  clear HT
  have HT := Hx
  clear Hx
  have Hx := Lib.hid (HZ.out.ext hb)
  clear HZ
  have HZ := Hx
  clear Hx
  have Hx := Lib.hid (HS.out.ext hb)
  clear HS
  have HS := Hx
  clear Hx
  have Hx := Lib.hid (HW.out.ext hb)
  clear HW
  have HW := Hx
  clear Hx
  have Hx := Lib.hid (HL.out.ext hb)
  clear HL
  have HL := Hx
  clear Hx
  clear hb HCALL
  clear cT0 cT1 cT2

  obtain ⟨z1, hw⟩ : ∃ W, W = x6.alloc (.cells #[.slice Ab1 lf.hood.length ab1, .int .i64 lf.states, .slice Bb1 lf.birth.length bb1, .slice Cb1 lf.survive.length cb1] 30) := ⟨_, rfl⟩
  obtain ⟨pX, hp⟩ : ∃ p, p = x6.heap.size := ⟨_, rfl⟩
  have hv := TtV.new (a := ab1) (b := bb1) (c := cb1) htr
  rw [← hw, ← hp] at hv
  have hb : Below x6.heap.size x6 z1 := by rw [hw]; exact below_new _ _
  have HBx := Lib.hid (HB.out.trans (hb.mono HB.out.size))
  clear HB
  have HB := HBx
  clear HBx
  have Hx := Lib.hid (HT.out.ext hb)
  clear HT
  have HT := Hx
  clear Hx
  have Hx := Lib.hid (HZ.out.ext hb)
  clear HZ
  have HZ := Hx
  clear Hx
  have Hx := Lib.hid (HS.out.ext hb)
  clear HS
  have HS := Hx
  clear Hx
  have Hx := Lib.hid (HW.out.ext hb)
  clear HW
  have HW := Hx
  clear Hx
  have Hx := Lib.hid (HL.out.ext hb)
  clear HL
  have HL := Hx
  clear Hx
  have HX := Lib.hid hv
  clear hv hb htr
  go_upto_region 9 with fail
  rw [← hw, ← hp]
  clear hw hp
  obtain ⟨cZ0, cZ1, cZ2⟩ := HZ.out.cells
  have hcall := back_tv HZ.out.at_ ((HTAB.out.on HB.out).up HB.out.size)
  rw [HBK2.out] at hcall
  have HCALL := Lib.hid hcall
  clear hcall
  go_wp2_with (go_at_call 7; refine HCALL.out.mono ?_; intro e x7 hx; obtain ⟨Ab2, ab2, Bb2, bb2, Cb2, cb2, rfl, htr, hb⟩ := hx; unfold totV; refine Hid.out ?_)
  refine Lib.hid ?_
  have HBx := Lib.hid (HB.out.trans (hb.mono HB.out.size))
  clear HB
  have HB := HBx
  clear HBx
  have Hx := Lib.hid (HT.out.ext hb)
  clear HT
  have HT := Hx
  clear Hx
  have Hx := Lib.hid (HZ.out.ext hb)
  clear HZ
  have HZ := Hx
  clear Hx
  have Hx := Lib.hid (HS.out.ext hb)
  clear HS
  have HS := Hx
  clear Hx
  have Hx := Lib.hid (HW.out.ext hb)
  clear HW
  have HW := Hx
  clear Hx
  have Hx := Lib.hid (HL.out.ext hb)
  clear HL
  have HL := Hx
  clear Hx
  have Hx := Lib.hid (HX.out.ext hb)
  clear HX
  have HX := Hx
  clear Hx
  clear hb HCALL
  clear cZ0 cZ1 cZ2

  obtain ⟨z2, hw⟩ : ∃ W, W = x7.alloc (.cells #[.slice Ab2 bz.hood.length ab2, .int .i64 bz.states, .slice Bb2 bz.birth.length bb2, .slice Cb2 bz.survive.length cb2] 30) := ⟨_, rfl⟩
  obtain ⟨pY, hp⟩ : ∃ p, p = x7.heap.size := ⟨_, rfl⟩
  have hv := TtV.new (a := ab2) (b := bb2) (c := cb2) htr
  rw [← hw, ← hp] at hv
  have hb : Below x7.heap.size x7 z2 := by rw [hw]; exact below_new _ _
  have HBx := Lib.hid (HB.out.trans (hb.mono HB.out.size))
  clear HB
  have HB := HBx
  clear HBx
  have Hx := Lib.hid (HT.out.ext hb)
  clear HT
  have HT := Hx
  clear Hx
  have Hx := Lib.hid (HZ.out.ext hb)
  clear HZ
  have HZ := Hx
  clear Hx
  have Hx := Lib.hid (HS.out.ext hb)
  clear HS
  have HS := Hx
  clear Hx
  have Hx := Lib.hid (HW.out.ext hb)
  clear HW
  have HW := Hx
  clear Hx
  have Hx := Lib.hid (HL.out.ext hb)
  clear HL
  have HL := Hx
  clear Hx
  have Hx := Lib.hid (HX.out.ext hb)
  clear HX
  have HX := Hx
  clear Hx
  have HY := Lib.hid hv
  clear hv hb htr
  go_upto_region 10 with fail
  rw [← hw, ← hp]
  clear hw hp
  have hzr : TotR z2 none none none TotL.zero := ⟨Pts.nil, Ints.nil, Ints.nil⟩
  have hcz := totals_any none none none 0 0 0 TotL.zero z2 hzr ((HTAB.out.on HB.out).up HB.out.size)
  rw [none_tot] at hcz
  unfold totV TotL.zero at hcz
  dsimp only at hcz
  have hcall := hcz
  have HCALL := Lib.hid hcall
  clear hcall
  go_wp2_with (go_at_call 10; refine HCALL.out.mono ?_; intro e x8 hx; obtain ⟨s8, A8, n8, c8, B8, m8, d8, rfl, hat, hb⟩ := hx; refine Hid.out ?_)
  refine Lib.hid ?_
  have HBx := Lib.hid (HB.out.trans (hb.mono HB.out.size))
  clear HB
  have HB := HBx
  clear HBx
  have Hx := Lib.hid (HT.out.ext hb)
  clear HT
  have HT := Hx
  clear Hx
  have Hx := Lib.hid (HZ.out.ext hb)
  clear HZ
  have HZ := Hx
  clear Hx
  have Hx := Lib.hid (HS.out.ext hb)
  clear HS
  have HS := Hx
  clear Hx
  have Hx := Lib.hid (HW.out.ext hb)
  clear HW
  have HW := Hx
  clear Hx
  have Hx := Lib.hid (HL.out.ext hb)
  clear HL
  have HL := Hx
  clear Hx
  have Hx := Lib.hid (HX.out.ext hb)
  clear HX
  have HX := Hx
  clear Hx
  have Hx := Lib.hid (HY.out.ext hb)
  clear HY
  have HY := Hx
  clear Hx
  clear hb HCALL
  clear hcz hzr
  obtain ⟨y8, hw⟩ : ∃ W, W = x8.alloc (.cells #[.int .i64 s8, .slice A8 n8 c8, .slice B8 m8 d8] 25) := ⟨_, rfl⟩
  obtain ⟨pN, hp⟩ : ∃ p, p = x8.heap.size := ⟨_, rfl⟩
  have hv := TrV.new hat
  rw [← hw, ← hp] at hv
  have hb : Below x8.heap.size x8 y8 := by rw [hw]; exact below_new _ _
  have HBx := Lib.hid (HB.out.trans (hb.mono HB.out.size))
  clear HB
  have HB := HBx
  clear HBx
  have Hx := Lib.hid (HT.out.ext hb)
  clear HT
  have HT := Hx
  clear Hx
  have Hx := Lib.hid (HZ.out.ext hb)
  clear HZ
  have HZ := Hx
  clear Hx
  have Hx := Lib.hid (HS.out.ext hb)
  clear HS
  have HS := Hx
  clear Hx
  have Hx := Lib.hid (HW.out.ext hb)
  clear HW
  have HW := Hx
  clear Hx
  have Hx := Lib.hid (HL.out.ext hb)
  clear HL
  have HL := Hx
  clear Hx
  have Hx := Lib.hid (HX.out.ext hb)
  clear HX
  have HX := Hx
  clear Hx
  have Hx := Lib.hid (HY.out.ext hb)
  clear HY
  have HY := Hx
  clear Hx
  have HN := Lib.hid hv
  clear hv hb hat
  go_upto_region 11 with fail
  rw [← hw, ← hp]
  clear hw hp
  obtain ⟨cZ0, cZ1, cZ2⟩ := HZ.out.cells
  obtain ⟨cS0, cS1, cS2⟩ := HS.out.cells
  obtain ⟨cW0, cW1, cW2⟩ := HW.out.cells
  have hcall := rsamet_at HZ.out.at_ HW.out.at_
  rw [zero_sm] at hcall
  have HCALL := Lib.hid hcall
  clear hcall
  go_wp2_with (go_at_call 11; refine HCALL.out.mono ?_; intro e x9 hx; obtain ⟨rfl, hb⟩ := hx; refine Hid.out ?_)
  refine Lib.hid ?_
  have HBx := Lib.hid (HB.out.trans (hb.mono HB.out.size))
  clear HB
  have HB := HBx
  clear HBx
  have Hx := Lib.hid (HT.out.ext hb)
  clear HT
  have HT := Hx
  clear Hx
  have Hx := Lib.hid (HZ.out.ext hb)
  clear HZ
  have HZ := Hx
  clear Hx
  have Hx := Lib.hid (HS.out.ext hb)
  clear HS
  have HS := Hx
  clear Hx
  have Hx := Lib.hid (HW.out.ext hb)
  clear HW
  have HW := Hx
  clear Hx
  have Hx := Lib.hid (HN.out.ext hb)
  clear HN
  have HN := Hx
  clear Hx
  have Hx := Lib.hid (HL.out.ext hb)
  clear HL
  have HL := Hx
  clear Hx
  have Hx := Lib.hid (HX.out.ext hb)
  clear HX
  have HX := Hx
  clear Hx
  have Hx := Lib.hid (HY.out.ext hb)
  clear HY
  have HY := Hx
  clear Hx
  clear hb HCALL
  clear cZ0 cZ1 cZ2 cS0 cS1 cS2 cW0 cW1 cW2
  obtain ⟨cZ0, cZ1, cZ2⟩ := HZ.out.cells
  obtain ⟨cS0, cS1, cS2⟩ := HS.out.cells
  obtain ⟨cW0, cW1, cW2⟩ := HW.out.cells
  have hcall := rsamet_at HS.out.at_ HW.out.at_
  rw [sums_sm] at hcall
  have HCALL := Lib.hid hcall
  clear hcall
  go_wp2_with (go_at_call 11; refine HCALL.out.mono ?_; intro e x10 hx; obtain ⟨rfl, hb⟩ := hx; refine Hid.out ?_)
  refine Lib.hid ?_
  have HBx := Lib.hid (HB.out.trans (hb.mono HB.out.size))
  clear HB
  have HB := HBx
  clear HBx
  have Hx := Lib.hid (HT.out.ext hb)
  clear HT
  have HT := Hx
  clear Hx
  have Hx := Lib.hid (HZ.out.ext hb)
  clear HZ
  have HZ := Hx
  clear Hx
  have Hx := Lib.hid (HS.out.ext hb)
  clear HS
  have HS := Hx
  clear Hx
  have Hx := Lib.hid (HW.out.ext hb)
  clear HW
  have HW := Hx
  clear Hx
  have Hx := Lib.hid (HN.out.ext hb)
  clear HN
  have HN := Hx
  clear Hx
  have Hx := Lib.hid (HL.out.ext hb)
  clear HL
  have HL := Hx
  clear Hx
  have Hx := Lib.hid (HX.out.ext hb)
  clear HX
  have HX := Hx
  clear Hx
  have Hx := Lib.hid (HY.out.ext hb)
  clear HY
  have HY := Hx
  clear Hx
  clear hb HCALL
  clear cZ0 cZ1 cZ2 cS0 cS1 cS2 cW0 cW1 cW2
  obtain ⟨cX0, cX1, cX2, cX3⟩ := HX.out.cells
  obtain ⟨cL0, cL1, cL2, cL3⟩ := HL.out.cells
  have hcall := tsame_tv HX.out HL.out
  rw [HSL.out] at hcall
  have HCALL := Lib.hid hcall
  clear hcall
  go_wp2_with (go_at_call 9; refine HCALL.out.mono ?_; intro e x11 hx; obtain ⟨rfl, hb⟩ := hx; refine Hid.out ?_)
  refine Lib.hid ?_
  have HBx := Lib.hid (HB.out.trans (hb.mono HB.out.size))
  clear HB
  have HB := HBx
  clear HBx
  have Hx := Lib.hid (HT.out.ext hb)
  clear HT
  have HT := Hx
  clear Hx
  have Hx := Lib.hid (HZ.out.ext hb)
  clear HZ
  have HZ := Hx
  clear Hx
  have Hx := Lib.hid (HS.out.ext hb)
  clear HS
  have HS := Hx
  clear Hx
  have Hx := Lib.hid (HW.out.ext hb)
  clear HW
  have HW := Hx
  clear Hx
  have Hx := Lib.hid (HN.out.ext hb)
  clear HN
  have HN := Hx
  clear Hx
  have Hx := Lib.hid (HL.out.ext hb)
  clear HL
  have HL := Hx
  clear Hx
  have Hx := Lib.hid (HX.out.ext hb)
  clear HX
  have HX := Hx
  clear Hx
  have Hx := Lib.hid (HY.out.ext hb)
  clear HY
  have HY := Hx
  clear Hx
  clear hb HCALL
  clear cX0 cX1 cX2 cX3 cL0 cL1 cL2 cL3
  go_wp2
  go_ret
  exact ⟨rfl, HB.out⟩
end Go.Proofs.YtmlhkbgifnifdaaGreatDoor
