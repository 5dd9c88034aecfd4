/-
  The text of a pattern, as lists of bytes; rle.Text's closure.
-/
import Derived.Test.YtekmldneinnmoaaDoorBldK
namespace Go.Proofs.YtekmldneinnmoaaDoor
open Go.RowKit
set_option maxRecDepth 100000
set_option linter.unusedVariables false
set_option linter.unusedSimpArgs false

/-- an item more: the text ahead of the line, the line -/
def putL (t : List UInt8 × List UInt8) (s : List UInt8) : List UInt8 × List UInt8 := if 70 < t.2.length + s.length then (t.1 ++ t.2 ++ [10], s) else (t.1, t.2 ++ s)
def headL (b : Bx) (rule : List UInt8) : List UInt8 := [120, 32, 61, 32] ++ Lib.itoa b.w ++ [44, 32, 121, 32, 61, 32] ++ Lib.itoa b.h ++ [44, 32, 114, 117, 108, 101, 32, 61, 32] ++ rule ++ [10]
def itemsL (ps : List Cel) : List (List UInt8) := (runsL ps).map (itemC (decide (topC ps ≤ 1)))
def wrapL (h : List UInt8) (l : List (List UInt8)) : List UInt8 × List UInt8 := l.foldl putL (h, [])
def endL (t : List UInt8 × List UInt8) : List UInt8 := (putL t [33]).1 ++ (putL t [33]).2 ++ [10]
def fullT (ps : List Cel) (rule : List UInt8) : List UInt8 := endL (wrapL (headL (boxC ps).1 rule) (itemsL ps))
def textL (ps : List Cel) (rule : List UInt8) : List UInt8 × Int :=
  if rightC ps = false then ([], 2) else if nameB rule = false then ([], 7) else if 1048577 < (boxC ps).1.w ∨ 1048577 < (boxC ps).1.h then ([], 5)
  else if 65536 < (fullT ps rule).length then ([], 6) else (fullT ps rule, 0)
theorem builder_ext {T e : TypeId} {B b : Nat} {p : Value} {bs : List Value} {w w' : World} (h : Lib.BuilderAt T e B b p bs w) (hb : Below w.heap.size w w') : Lib.BuilderAt T e B b p bs w' := by
  have hlt := h.lt
  obtain ⟨hB, v, h1, h2, h3⟩ := h
  exact ⟨hB, v, by rw [hb.block b hlt]; exact h1, own_below h2 hb, h3⟩
theorem own_far {base : Nat} {e : TypeId} {size n : Nat} {v : Value} {xs : List Value} {w : World} (h : w.ownsRow base e size v n xs) {g : Nat} (hg : v.ownBlock ≠ some g) (i : Nat) (u : Value) : (w.setCell ⟨g, i, none⟩ u).ownsRow base e size v n xs := by
  obtain ⟨h1, h2⟩ := h
  refine ⟨h1, ?_⟩
  rcases h2 with h2 | ⟨g', cap, cur, h3, h4, h5, h6⟩
  · exact .inl h2
  · refine .inr ⟨g', cap, cur, h3, h4, ?_, h6⟩
    subst h3
    have hne : g' ≠ g := by
      intro e'
      apply hg
      rw [e']
      rfl
    exact (Below.heap_setCell w ⟨g, i, none⟩ u g' hne).trans h5
theorem builder_far {T e t : TypeId} {B b g : Nat} {p : Value} {bs cs : List Value} {w : World} (h : Lib.BuilderAt T e B b p bs w) (hg : Blk w g t cs.toArray) (hne : g ≠ b) (ht : e ≠ t) (i : Nat) (u : Value) : Lib.BuilderAt T e B b p bs (w.setCell ⟨g, i, none⟩ u) := by
  obtain ⟨hB, v, h1, h2, h3⟩ := h
  exact ⟨hB, v, (Below.heap_setCell w ⟨g, i, none⟩ u b (fun e' => hne e'.symm)).trans h1, own_far h2 (own_blk_ne h2 hg ht) i u, h3⟩
theorem put_len (t : List UInt8 × List UInt8) (s : List UInt8) : (putL t s).1.length + (putL t s).2.length ≤ t.1.length + t.2.length + s.length + 1 := by
  unfold putL
  split
  · simp; omega
  · simp; omega
theorem put_yes {t : List UInt8 × List UInt8} {s : List UInt8} (h : 70 < t.2.length + s.length) : putL t s = (t.1 ++ t.2 ++ [10], s) := by unfold putL; rw [if_pos h]
theorem put_no {t : List UInt8 × List UInt8} {s : List UInt8} (h : ¬ 70 < t.2.length + s.length) : putL t s = (t.1, t.2 ++ s) := by unfold putL; rw [if_neg h]
theorem sc_app (l s : List UInt8) : Lib.byteCells l ++ Lib.strCells ⟨s.toArray⟩ = Lib.byteCells (l ++ s) := by simp [Lib.byteCells, Lib.strCells]
theorem sc_nl (l : List UInt8) : Lib.byteCells l ++ [.int .u8 10] = Lib.byteCells (l ++ [10]) := by simp [Lib.byteCells]
/-- what the closure leaves -/
structure PutR (B b g : Nat) (t : List UInt8 × List UInt8) (w w' : World) : Prop where
  bld : Lib.BuilderAt 50 5 B b (.pointer (some ⟨b, 0, none⟩)) (Lib.byteCells (t.1 ++ t.2)) w'
  used : Blk w' g 3 #[.int .i64 t.2.length]
  below : Below B w w'
  kept : ∀ g' t' cs, 5 ≠ t' → g' ≠ b → g' ≠ g → Blk w g' t' cs → Blk w' g' t' cs
set_option maxHeartbeats 2000000 in
theorem put_any (B b g : Nat) (t : List UInt8 × List UInt8) (s : List UInt8) (w : World) (hI : Lib.IsBuilder 50 5 B b (Lib.byteCells (t.1 ++ t.2)) w) (hu : Blk w g 3 #[.int .i64 t.2.length])
    (hgb : g ≠ b) (hg : B ≤ g) (hBw : B ≤ w.heap.size) (hlen : t.1.length + t.2.length + s.length ≤ 1000000) :
    Calls Tryd.prog 21 #[.string ⟨s.toArray⟩, .pointer (some ⟨g, 0, none⟩), .pointer (some ⟨b, 0, none⟩)] w fun e w' => e = .returned (.tuple #[]) ∧ PutR B b g (putL t s) w w' := by
  have hsz : (⟨s.toArray⟩ : ByteArray).size = s.length := by simp [ByteArray.size]
  have hwa : wrap64 ((t.2.length : Int) + (s.length : Int)) = (t.2.length : Int) + (s.length : Int) := by unfold wrap64; omega
  have c0 := hu.cell_ 0 (.int .i64 t.2.length) rfl
  have hpl : (t.1 ++ t.2).length ≤ 1000000 := by simp; omega
  have HU := Lib.hid hu
  by_cases h1 : 70 < t.2.length + s.length
  · have HP := Lib.hid (put_yes (t := t) (s := s) (by omega))
    have d1 : decide ((70 : Int) < (t.2.length : Int) + (s.length : Int)) = true := decide_eq_true (by omega)
    have W1 := writeByteK_any B b (Lib.byteCells (t.1 ++ t.2)) 10 w hI (by rw [Lib.byteCells_length]; omega) hBw
    rw [sc_nl] at W1
    have HW1 := Lib.hid W1
    clear W1 hI hu
    go_enter Tryd.func21, Tryd.ntmps21
    go_wp2_with fail
    refine HW1.out.mono ?_
    rintro e w1 ⟨rfl, hb1, hbe1, hk1⟩
    have hu1 := hk1 g _ _ (by decide) hgb HU.out
    have f1 := hu1.frozen 0
    have c1 := hu1.cell_ 0 (.int .i64 t.2.length) rfl
    have hb2 := builder_far (cs := [.int .i64 t.2.length]) hb1 hu1 hgb (by decide) 0 (.int .i64 0)
    have hu2 := hu1.set_ 0 (.int .i64 0)
    have HB1 := Lib.hid hbe1
    have HK1 := Lib.hid hk1
    clear hb1 hu1 c0 hbe1 hk1
    have HS2 := Lib.hid (hu2)
    have W2 := writeStringK_any B b (Lib.byteCells (t.1 ++ t.2 ++ [10])) ⟨s.toArray⟩ _ (.inr hb2) (by rw [Lib.byteCells_length, hsz, List.length_append]; simp; omega) (Nat.le_trans hBw (by have := HB1.out.size; simpa [World.setCell] using this))
    rw [sc_app] at W2
    have HW2 := Lib.hid W2
    clear W2 hb2 hu2
    go_wp2_with fail
    refine HW2.out.mono ?_
    rintro e w2 ⟨rfl, hb3, hbe3, hk3⟩
    have hu3 := hk3 g _ _ (by decide) hgb HS2.out
    have c3 := hu3.cell_ 0 (.int .i64 0) rfl
    have f3 := hu3.frozen 0
    have HB3 := Lib.hid hbe3
    have HK3 := Lib.hid hk3
    have HB := Lib.hid hb3
    have HU3 := Lib.hid hu3
    clear hu3 hbe3 hk3 hb3 f1
    go_wp2
    go_end0
    refine ⟨rfl, ?_⟩
    rw [HP.out]
    refine ⟨?_, ?_, ?_, ?_⟩
    · exact builder_far (cs := [.int .i64 0]) HB.out HU3.out hgb (by decide) 0 _
    · dsimp only
      simpa using HU3.out.set_ 0 (.int .i64 s.length)
    · exact ((HB1.out.setCell (p := ⟨g, 0, none⟩) hg _).trans HB3.out).setCell (p := ⟨g, 0, none⟩) hg _
    · intro g' t' cs h1 h2 h3 h4
      exact (HK3.out g' t' cs h1 h2 ((HK1.out g' t' cs h1 h2 h4).far h3 _)).far h3 _
  · have HP := Lib.hid (put_no (t := t) (s := s) (by omega))
    have d1 : decide ((70 : Int) < (t.2.length : Int) + (s.length : Int)) = false := decide_eq_false (by omega)
    have W2 := writeStringK_any B b (Lib.byteCells (t.1 ++ t.2)) ⟨s.toArray⟩ w hI (by rw [Lib.byteCells_length, hsz]; omega) hBw
    rw [sc_app] at W2
    have HW2 := Lib.hid W2
    clear W2 hI hu
    go_enter Tryd.func21, Tryd.ntmps21
    go_wp2_with fail
    refine HW2.out.mono ?_
    rintro e w2 ⟨rfl, hb3, hbe3, hk3⟩
    have hu3 := hk3 g _ _ (by decide) hgb HU.out
    have c3 := hu3.cell_ 0 (.int .i64 t.2.length) rfl
    have f3 := hu3.frozen 0
    have HB3 := Lib.hid hbe3
    have HK3 := Lib.hid hk3
    have HB := Lib.hid hb3
    have HU3 := Lib.hid hu3
    clear hu3 hbe3 hk3 hb3 c0
    go_wp2
    go_end0
    refine ⟨rfl, ?_⟩
    rw [HP.out]
    refine ⟨?_, ?_, ?_, ?_⟩
    · have := builder_far (cs := [.int .i64 t.2.length]) HB.out HU3.out hgb (by decide) 0 (.int .i64 ((t.2.length : Int) + s.length))
      simpa using this
    · dsimp only
      rw [List.length_append]
      simpa using HU3.out.set_ 0 (.int .i64 ((t.2.length : Int) + s.length))
    · exact HB3.out.setCell (p := ⟨g, 0, none⟩) hg _
    · intro g' t' cs h1 h2 h3 h4
      exact (HK3.out g' t' cs h1 h2 h4).far h3 _
end Go.Proofs.YtekmldneinnmoaaDoor
