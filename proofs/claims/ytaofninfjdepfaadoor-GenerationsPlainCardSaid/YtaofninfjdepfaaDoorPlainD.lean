/-
  generations.Plain and the reference's: where the answer's slices lie. No condition.
-/
import Derived.Test.YtaofninfjdepfaaDoorNext
namespace Go.Proofs.YtaofninfjdepfaaDoor
open Go.RowKit
set_option maxRecDepth 100000
set_option linter.unusedVariables false
set_option linter.unusedSimpArgs false

def pA (A : Option Addr) (t : TotL) : Option Addr := if rightT t then A else none
def pa (a : Nat) (t : TotL) : Nat := if rightT t then a else 0
theorem plain_tot {w : World} {A B C : Option Addr} {t : TotL} (h : TotR w A B C t) : TotR w (pA A t) (pA B t) (pA C t) (plainT t) := by
  unfold pA plainT
  cases rightT t
  · exact TotR.zero w
  · exact ⟨h.hood, h.birth, h.survive⟩
set_option maxHeartbeats 1000000 in
theorem plainD_any (A B C : Option Addr) (a b c : Nat) (t : TotL) (w : World) (ht : TotR w A B C t) :
    Calls Tryd.prog 16 #[totV A a B b C c t] w fun e w' => e = .returned (totV (pA A t) (pa a t) (pA B t) (pa b t) (pA C t) (pa c t) (plainT t)) ∧ Below w.heap.size w w' := by
  obtain ⟨V, hV⟩ : ∃ V, V = totV (pA A t) (pa a t) (pA B t) (pa b t) (pA C t) (pa c t) (plainT t) := ⟨_, rfl⟩
  rw [← hV]
  have HV := Lib.hid hV
  clear hV
  have hb0 := below_new w (.cells #[.slice A t.hood.length a, .int .i64 t.states, .slice B t.birth.length b, .slice C t.survive.length c] 26)
  have hb1 := hb0.alloc hb0.size (.cells #[.slice none 0 0, .int .i64 0, .slice none 0 0, .slice none 0 0] 26)
  have HR := Lib.hid (right_any A B C a b c t _ (ht.ext hb1))
  have X := Lib.hid ((Box.new ht a b c).alloc (.cells #[.slice none 0 0, .int .i64 0, .slice none 0 0, .slice none 0 0] 26))
  have br0 : Blk ((w.alloc (.cells #[.slice A t.hood.length a, .int .i64 t.states, .slice B t.birth.length b, .slice C t.survive.length c] 26)).alloc (.cells #[.slice none 0 0, .int .i64 0, .slice none 0 0, .slice none 0 0] 26)) (w.heap.size + 1) 26 #[.slice none 0 0, .int .i64 0, .slice none 0 0, .slice none 0 0] := by
    have := Blk.new (w.alloc (.cells #[.slice A t.hood.length a, .int .i64 t.states, .slice B t.birth.length b, .slice C t.survive.length c] 26)) 26 #[.slice none 0 0, .int .i64 0, .slice none 0 0, .slice none 0 0]
    simpa using this
  have HB := Lib.hid (And.intro hb1 br0)
  have HT := Lib.hid ht
  clear hb0 hb1 br0 ht
  unfold totV at HR ⊢
  have x0 := X.out.c0
  have x1 := X.out.c1
  have x2 := X.out.c2
  have x3 := X.out.c3
  cases k1 : rightT t
  · rw [k1] at HR
    have E : Hid (V = .agg #[.slice none 0 0, .int .i64 0, .slice none 0 0, .slice none 0 0]) := Lib.hid (by rw [HV.out]; unfold plainT pA pa totV; rw [k1]; rfl)
    clear k1
    go_enter Tryd.func16, Tryd.ntmps16
    go_wp2_with fail
    refine HR.out.mono ?_
    rintro e w1 ⟨rfl, hb⟩
    have br := HB.out.2.below hb HB.out.2.lt
    have HB2 := Lib.hid (HB.out.1.trans (hb.mono HB.out.1.size))
    have r0 := br.cell_ 0 _ rfl
    have r1 := br.cell_ 1 _ rfl
    have r2 := br.cell_ 2 _ rfl
    have r3 := br.cell_ 3 _ rfl
    have g0 := br.frozen 0
    have g1 := br.frozen 1
    have g2 := br.frozen 2
    have g3 := br.frozen 3
    clear br hb x0 x1 x2 x3
    go_wp2
    refine bodyPost_ret (v := .agg #[.slice none 0 0, .int .i64 0, .slice none 0 0, .slice none 0 0]) (by simp [results, Tryd.results16, go_sem, r0, r1, r2, r3]) rfl ?_
    rw [E.out]
    exact ⟨rfl, below_set4 HB2.out (by simp) _ _ _ _⟩
  · rw [k1] at HR
    have E : Hid (V = .agg #[.slice A t.hood.length a, .int .i64 2, .slice B t.birth.length b, .slice C t.survive.length c]) := Lib.hid (by rw [HV.out]; unfold plainT pA pa totV; rw [k1]; rfl)
    clear k1
    go_enter Tryd.func16, Tryd.ntmps16
    go_wp2_with fail
    refine HR.out.mono ?_
    rintro e w1 ⟨rfl, hb⟩
    have br := HB.out.2.below hb HB.out.2.lt
    have X2 := X.out.ext hb
    have HB2 := Lib.hid (HB.out.1.trans (hb.mono HB.out.1.size))
    have y1 := X2.c1
    have f1 := X2.blk.frozen 1
    have hne : w.heap.size + 1 ≠ w.heap.size := by omega
    have bt := X2.blk.set_ 1 (.int .i64 2)
    have br := br.far (p := ⟨w.heap.size, 1, none⟩) hne (.int .i64 2)
    have y0 := bt.cell_ 0 _ rfl
    have z1 := bt.cell_ 1 _ rfl
    have y2 := bt.cell_ 2 _ rfl
    have y3 := bt.cell_ 3 _ rfl
    have HBF := Lib.hid (HB2.out.setCell (p := ⟨w.heap.size, 1, none⟩) (Nat.le_refl _) (.int .i64 2))
    clear bt
    have r0 := br.cell_ 0 _ rfl
    have r1 := br.cell_ 1 _ rfl
    have r2 := br.cell_ 2 _ rfl
    have r3 := br.cell_ 3 _ rfl
    have g0 := br.frozen 0
    have g1 := br.frozen 1
    have g2 := br.frozen 2
    have g3 := br.frozen 3
    clear br hb x0 x1 x2 x3 X2
    go_wp2
    refine bodyPost_ret (v := .agg #[.slice A t.hood.length a, .int .i64 2, .slice B t.birth.length b, .slice C t.survive.length c]) (by simp [results, Tryd.results16, go_sem, r0, r1, r2, r3]) rfl ?_
    rw [E.out]
    have hbF := below_set4 HBF.out (b := w.heap.size + 1) (by simp) (.slice A t.hood.length a) (.int .i64 2) (.slice B t.birth.length b) (.slice C t.survive.length c)
    exact ⟨rfl, hbF⟩
set_option maxHeartbeats 1000000 in
theorem rplainD_any (A B C : Option Addr) (a b c : Nat) (t : TotL) (w : World) (ht : TotR w A B C t) :
    Calls Tryd.prog 17 #[totV A a B b C c t] w fun e w' => e = .returned (totV (pA A t) (pa a t) (pA B t) (pa b t) (pA C t) (pa c t) (plainT t)) ∧ Below w.heap.size w w' := by
  obtain ⟨V, hV⟩ : ∃ V, V = totV (pA A t) (pa a t) (pA B t) (pa b t) (pA C t) (pa c t) (plainT t) := ⟨_, rfl⟩
  rw [← hV]
  have HV := Lib.hid hV
  clear hV
  have hb0 := below_new w (.cells #[.slice A t.hood.length a, .int .i64 t.states, .slice B t.birth.length b, .slice C t.survive.length c] 26)
  have hb1 := hb0.alloc hb0.size (.cells #[.slice none 0 0, .int .i64 0, .slice none 0 0, .slice none 0 0] 26)
  have HR := Lib.hid (rright_any A B C a b c t _ (ht.ext hb1))
  have X := Lib.hid ((Box.new ht a b c).alloc (.cells #[.slice none 0 0, .int .i64 0, .slice none 0 0, .slice none 0 0] 26))
  have br0 : Blk ((w.alloc (.cells #[.slice A t.hood.length a, .int .i64 t.states, .slice B t.birth.length b, .slice C t.survive.length c] 26)).alloc (.cells #[.slice none 0 0, .int .i64 0, .slice none 0 0, .slice none 0 0] 26)) (w.heap.size + 1) 26 #[.slice none 0 0, .int .i64 0, .slice none 0 0, .slice none 0 0] := by
    have := Blk.new (w.alloc (.cells #[.slice A t.hood.length a, .int .i64 t.states, .slice B t.birth.length b, .slice C t.survive.length c] 26)) 26 #[.slice none 0 0, .int .i64 0, .slice none 0 0, .slice none 0 0]
    simpa using this
  have HB := Lib.hid (And.intro hb1 br0)
  have HT := Lib.hid ht
  clear hb0 hb1 br0 ht
  unfold totV at HR ⊢
  have x0 := X.out.c0
  have x1 := X.out.c1
  have x2 := X.out.c2
  have x3 := X.out.c3
  cases k1 : rightT t
  · rw [k1] at HR
    have E : Hid (V = .agg #[.slice none 0 0, .int .i64 0, .slice none 0 0, .slice none 0 0]) := Lib.hid (by rw [HV.out]; unfold plainT pA pa totV; rw [k1]; rfl)
    clear k1
    go_enter Tryd.func17, Tryd.ntmps17
    go_wp2_with fail
    refine HR.out.mono ?_
    rintro e w1 ⟨rfl, hb⟩
    have br := HB.out.2.below hb HB.out.2.lt
    have HB2 := Lib.hid (HB.out.1.trans (hb.mono HB.out.1.size))
    have r0 := br.cell_ 0 _ rfl
    have r1 := br.cell_ 1 _ rfl
    have r2 := br.cell_ 2 _ rfl
    have r3 := br.cell_ 3 _ rfl
    have g0 := br.frozen 0
    have g1 := br.frozen 1
    have g2 := br.frozen 2
    have g3 := br.frozen 3
    clear br hb x0 x1 x2 x3
    go_wp2
    refine bodyPost_ret (v := .agg #[.slice none 0 0, .int .i64 0, .slice none 0 0, .slice none 0 0]) (by simp [results, Tryd.results17, go_sem, r0, r1, r2, r3]) rfl ?_
    rw [E.out]
    exact ⟨rfl, below_set4 HB2.out (by simp) _ _ _ _⟩
  · rw [k1] at HR
    have E : Hid (V = .agg #[.slice A t.hood.length a, .int .i64 2, .slice B t.birth.length b, .slice C t.survive.length c]) := Lib.hid (by rw [HV.out]; unfold plainT pA pa totV; rw [k1]; rfl)
    clear k1
    go_enter Tryd.func17, Tryd.ntmps17
    go_wp2_with fail
    refine HR.out.mono ?_
    rintro e w1 ⟨rfl, hb⟩
    have br := HB.out.2.below hb HB.out.2.lt
    have X2 := X.out.ext hb
    have HB2 := Lib.hid (HB.out.1.trans (hb.mono HB.out.1.size))
    have y0 := X2.c0
    have y2 := X2.c2
    have y3 := X2.c3
    have HBF := HB2
    have r0 := br.cell_ 0 _ rfl
    have r1 := br.cell_ 1 _ rfl
    have r2 := br.cell_ 2 _ rfl
    have r3 := br.cell_ 3 _ rfl
    have g0 := br.frozen 0
    have g1 := br.frozen 1
    have g2 := br.frozen 2
    have g3 := br.frozen 3
    clear br hb x0 x1 x2 x3 X2
    go_wp2
    refine bodyPost_ret (v := .agg #[.slice A t.hood.length a, .int .i64 2, .slice B t.birth.length b, .slice C t.survive.length c]) (by simp [results, Tryd.results17, go_sem, r0, r1, r2, r3]) rfl ?_
    rw [E.out]
    have hbF := below_set4 HBF.out (b := w.heap.size + 1) (by simp) (.slice A t.hood.length a) (.int .i64 2) (.slice B t.birth.length b) (.slice C t.survive.length c)
    exact ⟨rfl, hbF⟩
end Go.Proofs.YtaofninfjdepfaaDoor
