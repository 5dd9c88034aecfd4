/-
  A pattern as an argument: its reading gives the cells.
-/
import Derived.Test.YtblfeaapjloppaaDoorOpen
namespace Go.Proofs.YtblfeaapjloppaaDoor
open Go.ChangeShapes Go.WideShapes Go.ChangeAt Go.RowKit Go.Deep
set_option maxRecDepth 100000
set_option linter.unusedVariables false

theorem flat_len3 : ∀ ps : List Cel, (ps.flatMap celCells).length = ps.length * 3
  | [] => rfl
  | p :: r => by rw [List.flatMap_cons, List.length_append, flat_len3 r]; simp [celCells]; omega
section
variable {H : Type} {enc : TypeId × Value → H} {W : World}
theorem open_Cls {n : Nat} {v : Value} {x : DataW H × List MemPlace} (h : DataW.trod enc Tryd.prog W 0 (fun _ => true) true n 24 [v] = some x) : ∃ A c ps, v = .slice A (ps : List Cel).length c ∧ Cls W A ps := by
  rcases open_slice Tryd.underlying24 h with ⟨hcs, -⟩ | ⟨a, len, cap, m, k, D, Pl, hcs, -, hl, hm, hmm, -, hx⟩
  · injection hcs with hcs
    exact ⟨none, 0, [], hcs, Cls.nil⟩
  · injection hcs with hcs
    have hmc : m = cap := by rw [hmm]; rfl
    have hx' : ∀ i, i < len → ∃ q : Cel, W.cell? (a.add (i * 3)) = some (.int .i64 q.x) ∧ W.cell? (a.add (i * 3 + 1)) = some (.int .i64 q.y) ∧ W.cell? (a.add (i * 3 + 2)) = some (.int .i64 q.s) := by
      intro i hi
      obtain ⟨cs', h1, h2⟩ := hx i (by omega)
      rw [Tryd.cellsCel] at h1
      obtain ⟨_, hlen, hcell⟩ := World.cells?_some h1
      obtain ⟨xs, k2, hk, hxy, _, hxl, hf⟩ := DataW.trod_struct Tryd.underlying34 h2
      match xs, hxl, cs', hlen with
      | [y0, y1, y2], _, [v0, v1, v2], _ =>
        have g0 := hf 0 _ rfl
        have g1 := hf 1 _ rfl
        have g2 := hf 2 _ rfl
        simp [Tryd.cellsInt] at g0 g1 g2
        have e0 := hcell 0 (by omega)
        have e1 := hcell 1 (by omega)
        have e2 := hcell 2 (by omega)
        rw [add_add] at e0 e1 e2
        obtain ⟨p, r0, -, -⟩ := DataW.trod_int Tryd.underlying3 g0
        obtain ⟨q, r1, -, -⟩ := DataW.trod_int Tryd.underlying3 g1
        obtain ⟨r, r2, -, -⟩ := DataW.trod_int Tryd.underlying3 g2
        injection r0 with r0
        injection r1 with r1
        injection r2 with r2
        subst r0 r1 r2
        exact ⟨⟨p, q, r⟩, by simpa using e0, by simpa using e1, by simpa using e2⟩
    obtain ⟨F, hF⟩ : ∃ F : Nat → Cel, ∀ i, i < len → W.cell? (a.add (i * 3)) = some (.int .i64 (F i).x) ∧ W.cell? (a.add (i * 3 + 1)) = some (.int .i64 (F i).y) ∧ W.cell? (a.add (i * 3 + 2)) = some (.int .i64 (F i).s) := by
      refine ⟨fun i => if hi : i < len then Classical.choose (hx' i hi) else ⟨0, 0, 0⟩, fun i hi => ?_⟩
      simp only [hi, dif_pos]
      exact Classical.choose_spec (hx' i hi)
    refine ⟨some a, cap, (List.range len).map F, ?_, ⟨?_, fun hn => ⟨a, rfl, ?_, fun j u hu => ?_⟩⟩, ?_⟩
    · rw [hcs, List.length_map, List.length_range]
    · rw [flat_len3]
    · have h0 := (hF 0 (by simpa using hn)).1
      exact World.block_lt_of_cell? _ _ h0
    · have hj : j < len * 3 := by
        have := (List.getElem?_eq_some_iff.1 hu).1
        rw [flat_len3] at this; simpa using this
      have hi : j / 3 < ((List.range len).map F).length := by simp; omega
      obtain ⟨f0, f1, f2⟩ := flat3 ((List.range len).map F) (j / 3) hi
      obtain ⟨g0, g1, g2⟩ := hF (j / 3) (by omega)
      have hg : ((List.range len).map F)[j / 3] = F (j / 3) := by simp
      rw [hg] at f0 f1 f2
      have h3 : j % 3 = 0 ∨ j % 3 = 1 ∨ j % 3 = 2 := by omega
      rcases h3 with h2 | h2 | h2
      · have ej : j = 3 * (j / 3) := by omega
        rw [ej] at hu ⊢
        rw [f0] at hu
        rw [Nat.mul_comm, g0]; exact hu
      · have ej : j = 3 * (j / 3) + 1 := by omega
        rw [ej] at hu ⊢
        rw [f1] at hu
        rw [Nat.mul_comm, g1]; exact hu
      · have ej : j = 3 * (j / 3) + 2 := by omega
        rw [ej] at hu ⊢
        rw [f2] at hu
        rw [Nat.mul_comm, g2]; exact hu
    · rw [List.length_map, List.length_range]; unfold maxLen at hm; omega
theorem open_ClsArg {r : Reach} {b0 : Nat} {v : Value} {d : DataW H} {p : List MemPlace} (hv : Value.okWide Tryd.prog W r b0 24 v) (h : DataW.Trod enc Tryd.prog W 0 (fun _ => true) true 24 v d p) :
    ∃ A c ps, v = .slice A (ps : List Cel).length c ∧ Cls W A ps := by
  obtain ⟨x, l, c, rfl⟩ := okWide_slice Tryd.underlying24 hv
  obtain ⟨fuel, hf⟩ := h
  exact open_Cls hf
end
end Go.Proofs.YtblfeaapjloppaaDoor
