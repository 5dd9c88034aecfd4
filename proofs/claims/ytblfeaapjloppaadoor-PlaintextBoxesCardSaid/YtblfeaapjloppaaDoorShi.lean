/-
  pattern.Shift of what is right and stays in its place.
-/
import Derived.Test.YtblfeaapjloppaaDoorClo
namespace Go.Proofs.YtblfeaapjloppaaDoor
open Go.RowKit
set_option maxRecDepth 100000
set_option linter.unusedVariables false
set_option linter.unusedSimpArgs false

def nx (ps : List Cel) (i : Nat) : Int := match ps[i]? with | some c => c.x | none => 0
def ny (ps : List Cel) (i : Nat) : Int := match ps[i]? with | some c => c.y | none => 0
def ns (ps : List Cel) (i : Nat) : Int := match ps[i]? with | some c => c.s | none => 0
structure CelAt (w : World) (G i : Nat) (x y s : Int) : Prop where
  lt : G < w.heap.size
  x : w.cell? ⟨G, i * 3, none⟩ = some (.int .i64 x)
  y : w.cell? ⟨G, i * 3 + 1, none⟩ = some (.int .i64 y)
  s : w.cell? ⟨G, i * 3 + 2, none⟩ = some (.int .i64 s)
  fx : w.frozen? ⟨G, i * 3, none⟩ = false
  fy : w.frozen? ⟨G, i * 3 + 1, none⟩ = false
def RowAt (w : World) (G n : Nat) (X Y S : Nat → Int) : Prop := ∀ i, i < n → CelAt w G i (X i) (Y i) (S i)
theorem RowAt.congr {w : World} {G n : Nat} {X Y S X' Y' S' : Nat → Int} (h : RowAt w G n X Y S) (hx : ∀ i, i < n → X i = X' i) (hy : ∀ i, i < n → Y i = Y' i) (hs : ∀ i, i < n → S i = S' i) : RowAt w G n X' Y' S' := fun i hi => by
  rw [← hx i hi, ← hy i hi, ← hs i hi]; exact h i hi
theorem RowAt.ext {w w' : World} {G n : Nat} {X Y S : Nat → Int} (h : RowAt w G n X Y S) (hb : Below w.heap.size w w') : RowAt w' G n X Y S := fun i hi => by
  obtain ⟨h0, h1, h2, h3, h4, h5⟩ := h i hi
  have hh := hb.block G h0
  refine ⟨Nat.lt_of_lt_of_le h0 hb.size, (hb.cell (p := ⟨G, _, none⟩) h0).trans h1, (hb.cell (p := ⟨G, _, none⟩) h0).trans h2, (hb.cell (p := ⟨G, _, none⟩) h0).trans h3, ?_, ?_⟩
  · unfold World.frozen? at h4 ⊢
    rw [hh]
    exact h4
  · unfold World.frozen? at h5 ⊢
    rw [hh]
    exact h5
theorem other_ {w : World} {G i j : Nat} {u v : Value} (h : w.cell? ⟨G, j, none⟩ = some u) (hn : i ≠ j) : (w.setCell ⟨G, i, none⟩ v).cell? ⟨G, j, none⟩ = some u := by
  rw [World.cell?_setCell_other w ⟨G, i, none⟩ ⟨G, j, none⟩ _ (fun h => hn (by injection h))]
  exact h
theorem same_ {w : World} {G i : Nat} {u v : Value} (h : w.cell? ⟨G, i, none⟩ = some u) : (w.setCell ⟨G, i, none⟩ v).cell? ⟨G, i, none⟩ = some v := World.cell?_setCell_same' _ _ _ (by rw [h]; rfl)
theorem RowAt.setX {w : World} {G n k : Nat} {X Y S : Nat → Int} (h : RowAt w G n X Y S) (hk : k < n) (v : Int) : RowAt (w.setCell ⟨G, k * 3, none⟩ (.int .i64 v)) G n (fun i => if i = k then v else X i) Y S := fun i hi => by
  obtain ⟨h0, h1, h2, h3, h4, h5⟩ := h i hi
  refine ⟨by rw [World.size_setCell]; exact h0, ?_, other_ h2 (by omega), other_ h3 (by omega), by rw [World.frozen?_setCell]; exact h4, by rw [World.frozen?_setCell]; exact h5⟩
  dsimp only
  by_cases e : i = k
  · subst e
    rw [if_pos rfl]
    exact same_ h1
  · rw [if_neg e]
    exact other_ h1 (by omega)
theorem RowAt.setY {w : World} {G n k : Nat} {X Y S : Nat → Int} (h : RowAt w G n X Y S) (hk : k < n) (v : Int) : RowAt (w.setCell ⟨G, k * 3 + 1, none⟩ (.int .i64 v)) G n X (fun i => if i = k then v else Y i) S := fun i hi => by
  obtain ⟨h0, h1, h2, h3, h4, h5⟩ := h i hi
  refine ⟨by rw [World.size_setCell]; exact h0, other_ h1 (by omega), ?_, other_ h3 (by omega), by rw [World.frozen?_setCell]; exact h4, by rw [World.frozen?_setCell]; exact h5⟩
  dsimp only
  by_cases e : i = k
  · subst e
    rw [if_pos rfl]
    exact same_ h2
  · rw [if_neg e]
    exact other_ h2 (by omega)
theorem OwnC.rowAt {e : TypeId} {w : World} {b : Nat} {v : Value} {ps : List Cel} (h : OwnC e w b v ps) : ∃ A cap G, v = .slice A ps.length cap ∧ (0 < ps.length → A = some ⟨G, 0, none⟩) ∧ b ≤ G ∧ RowAt w G ps.length (nx ps) (ny ps) (ns ps) := by
  obtain ⟨A', c', hv, hcl, -⟩ := h.cls
  rcases h.2 with ⟨h2, hn⟩ | ⟨g, cap, cur, h3, h4, h5, -⟩
  · refine ⟨A', c', b, hv, fun h => absurd h (by omega), Nat.le_refl _, fun i hi => absurd hi (by omega)⟩
  · have hA : A' = some ⟨g, 0, none⟩ := by
      rw [hv] at h3
      injection h3
    refine ⟨A', c', g, hv, fun _ => hA, h4, fun i hi => ?_⟩
    obtain ⟨b1, o1, e1, hl, x0, x1, x2⟩ := hcl.at_ hi
    rw [hA] at e1
    injection e1 with e1
    injection e1 with e1 e2
    subst e1 e2
    rw [Nat.zero_add] at x0 x1 x2
    have e : ps[i]? = some ps[i] := List.getElem?_eq_getElem hi
    refine ⟨hl, ?_, ?_, ?_, ?_, ?_⟩
    · rw [x0]; unfold nx; rw [e]
    · rw [x1]; unfold ny; rw [e]
    · rw [x2]; unfold ns; rw [e]
    · simp [World.frozen?, h5]
    · simp [World.frozen?, h5]
theorem flat_len (ps : List Cel) : (ps.flatMap celCells).length = ps.length * 3 := by
  induction ps with
  | nil => rfl
  | cons a t ih => rw [List.flatMap_cons, List.length_append, ih, List.length_cons]; simp [celCells]; omega
theorem RowAt.cls {w : World} {G : Nat} {A : Option Addr} {ps : List Cel} (hA : 0 < ps.length → A = some ⟨G, 0, none⟩) (hl : ps.length ≤ 9223372036854775807) (h : RowAt w G ps.length (nx ps) (ny ps) (ns ps)) : Cls w A ps := by
  refine ⟨⟨?_, fun hn => ⟨_, hA hn, (h 0 hn).lt, fun j u hj => ?_⟩⟩, hl⟩
  · exact flat_len ps
  · have hlen : (ps.flatMap celCells).length = ps.length * 3 := flat_len ps
    have hj2 := (List.getElem?_eq_some_iff.1 hj).1
    have hk : j / 3 < ps.length := by omega
    obtain ⟨f0, f1, f2⟩ := flat3 ps (j / 3) hk
    obtain ⟨-, c0, c1, c2, -, -⟩ := h (j / 3) hk
    have e : ps[j / 3]? = some ps[j / 3] := List.getElem?_eq_getElem hk
    unfold nx at c0
    unfold ny at c1
    unfold ns at c2
    rw [e] at c0 c1 c2
    rw [addr_add, Nat.zero_add]
    have hm : j % 3 = 0 ∨ j % 3 = 1 ∨ j % 3 = 2 := by omega
    rcases hm with hm | hm | hm
    · have ej : j = 3 * (j / 3) := by omega
      rw [ej, f0] at hj
      rw [show j = j / 3 * 3 by omega, c0]
      exact hj
    · have ej : j = 3 * (j / 3) + 1 := by omega
      rw [ej, f1] at hj
      rw [show j = j / 3 * 3 + 1 by omega, c1]
      exact hj
    · have ej : j = 3 * (j / 3) + 2 := by omega
      rw [ej, f2] at hj
      rw [show j = j / 3 * 3 + 2 by omega, c2]
      exact hj
theorem mov_len (dx dy : Int) (ps : List Cel) : (movC dx dy ps).length = ps.length := by unfold movC; rw [List.length_map]
theorem mov_n (dx dy : Int) (ps : List Cel) {i : Nat} (h : i < ps.length) : nx (movC dx dy ps) i = nx ps i + dx ∧ ny (movC dx dy ps) i = ny ps i + dy ∧ ns (movC dx dy ps) i = ns ps i := by
  unfold nx ny ns movC
  rw [List.getElem?_map, List.getElem?_eq_getElem h]
  exact ⟨rfl, rfl, rfl⟩
end Go.Proofs.YtblfeaapjloppaaDoor
