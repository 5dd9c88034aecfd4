/-
  rle.runs: the runs of a pattern. At most 5000 cells (else there is no box).
-/
import Derived.Test.YtekmldneinnmoaaDoorBoxR
import Derived.Laws.OwnMore
namespace Go.Proofs.YtekmldneinnmoaaDoor
open Go.RowKit
set_option maxRecDepth 100000
set_option linter.unusedVariables false
set_option linter.unusedSimpArgs false

theorem Tryd.infoRun : (Tryd.prog.info? 31).map (fun i => (i.zero, i.size, i.bytes)) = some (some (.agg #[.int .i64 0, .int .i64 0]), 2, 16) := by kernel_rfl
theorem wpList_pushPB {P : Program} {wr : World} {ops : Array Oper} {rest : List Oper} {o : Oper} {a : Act} {Q : Exit → Act → World → Prop} (hgd : o.guard = none) (s x : Operand) (t : TypeId)
    (ho : o.op = .call { callee := .builtin .append, args := #[s, x], argTypes := #[t, t] })
    (base : Nat) (e : TypeId) (ht : P.underlying t = some (.slice e)) (hi : (P.info? e).map (fun i => (i.zero, i.size, i.bytes)) = some (some (.agg #[.int .i64 0, .int .i64 0]), 2, 16))
    (v : Value) (ps : List (Int × Int)) (hs : a.eval s = v) (hown : OwnP e wr base v ps)
    (p q : Int) (hx : a.eval x = .slice (some ⟨wr.heap.size, 0, none⟩) 1 1)
    (hn : ps.length < 4294967296) (hbase : base ≤ wr.heap.size)
    (h : ∀ v' w', OwnP e w' base v' (ps ++ [(p, q)]) → Below base wr w' → (∀ g t cs, e ≠ t → Blk wr g t cs → Blk w' g t cs) → wpList P ops Q rest (a.put o.dst v') w') :
    wpList P ops Q (o :: rest) a (wr.alloc (.cells #[.int .i64 p, .int .i64 q] e)) := by
  obtain ⟨i0, hi0, hz0, hz1, hz2⟩ := info_parts hi
  have hown0 : wr.ownsRow base e 2 v ps.length (ps.flatMap ptCells) := hown
  refine wpList_append_own _ hgd s x t ho base e i0 _ 2 16 ht hi0 hz0 hz1 hz2 rfl (by decide) v ps.length _ hs (hown0.alloc _) ⟨wr.heap.size, 0, none⟩ 1 1 [.int .i64 p, .int .i64 q] hx (by simp) ?_ (by simp [Value.oneCell']) (by unfold maxLen; omega) (by omega) (by simp; omega) ?_
  · intro j u hu
    rw [addr_add]
    have : (wr.alloc (.cells #[.int .i64 p, .int .i64 q] e)).cell? ⟨wr.heap.size, 0 + j, none⟩ = #[.int .i64 p, .int .i64 q][0 + j]? := cell_of_row _ _ _ _ _ _ (heap_alloc_new wr _)
    rw [this]
    simpa using hu
  · intro v' w' hown' hg _
    refine h v' w' (by unfold OwnP; rw [List.length_append, List.flatMap_append]; exact hown') ?_ ?_
    · refine ((Below.refl base wr).alloc hbase _).grown hg (by simp; omega) ?_
      intro k hk
      rcases hown0.2 with ⟨rfl, _⟩ | ⟨g, cap, cur, rfl, h4, _⟩
      · simp [Value.ownBlock] at hk
      · simp [Value.ownBlock] at hk
        omega
    · intro g t cs hne hb
      exact (hb.alloc _).grown hg (fun e' => own_blk_ne hown0 hb hne e'.symm)

/-- the runs so far, the next place -/
structure RS where
  out : List (Int × Int)
  x : Int
  y : Int
def lineE (bx : Int) (t : RS) (c : Cel) : RS := if t.y < c.y then ⟨t.out ++ [(c.y - t.y, -1)], bx, c.y⟩ else t
def gapE (t : RS) (c : Cel) : RS := if t.x < c.x then ⟨t.out ++ [(c.x - t.x, 0)], t.x, t.y⟩ else t
def incs (t : RS) (x : Int) (c : Cel) : Bool := match t.out.getLast? with | none => false | some r => decide (c.x = x) && decide (r.2 = c.s)
def bump (l : List (Int × Int)) : List (Int × Int) := match l.getLast? with | none => l | some r => l.dropLast ++ [(r.1 + 1, r.2)]
/-- a cell more -/
def stepR (bx : Int) (t : RS) (c : Cel) : RS :=
  ⟨if incs (gapE (lineE bx t c) c) (lineE bx t c).x c then bump (gapE (lineE bx t c) c).out else (gapE (lineE bx t c) c).out ++ [(1, c.s)], c.x + 1, (lineE bx t c).y⟩
theorem step_of {bx : Int} {t a g : RS} {c : Cel} {b : Bool} (h1 : lineE bx t c = a) (h2 : gapE a c = g) (h3 : incs g a.x c = b) : stepR bx t c = ⟨if b then bump g.out else g.out ++ [(1, c.s)], c.x + 1, a.y⟩ := by
  subst h1 h2 h3
  rfl
theorem flat_snoc (q : List (Int × Int)) (r : Int × Int) (z : Int) : ((q ++ [r]).flatMap ptCells).set (q.length * 2) (.int .i64 z) = (q ++ [(z, r.2)]).flatMap ptCells := by
  have hl : (q.flatMap ptCells).length = q.length * 2 := by
    induction q with
    | nil => rfl
    | cons a l ih => rw [List.flatMap_cons, List.length_append, ih]; simp [ptCells]; omega
  rw [List.flatMap_append, List.flatMap_append, List.set_append, if_neg (by omega), hl]
  simp [ptCells]
def runsSt (bx y0 : Int) (ps : List Cel) (k : Nat) : RS := (ps.take k).foldl (stepR bx) ⟨[], bx, y0⟩
theorem runs_snoc (bx y0 : Int) {ps : List Cel} {k : Nat} (h : k < ps.length) : runsSt bx y0 ps (k + 1) = stepR bx (runsSt bx y0 ps k) ps[k] := by
  unfold runsSt
  rw [List.take_succ_eq_append_getElem h, List.foldl_append]
  rfl
def runsL (ps : List Cel) : List (Int × Int) := if (boxC ps).2 then (runsSt (boxC ps).1.x (boxC ps).1.y ps ps.length).out else []
/-- what is so of the runs of k cells -/
structure RSok (t : RS) (k : Nat) : Prop where
  x0 : -1048576 ≤ t.x
  x1 : t.x ≤ 1048577
  y0 : -1048576 ≤ t.y
  y1 : t.y ≤ 1048576
  n : t.out.length ≤ 3 * k
  c : ∀ r ∈ t.out, 1 ≤ r.2 → 0 ≤ r.1 ∧ r.1 ≤ k
theorem RSok.step {bx : Int} {t : RS} {k : Nat} {c : Cel} (h : RSok t k) (hb : -1048576 ≤ bx ∧ bx ≤ 1048576) (hx : -1048576 ≤ c.x ∧ c.x ≤ 1048576) (hy : -1048576 ≤ c.y ∧ c.y ≤ 1048576) : RSok (stepR bx t c) (k + 1) := by
  have h1 : (lineE bx t c).out.length ≤ 3 * k + 1 ∧ (∀ r ∈ (lineE bx t c).out, 1 ≤ r.2 → 0 ≤ r.1 ∧ r.1 ≤ k) ∧ -1048576 ≤ (lineE bx t c).y ∧ (lineE bx t c).y ≤ 1048576 := by
    unfold lineE
    split
    · refine ⟨by simp; have := h.n; omega, fun r hr h1 => ?_, hy.1, hy.2⟩
      simp only [List.mem_append, List.mem_singleton] at hr
      rcases hr with hr | hr
      · exact h.c r hr h1
      · subst hr; simp at h1
    · exact ⟨by have := h.n; omega, h.c, h.y0, h.y1⟩
  have h2 : (gapE (lineE bx t c) c).out.length ≤ 3 * k + 2 ∧ (∀ r ∈ (gapE (lineE bx t c) c).out, 1 ≤ r.2 → 0 ≤ r.1 ∧ r.1 ≤ k) := by
    unfold gapE
    split
    · refine ⟨by simp; omega, fun r hr h3 => ?_⟩
      simp only [List.mem_append, List.mem_singleton] at hr
      rcases hr with hr | hr
      · exact h1.2.1 r hr h3
      · subst hr; simp at h3
    · exact ⟨by omega, h1.2.1⟩
  refine ⟨by show -1048576 ≤ c.x + 1; omega, by show c.x + 1 ≤ 1048577; omega, h1.2.2.1, h1.2.2.2, ?_, ?_⟩
  · show (if _ then _ else _ : List (Int × Int)).length ≤ _
    split
    · unfold bump
      split
      · omega
      · simp; omega
    · simp; omega
  · intro r hr h3
    unfold stepR at hr
    dsimp only at hr
    have key : r ∈ (if incs (gapE (lineE bx t c) c) (lineE bx t c).x c = true then bump (gapE (lineE bx t c) c).out else (gapE (lineE bx t c) c).out ++ [(1, c.s)]) → 0 ≤ r.1 ∧ r.1 ≤ ((k + 1 : Nat) : Int) := by
      intro hr
      have h4 := h2.2
      split at hr
      · unfold bump at hr
        split at hr
        · have := h4 r hr h3; omega
        · rename_i q hq
          simp only [List.mem_append, List.mem_singleton] at hr
          rcases hr with hr | hr
          · have := h4 r (List.dropLast_subset _ hr) h3; omega
          · subst hr
            have := h4 q (List.mem_of_getLast? hq) h3
            simp
            omega
      · simp only [List.mem_append, List.mem_singleton] at hr
        rcases hr with hr | hr
        · have := h4 r hr h3; omega
        · subst hr; simp; omega
    exact key hr
end Go.Proofs.YtekmldneinnmoaaDoor
