/-
  Slices of cells: a slice that reads as a list of cells; a slice of the call's own that grows by a cell. No condition but the bounds.
-/
import Derived.Test.YtblfeaapjloppaaDoorOwn
namespace Go.Proofs.YtblfeaapjloppaaDoor
open Go.RowKit
set_option linter.unusedVariables false

structure Cel where
  x : Int
  y : Int
  s : Int
  deriving DecidableEq
/-- a cell's cells -/
def celCells (c : Cel) : List Value := [.int .i64 c.x, .int .i64 c.y, .int .i64 c.s]
/-- the slice at A reads as the cells ps -/
def Cls (w : World) (A : Option Addr) (ps : List Cel) : Prop := Reads w w.heap.size 3 A ps.length (ps.flatMap celCells) ∧ ps.length ≤ 9223372036854775807
theorem flat3 : ∀ (ps : List Cel) (k : Nat) (hk : k < ps.length), (ps.flatMap celCells)[3 * k]? = some (.int .i64 ps[k].x) ∧ (ps.flatMap celCells)[3 * k + 1]? = some (.int .i64 ps[k].y) ∧ (ps.flatMap celCells)[3 * k + 2]? = some (.int .i64 ps[k].s)
  | p :: ps, 0, _ => by simp [celCells]
  | p :: ps, k + 1, hk => by
    have h := flat3 ps k (by simpa using hk)
    have e1 : 3 * (k + 1) = (3 * k) + 1 + 1 + 1 := by omega
    have e2 : 3 * (k + 1) + 1 = (3 * k + 1) + 1 + 1 + 1 := by omega
    have e3 : 3 * (k + 1) + 2 = (3 * k + 2) + 1 + 1 + 1 := by omega
    simp only [List.flatMap_cons, celCells, List.cons_append, List.nil_append, e1, e2, e3, List.getElem?_cons_succ, List.getElem_cons_succ]
    exact h
section
variable {w w' : World} {A : Option Addr} {ps : List Cel}
theorem Cls.at_ {k : Nat} (h : Cls w A ps) (hk : k < ps.length) : ∃ b o, A = some ⟨b, o, none⟩ ∧ b < w.heap.size ∧ w.cell? ⟨b, o + k * 3, none⟩ = some (.int .i64 ps[k].x) ∧ w.cell? ⟨b, o + k * 3 + 1, none⟩ = some (.int .i64 ps[k].y) ∧ w.cell? ⟨b, o + k * 3 + 2, none⟩ = some (.int .i64 ps[k].s) := by
  obtain ⟨ad, e, hb, hc⟩ := h.1.2 (by omega)
  obtain ⟨f1, f2, f3⟩ := flat3 ps k hk
  obtain ⟨f0, _⟩ := flat3 ps 0 (by omega)
  have h0 := hc _ _ f0
  obtain ⟨b, o, sp⟩ := ad
  obtain rfl := spot_none h0
  refine ⟨b, o, e, hb, ?_, ?_, ?_⟩
  · rw [Nat.mul_comm]; have := hc _ _ f1; rwa [addr_add] at this
  · rw [Nat.mul_comm]; have := hc _ _ f2; rwa [addr_add] at this
  · rw [Nat.mul_comm]; have := hc _ _ f3; rwa [addr_add] at this
theorem Cls.le (h : Cls w A ps) : ps.length ≤ 9223372036854775807 := h.2
theorem Cls.ext (h : Cls w A ps) (hb : Below w.heap.size w w') : Cls w' A ps := ⟨(Reads.below h.1 hb).more hb.size, h.2⟩
theorem Cls.drewN (h : Cls w A ps) (n : Nat) : Cls (w.drewN n) A ps := h
theorem Cls.nil : Cls w A [] := ⟨Reads.none_, by simp⟩
end
/-- v holds the cells ps, in memory from base on -/
def OwnC (e : TypeId) (w : World) (base : Nat) (v : Value) (ps : List Cel) : Prop := w.ownsRow base e 3 v ps.length (ps.flatMap celCells)
section
variable {w w' : World} {e : TypeId} {base : Nat} {v : Value} {ps : List Cel}
theorem OwnC.nil (e : TypeId) (w : World) (base : Nat) : OwnC e w base (.slice none 0 0) [] := World.ownsRow_nil _ _ _ _
theorem OwnC.cls (h : OwnC e w base v ps) : ∃ A c, v = .slice A ps.length c ∧ Cls w A ps ∧ NewA base A := own_form h
theorem OwnC.drewN (h : OwnC e w base v ps) (n : Nat) : OwnC e (w.drewN n) base v ps := h
theorem OwnC.ext (h : OwnC e w base v ps) (hb : Below w.heap.size w w') : OwnC e w' base v ps := own_below h hb
end
theorem wpList_pushC {P : Program} {wr : World} {ops : Array Oper} {rest : List Oper} {o : Oper} {a : Act} {Q : Exit → Act → World → Prop} (hgd : o.guard = none) (s x : Operand) (t : TypeId)
    (ho : o.op = .call { callee := .builtin .append, args := #[s, x], argTypes := #[t, t] })
    (base : Nat) (e : TypeId) (ht : P.underlying t = some (.slice e)) (hi : (P.info? e).map (fun i => (i.zero, i.size, i.bytes)) = some (some (.agg #[.int .i64 0, .int .i64 0, .int .i64 0]), 3, 24))
    (v : Value) (ps : List Cel) (hs : a.eval s = v) (hown : OwnC e wr base v ps)
    (p q r : Int) (hx : a.eval x = .slice (some ⟨wr.heap.size, 0, none⟩) 1 1)
    (hn : ps.length < 4294967296) (hbase : base ≤ wr.heap.size)
    (h : ∀ v' w', OwnC e w' base v' (ps ++ [⟨p, q, r⟩]) → Below base wr w' → wpList P ops Q rest (a.put o.dst v') w') :
    wpList P ops Q (o :: rest) a (wr.alloc (.cells #[.int .i64 p, .int .i64 q, .int .i64 r] e)) :=
  wpList_push hgd s x t ho base e _ 3 24 ht hi rfl (by decide) v ps.length _ hs hown [.int .i64 p, .int .i64 q, .int .i64 r] rfl hx (by simp [Value.oneCell']) (by unfold maxLen; omega) (by omega) hbase
    (fun v' w' h1 h2 => h v' w' (by unfold OwnC; rw [List.length_append, List.flatMap_append]; exact h1) h2)
end Go.Proofs.YtblfeaapjloppaaDoor
