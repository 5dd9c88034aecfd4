/-
  A slice of the call's own that grows by one element: the append's law with a new one-element source, in the form of a walk's arm. No condition but the bounds.
-/
import Derived.Test.YtblfeaapjloppaaDoorInts
namespace Go.Proofs.YtblfeaapjloppaaDoor
open Go.RowKit

/-- v holds the numbers zs, in memory from base on -/
def OwnI (e : TypeId) (w : World) (base : Nat) (v : Value) (zs : List Int) : Prop := w.ownsRow base e 1 v zs.length (zs.map (Value.int .i64))
/-- v holds the points ps, in memory from base on -/
def OwnP (e : TypeId) (w : World) (base : Nat) (v : Value) (ps : List (Int × Int)) : Prop := w.ownsRow base e 2 v ps.length (ps.flatMap ptCells)

theorem own_form {w : World} {base : Nat} {e : TypeId} {size n : Nat} {v : Value} {xs : List Value} (h : w.ownsRow base e size v n xs) :
    ∃ A c, v = .slice A n c ∧ (Reads w w.heap.size size A n xs ∧ n ≤ 9223372036854775807) ∧ NewA base A := by
  rcases h.2 with ⟨rfl, rfl⟩ | ⟨g, cap, cur, rfl, h2⟩
  · exact ⟨none, 0, rfl, ⟨Reads.of_own (c := 0) h, by simp⟩, NewA.none_ _⟩
  · refine ⟨_, cap, rfl, ⟨Reads.of_own h, ?_⟩, ?_⟩
    · have := h2.2.2.1
      have := h2.2.2.2.1
      unfold maxLen at this
      omega
    · intro ad e
      injection e with e
      subst e
      exact h2.1
section
variable {w w' : World} {e : TypeId} {base : Nat} {v : Value} {zs : List Int} {ps : List (Int × Int)}
theorem OwnI.nil (e : TypeId) (w : World) (base : Nat) : OwnI e w base (.slice none 0 0) [] := World.ownsRow_nil _ _ _ _
theorem OwnP.nil (e : TypeId) (w : World) (base : Nat) : OwnP e w base (.slice none 0 0) [] := World.ownsRow_nil _ _ _ _
theorem OwnI.ints (h : OwnI e w base v zs) : ∃ A c, v = .slice A zs.length c ∧ Ints w A zs ∧ NewA base A := own_form h
theorem OwnP.pts (h : OwnP e w base v ps) : ∃ A c, v = .slice A ps.length c ∧ Pts w A ps ∧ NewA base A := own_form h
theorem OwnI.drewN (h : OwnI e w base v zs) (n : Nat) : OwnI e (w.drewN n) base v zs := h
theorem OwnP.drewN (h : OwnP e w base v ps) (n : Nat) : OwnP e (w.drewN n) base v ps := h
theorem own_below {size n : Nat} {xs : List Value} (h : w.ownsRow base e size v n xs) (hb : Below w.heap.size w w') : w'.ownsRow base e size v n xs := by
  obtain ⟨h1, h2⟩ := h
  refine ⟨h1, ?_⟩
  rcases h2 with h2 | ⟨g, cap, cur, h3, h4, h5, h6⟩
  · exact .inl h2
  · refine .inr ⟨g, cap, cur, h3, h4, ?_, h6⟩
    rw [hb.block g ?_]
    · exact h5
    · rcases Nat.lt_or_ge g w.heap.size with hlt | hge
      · exact hlt
      · rw [Array.getElem?_eq_none hge] at h5; cases h5
theorem OwnI.ext (h : OwnI e w base v zs) (hb : Below w.heap.size w w') : OwnI e w' base v zs := own_below h hb
theorem OwnP.ext (h : OwnP e w base v ps) (hb : Below w.heap.size w w') : OwnP e w' base v ps := own_below h hb
end

theorem wpList_push {P : Program} {wr : World} {ops : Array Oper} {rest : List Oper} {o : Oper} {a : Act} {Q : Exit → Act → World → Prop} (hgd : o.guard = none) (s x : Operand) (t : TypeId)
    (ho : o.op = .call { callee := .builtin .append, args := #[s, x], argTypes := #[t, t] })
    (base : Nat) (e : TypeId) (z : Value) (size bytes : Nat) (ht : P.underlying t = some (.slice e)) (hi : (P.info? e).map (fun i => (i.zero, i.size, i.bytes)) = some (some z, size, bytes))
    (hzs : z.cells.size = size) (hsz : 0 < size)
    (v : Value) (n : Nat) (xs : List Value) (hs : a.eval s = v) (hown : wr.ownsRow base e size v n xs)
    (cs : List Value) (hcs : cs.length = size) (hx : a.eval x = .slice (some ⟨wr.heap.size, 0, none⟩) 1 1) (h1 : ∀ u ∈ cs, u.oneCell' = true)
    (h63 : n + 1 ≤ maxLen) (hbytes : (n + 1) * bytes ≤ 140737488355328) (hbase : base ≤ wr.heap.size)
    (h : ∀ v' w', w'.ownsRow base e size v' (n + 1) (xs ++ cs) → Below base wr w' → wpList P ops Q rest (a.put o.dst v') w') :
    wpList P ops Q (o :: rest) a (wr.alloc (.cells cs.toArray e)) := by
  obtain ⟨i0, hi0, hz0, hz1, hz2⟩ := info_parts hi
  refine wpList_append_own _ hgd s x t ho base e i0 z size bytes ht hi0 hz0 hz1 hz2 hzs hsz v n xs hs (hown.alloc _) ⟨wr.heap.size, 0, none⟩ 1 1 cs hx (by omega) ?_ h1 h63 hbytes (by simp; omega) ?_
  · intro j u hu
    rw [addr_add]
    have : (wr.alloc (.cells cs.toArray e)).cell? ⟨wr.heap.size, 0 + j, none⟩ = cs.toArray[0 + j]? := cell_of_row _ _ _ _ _ _ (heap_alloc_new wr _)
    rw [this]
    simpa using hu
  · intro v' w' hown' hg _
    refine h v' w' hown' ?_
    refine ((Below.refl base wr).alloc hbase _).grown hg (by simp; omega) ?_
    intro k hk
    rcases hown.2 with ⟨rfl, _⟩ | ⟨g, cap, cur, rfl, h4, _⟩
    · simp [Value.ownBlock] at hk
    · simp [Value.ownBlock] at hk
      omega
theorem wpList_pushI {P : Program} {wr : World} {ops : Array Oper} {rest : List Oper} {o : Oper} {a : Act} {Q : Exit → Act → World → Prop} (hgd : o.guard = none) (s x : Operand) (t : TypeId)
    (ho : o.op = .call { callee := .builtin .append, args := #[s, x], argTypes := #[t, t] })
    (base : Nat) (e : TypeId) (ht : P.underlying t = some (.slice e)) (hi : (P.info? e).map (fun i => (i.zero, i.size, i.bytes)) = some (some (.int .i64 0), 1, 8))
    (v : Value) (zs : List Int) (hs : a.eval s = v) (hown : OwnI e wr base v zs)
    (z : Int) (hx : a.eval x = .slice (some ⟨wr.heap.size, 0, none⟩) 1 1)
    (hn : zs.length < 4294967296) (hbase : base ≤ wr.heap.size)
    (h : ∀ v' w', OwnI e w' base v' (zs ++ [z]) → Below base wr w' → wpList P ops Q rest (a.put o.dst v') w') :
    wpList P ops Q (o :: rest) a (wr.alloc (.cells #[.int .i64 z] e)) :=
  wpList_push hgd s x t ho base e (.int .i64 0) 1 8 ht hi rfl (by decide) v zs.length _ hs hown [.int .i64 z] rfl hx (by simp [Value.oneCell']) (by unfold maxLen; omega) (by omega) hbase
    (fun v' w' h1 h2 => h v' w' (by unfold OwnI; rw [List.length_append, List.map_append]; exact h1) h2)
theorem wpList_pushP {P : Program} {wr : World} {ops : Array Oper} {rest : List Oper} {o : Oper} {a : Act} {Q : Exit → Act → World → Prop} (hgd : o.guard = none) (s x : Operand) (t : TypeId)
    (ho : o.op = .call { callee := .builtin .append, args := #[s, x], argTypes := #[t, t] })
    (base : Nat) (e : TypeId) (ht : P.underlying t = some (.slice e)) (hi : (P.info? e).map (fun i => (i.zero, i.size, i.bytes)) = some (some (.agg #[.int .i64 0, .int .i64 0]), 2, 16))
    (v : Value) (ps : List (Int × Int)) (hs : a.eval s = v) (hown : OwnP e wr base v ps)
    (p q : Int) (hx : a.eval x = .slice (some ⟨wr.heap.size, 0, none⟩) 1 1)
    (hn : ps.length < 4294967296) (hbase : base ≤ wr.heap.size)
    (h : ∀ v' w', OwnP e w' base v' (ps ++ [(p, q)]) → Below base wr w' → wpList P ops Q rest (a.put o.dst v') w') :
    wpList P ops Q (o :: rest) a (wr.alloc (.cells #[.int .i64 p, .int .i64 q] e)) :=
  wpList_push hgd s x t ho base e _ 2 16 ht hi rfl (by decide) v ps.length _ hs hown [.int .i64 p, .int .i64 q] rfl hx (by simp [Value.oneCell']) (by unfold maxLen; omega) (by omega) hbase
    (fun v' w' h1 h2 => h v' w' (by unfold OwnP; rw [List.length_append, List.flatMap_append]; exact h1) h2)
end Go.Proofs.YtblfeaapjloppaaDoor
