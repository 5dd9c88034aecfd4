/-
  Two slices of the call's own, that grow in turn.
-/
import Derived.Test.YtnobnlbjgaanmaaJ
import Derived.Maps.AppendAt
namespace Go.Proofs.Ytnobnlbjgaanmaa
open Go.RowKit
set_option linter.unusedVariables false

/-- u's block is not v's -/
def Apart (u v : Value) : Prop := u.ownBlock = none ∨ u.ownBlock ≠ v.ownBlock
/-- v became v', an append's result -/
structure Grew (B : Nat) (w w' : World) (v v' : Value) : Prop where
  below : Below B w w'
  block : ∀ k, k < w.heap.size → some k ≠ v.ownBlock → w'.heap[k]? = w.heap[k]?
  at_ : v'.ownBlock = v.ownBlock ∨ ∃ g, v'.ownBlock = some g ∧ w.heap.size ≤ g
theorem own_lt {w : World} {base size n : Nat} {e : TypeId} {u : Value} {xs : List Value} (h : w.ownsRow base e size u n xs) {g : Nat} (hg : u.ownBlock = some g) : g < w.heap.size ∧ base ≤ g := by
  rcases h.2 with ⟨rfl, _⟩ | ⟨g', cap, cur, rfl, h4, h5, _⟩
  · simp [Value.ownBlock] at hg
  · simp [Value.ownBlock] at hg
    subst hg
    refine ⟨?_, h4⟩
    rcases Nat.lt_or_ge g' w.heap.size with hlt | hge
    · exact hlt
    · rw [Array.getElem?_eq_none hge] at h5; cases h5
theorem own_kept {w w' : World} {base size n : Nat} {e : TypeId} {u : Value} {xs : List Value} (h : w.ownsRow base e size u n xs) (hk : ∀ g, u.ownBlock = some g → w'.heap[g]? = w.heap[g]?) : w'.ownsRow base e size u n xs := by
  obtain ⟨h1, h2⟩ := h
  refine ⟨h1, ?_⟩
  rcases h2 with h2 | ⟨g, cap, cur, rfl, h4, h5, h6⟩
  · exact .inl h2
  · exact .inr ⟨g, cap, cur, rfl, h4, by rw [hk g rfl]; exact h5, h6⟩
theorem Grew.own {w w' : World} {v v' u : Value} {B base size n : Nat} {e : TypeId} {xs : List Value} (H : Grew B w w' v v') (h : w.ownsRow base e size u n xs) (ha : Apart u v) : w'.ownsRow base e size u n xs := by
  refine own_kept h fun g hg => H.block g (own_lt h hg).1 ?_
  rcases ha with ha | ha
  · rw [ha] at hg; cases hg
  · rw [← hg]; exact ha
theorem Grew.apart {w w' : World} {v v' u : Value} {B base size n : Nat} {e : TypeId} {xs : List Value} (H : Grew B w w' v v') (h : w.ownsRow base e size u n xs) (ha : Apart u v) : Apart u v' := by
  rcases ha with ha | ha
  · exact .inl ha
  · rcases H.at_ with h1 | ⟨g, h1, h2⟩
    · right; rw [h1]; exact ha
    · cases hu : u.ownBlock with
      | none => exact .inl hu
      | some k =>
        right
        have := (own_lt h hu).1
        rw [hu, h1]
        intro he
        injection he with he
        omega
theorem Apart.symm {u v : Value} (h : Apart u v) : Apart v u := by
  cases hv : v.ownBlock with
  | none => exact .inl hv
  | some k =>
    rcases h with h | h
    · right; rw [h, hv]; simp
    · right; exact fun he => h he.symm
theorem own_far {w : World} {base size n : Nat} {e : TypeId} {u : Value} {xs : List Value} (h : w.ownsRow base e size u n xs) {p : Addr} (hp : p.block < base) (x : Value) : (w.setCell p x).ownsRow base e size u n xs :=
  own_kept h fun g hg => Below.heap_setCell w p x g (by have := (own_lt h hg).2; omega)
theorem wpList_push2I {P : Program} {wr : World} {ops : Array Oper} {rest : List Oper} {o : Oper} {a : Act} {Q : Exit → Act → World → Prop} (hgd : o.guard = none) (s x : Operand) (t : TypeId)
    (ho : o.op = .call { callee := .builtin .append, args := #[s, x], argTypes := #[t, t] })
    (base : Nat) (e : TypeId) (ht : P.underlying t = some (.slice e)) (hi : (P.info? e).map (fun i => (i.zero, i.size, i.bytes)) = some (some (.int .i64 0), 1, 8))
    (v : Value) (zs : List Int) (hs : a.eval s = v) (hown : OwnI e wr base v zs)
    (z : Int) (hx : a.eval x = .slice (some ⟨wr.heap.size, 0, none⟩) 1 1)
    (hn : zs.length < 4294967296) (hbase : base ≤ wr.heap.size)
    (h : ∀ v' w', OwnI e w' base v' (zs ++ [z]) → Grew base wr w' v v' → wpList P ops Q rest (a.put o.dst v') w') :
    wpList P ops Q (o :: rest) a (wr.alloc (.cells #[.int .i64 z] e)) := by
  obtain ⟨i0, hi0, hz0, hz1, hz2⟩ := info_parts hi
  have hown0 : wr.ownsRow base e 1 v zs.length (zs.map (Value.int .i64)) := hown
  refine wpList_append_own_at _ hgd s x t ho base e i0 (.int .i64 0) 1 8 ht hi0 hz0 hz1 hz2 rfl (by decide) v zs.length _ hs (hown0.alloc _) ⟨wr.heap.size, 0, none⟩ 1 1 [.int .i64 z] hx (by simp) ?_ (by simp [Value.oneCell']) (by unfold maxLen; omega) (by omega) (by simp; omega) ?_
  · intro j u hu
    rw [addr_add]
    have : (wr.alloc (.cells #[.int .i64 z] e)).cell? ⟨wr.heap.size, 0 + j, none⟩ = #[Value.int .i64 z][0 + j]? := cell_of_row _ _ _ _ _ _ (heap_alloc_new wr _)
    rw [this]
    cases j with
    | zero => simpa using hu
    | succ j => simp at hu
  · intro v' w' hown' hg _ hat
    refine h v' w' ?_ ⟨?_, ?_, ?_⟩
    · unfold OwnI; rw [List.length_append, List.map_append]; exact hown'
    · refine ((Below.refl base wr).alloc hbase _).grown hg (by simp; omega) ?_
      intro k hk
      exact (own_lt hown0 (g := k) hk).2
    · intro k hk hne
      rw [hg.block k (by simp; omega) hne]
      exact Below.heap_alloc wr _ k hk
    · rcases hat with hat | hat
      · exact .inl hat
      · refine .inr ⟨_, hat, by simp⟩
end Go.Proofs.Ytnobnlbjgaanmaa
