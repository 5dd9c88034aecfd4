/-
  slices.Clone of cells.
-/
import Derived.Test.YtblfeaapjloppaaDoorCut
namespace Go.Proofs.YtblfeaapjloppaaDoor
open Go.RowKit
set_option maxRecDepth 100000
set_option linter.unusedVariables false
set_option linter.unusedSimpArgs false

theorem cells_one {ps : List Cel} {u : Value} (h : u ∈ ps.flatMap celCells) : u.oneCell' = true := by
  obtain ⟨c, _, hc⟩ := List.mem_flatMap.1 h
  unfold celCells at hc
  simp only [List.mem_cons, List.not_mem_nil, or_false] at hc
  rcases hc with rfl | rfl | rfl <;> rfl
set_option maxHeartbeats 2000000 in
theorem clone_any (A : Option Addr) (c : Nat) (ps : List Cel) (w : World) (ha : Cls w A ps) (hl : ps.length ≤ 5000) :
    Calls Tryd.prog 35 #[.slice A ps.length c] w fun e w' => ∃ v, e = .returned v ∧ OwnC 34 w' w.heap.size v ps ∧ Below w.heap.size w w' := by
  have q24 : ∀ (w : World) (a : Option Addr) (n c n' c' : Nat), (binOp .eql 24 (.slice a n c) (.slice none n' c')).run Tryd.prog w = .ok (.bool a.isNone) w := fun w a n c n' c' => Lib.run_eql_slice_nil w _ _ a n c n' c' Tryd.underlying24
  obtain ⟨i0, hi, hz0, hz1, hz2⟩ := info_parts Tryd.infoCell
  have HA := Lib.hid ha
  clear ha
  cases A with
  | none =>
    have e : ps = [] := by
      by_cases h : 0 < ps.length
      · obtain ⟨ad, e, _⟩ := HA.out.1.2 h
        cases e
      · exact List.eq_nil_of_length_eq_zero (by omega)
    subst e
    go_enter Tryd.func35, Tryd.ntmps35
    go_wp2
    go_ret
    exact ⟨_, rfl, OwnC.nil _ _ _, Below.refl _ _⟩
  | some ad =>
    go_enter Tryd.func35, Tryd.ntmps35
    go_wp2_with (at_builtin; refine wpList_append_own _ rfl _ _ 24 rfl w.heap.size 34 i0 _ 3 24 Tryd.underlying24 hi hz0 hz1 hz2 rfl (by decide) _ _ _ rfl (World.ownsRow_made w #[] 0 (Nat.le_refl _) (Nat.zero_le _) rfl) ad ps.length c (ps.flatMap celCells) rfl ?qc1 ?qc2 ?qc3 ?qc4 ?qc5 ?qc6 ?_)
    case qc1 => exact HA.out.1.1
    case qc2 =>
      intro j u hj
      refine Lib.cell?_alloc_some _ ?_
      have hn : 0 < ps.length := by
        have h1 := (List.getElem?_eq_some_iff.1 hj).1
        have h2 := HA.out.1.1
        omega
      obtain ⟨ad', e, _, h⟩ := HA.out.1.2 hn
      cases e
      exact h j u hj
    case qc3 => exact fun u hu => cells_one hu
    case qc4 => unfold maxLen; omega
    case qc5 => omega
    case qc6 => simp
    intro v' w1 hown hgrow hnil
    go_wp2
    go_ret
    refine ⟨v', rfl, ?_, ?_⟩
    · unfold OwnC
      simpa using hown
    · exact ((Below.refl _ w).alloc (Nat.le_refl _) _).grown hgrow (by simp) (by intro k hk; simp [Value.ownBlock] at hk; omega)
end Go.Proofs.YtblfeaapjloppaaDoor
