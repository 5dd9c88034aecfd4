/-
  cellularref09.Text: a rule by counts as a text. No condition.
-/
import Derived.Test.YtaofninfjdepfaaDoorTextR
import Derived.Test.YtaofninfjdepfaaDoorTextG
namespace Go.Proofs.YtaofninfjdepfaaDoor
open Go.RowKit
set_option maxRecDepth 100000
set_option linter.unusedVariables false
set_option linter.unusedSimpArgs false

theorem bodyG_eq (t : TotL) : bodyG t = bodyP t ++ [47, 67] ++ [digC t.states] := by unfold bodyG bodyP; simp
set_option maxHeartbeats 2000000 in
theorem rtext_any (A B C : Option Addr) (a b c : Nat) (t : TotL) (w : World) (ht : TotR w A B C t) :
    Calls Tryd.prog 15 #[totV A a B b C c t] w fun e w' => e = .returned (.string ⟨(textG t).toArray⟩) ∧ Below w.heap.size w w' := by
  cases k1 : rightT t
  · have e1 : textG t = [] := by unfold textG; rw [k1]; rfl
    rw [e1]
    have hb0 := below_new w (.cells #[.slice A t.hood.length a, .int .i64 t.states, .slice B t.birth.length b, .slice C t.survive.length c] 26)
    have X1 := Lib.hid (Box.new ht a b c)
    have HR := Lib.hid (rright_any A B C a b c t _ X1.out.tot)
    rw [k1] at HR
    unfold totV at *
    clear k1 e1
    go_enter Tryd.func15, Tryd.ntmps15
    go_wp2_with fail
    refine HR.out.mono ?_
    rintro e w1 ⟨rfl, hb1⟩
    have hb2 := hb0.trans (hb1.mono hb0.size)
    go_wp2
    go_ret
    exact ⟨rfl, hb2⟩
  by_cases k2 : t.states = 2
  · have e1 : textG t = [] := by unfold textG; rw [if_neg (by rintro ⟨_, h⟩; exact h k2)]
    have d2 : (t.states == 2) = true := by simp [k2]
    rw [e1]
    have hb0 := below_new w (.cells #[.slice A t.hood.length a, .int .i64 t.states, .slice B t.birth.length b, .slice C t.survive.length c] 26)
    have X1 := Lib.hid (Box.new ht a b c)
    have HR := Lib.hid (rright_any A B C a b c t _ X1.out.tot)
    rw [k1] at HR
    unfold totV at *
    clear k1 e1 k2
    go_enter Tryd.func15, Tryd.ntmps15
    go_wp2_with fail
    refine HR.out.mono ?_
    rintro e w1 ⟨rfl, hb1⟩
    have hb2 := hb0.trans (hb1.mono hb0.size)
    have X2 := Lib.hid (X1.out.ext hb1)
    have y1 := X2.out.c1
    go_wp2
    go_ret
    exact ⟨rfl, hb2⟩
  have e1 : textG t = bodyG t ++ (letterS t.hood).data.toList := by unfold textG; rw [if_pos ⟨k1, k2⟩, bodyG_eq]
  rw [e1]
  exact rtext_body A B C a b c t w ht k1 k2

end Go.Proofs.YtaofninfjdepfaaDoor
