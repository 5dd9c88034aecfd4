/-
  Rules by counts: lifelike.letter, Right, Same; cellularref08.known, Right, Same; the law's short. No condition.
-/
import Derived.Test.YtaofninfjdepfaaDoorAsc
import Derived.Test.YtaofninfjdepfaaDoorRef07
namespace Go.Proofs.YtaofninfjdepfaaDoor
open Go.RowKit
set_option maxRecDepth 100000
set_option linter.unusedVariables false

structure TotL where
  hood : List (Int × Int)
  states : Int
  birth : List Int
  survive : List Int
  deriving DecidableEq

/-- the value of a rule by counts: its slices at A, B, C -/
def totV (A : Option Addr) (a : Nat) (B : Option Addr) (b : Nat) (C : Option Addr) (c : Nat) (t : TotL) : Value :=
  .agg #[.slice A t.hood.length a, .int .i64 t.states, .slice B t.birth.length b, .slice C t.survive.length c]
/-- the slices at A, B, C read as the rule's -/
structure TotR (w : World) (A B C : Option Addr) (t : TotL) : Prop where
  hood : Pts w A t.hood
  birth : Ints w B t.birth
  survive : Ints w C t.survive
theorem TotR.ext {w w' : World} {A B C : Option Addr} {t : TotL} (h : TotR w A B C t) (hb : Below w.heap.size w w') : TotR w' A B C t :=
  ⟨h.hood.ext hb, h.birth.ext hb, h.survive.ext hb⟩
def knownB (ps : List (Int × Int)) : Bool := decide (ps = mooreL 1) || decide (ps = neumL 1) || decide (ps = hexL)
def letterS (ps : List (Int × Int)) : ByteArray := if ps = mooreL 1 then ⟨#[]⟩ else if ps = neumL 1 then ⟨#[86]⟩ else if ps = hexL then ⟨#[72]⟩ else ⟨#[]⟩
def rightT (t : TotL) : Bool := knownB t.hood && decide (2 ≤ t.states) && decide (t.states ≤ 8) && asc (-1) ((t.hood.length : Int) - 1) t.birth && asc (-1) ((t.hood.length : Int) - 1) t.survive
def shortT (t : TotL) : Bool := decide (t.hood.length ≤ 60) && decide (t.birth.length ≤ 60) && decide (t.survive.length ≤ 60)
theorem moore_one (w : World) : Calls Tryd.prog 23 #[.int .i64 1] w (RetPts (mooreL 1) w) := moore_any 1 (by omega) w
theorem neum_one (w : World) : Calls Tryd.prog 25 #[.int .i64 1] w (RetPts (neumL 1) w) := neum_any 1 (by omega) w
theorem rmoore_one (w : World) : Calls Tryd.prog 34 #[.int .i64 1] w (RetPts (mooreL 1) w) := rmoore_any 1 (by omega) w
theorem rneum_one (w : World) : Calls Tryd.prog 35 #[.int .i64 1] w (RetPts (neumL 1) w) := rneum_any 1 (by omega) w
set_option maxHeartbeats 400000 in
theorem hsame_any (A B : Option Addr) (xs ys : List (Int × Int)) (c d : Nat) (w : World) (ha : Pts w A xs) (hb : Pts w B ys) :
    Calls Tryd.prog 66 #[.slice A xs.length c, .slice B ys.length d] w fun e w' => e = .returned (.bool (decide (xs = ys))) ∧ Qt w w' := by
  have HE := Lib.hid (equalPts A B xs ys c d w ha hb)
  go_enter Tryd.func66, Tryd.ntmps66
  go_wp2_with fail
  refine HE.out.mono ?_
  rintro e w' ⟨rfl, hq⟩
  clear HE
  go_wp2
  go_ret
  exact ⟨rfl, hq⟩
set_option maxHeartbeats 800000 in
theorem letter_any (A : Option Addr) (ps : List (Int × Int)) (c : Nat) (w : World) (ha : Pts w A ps) :
    Calls Tryd.prog 46 #[.slice A ps.length c] w fun e w' => e = .returned (.tuple #[.string (letterS ps), .bool (knownB ps)]) ∧ Below w.heap.size w w' := by
  by_cases h1 : ps = mooreL 1
  · have e1 : letterS ps = ⟨#[]⟩ := by unfold letterS; rw [if_pos h1]
    have e2 : knownB ps = true := by unfold knownB; rw [decide_eq_true h1]; rfl
    rw [e1, e2]
    have d1 : decide (ps = mooreL 1) = true := decide_eq_true h1
    clear e1 e2 h1
    go_enter Tryd.func46, Tryd.ntmps46
    go_wp2_with fail
    refine (moore_one _).mono ?_
    rintro e w1 ⟨A1, c1, rfl, hp1, -, hb1⟩
    go_wp2_with fail
    refine (hsame_any _ _ _ _ _ _ _ (ha.ext hb1) hp1).mono ?_
    rintro e w2 ⟨rfl, hq⟩
    go_wp2
    go_ret2
    exact ⟨rfl, hb1.trans (hq.below _)⟩
  · have d1 : decide (ps = mooreL 1) = false := decide_eq_false h1
    by_cases h2 : ps = neumL 1
    · have e1 : letterS ps = ⟨#[86]⟩ := by unfold letterS; rw [if_neg h1, if_pos h2]
      have e2 : knownB ps = true := by unfold knownB; rw [d1, decide_eq_true h2]; rfl
      rw [e1, e2]
      have d2 : decide (ps = neumL 1) = true := decide_eq_true h2
      clear e1 e2 h1 h2
      go_enter Tryd.func46, Tryd.ntmps46
      go_wp2_with fail
      refine (moore_one _).mono ?_
      rintro e w1 ⟨A1, c1, rfl, hp1, -, hb1⟩
      go_wp2_with fail
      refine (hsame_any _ _ _ _ _ _ _ (ha.ext hb1) hp1).mono ?_
      rintro e w2 ⟨rfl, hq⟩
      have hb2 := hb1.trans (hq.below _)
      go_wp2_with fail
      refine (neum_one _).mono ?_
      rintro e w3 ⟨A3, c3, rfl, hp3, -, hb3⟩
      have hb4 := hb2.trans (hb3.mono hb2.size)
      go_wp2_with fail
      refine (hsame_any _ _ _ _ _ _ _ (ha.ext hb4) hp3).mono ?_
      rintro e w4 ⟨rfl, hq4⟩
      go_wp2
      go_ret2
      exact ⟨rfl, hb4.trans (hq4.below _)⟩
    · have d2 : decide (ps = neumL 1) = false := decide_eq_false h2
      have e1 : letterS ps = if ps = hexL then ⟨#[72]⟩ else ⟨#[]⟩ := by unfold letterS; rw [if_neg h1, if_neg h2]
      have e2 : knownB ps = decide (ps = hexL) := by unfold knownB; rw [d1, d2]; rfl
      rw [e1, e2]
      clear e1 e2 h1 h2
      by_cases h3 : ps = hexL
      · rw [if_pos h3]
        have d3 : decide (ps = hexL) = true := decide_eq_true h3
        rw [d3]
        clear h3
        go_enter Tryd.func46, Tryd.ntmps46
        go_wp2_with fail
        refine (moore_one _).mono ?_
        rintro e w1 ⟨A1, c1, rfl, hp1, -, hb1⟩
        go_wp2_with fail
        refine (hsame_any _ _ _ _ _ _ _ (ha.ext hb1) hp1).mono ?_
        rintro e w2 ⟨rfl, hq⟩
        have hb2 := hb1.trans (hq.below _)
        go_wp2_with fail
        refine (neum_one _).mono ?_
        rintro e w3 ⟨A3, c3, rfl, hp3, -, hb3⟩
        have hb4 := hb2.trans (hb3.mono hb2.size)
        go_wp2_with fail
        refine (hsame_any _ _ _ _ _ _ _ (ha.ext hb4) hp3).mono ?_
        rintro e w4 ⟨rfl, hq4⟩
        have hb5 := hb4.trans (hq4.below _)
        go_wp2_with fail
        refine (hex_any _).mono ?_
        rintro e w5 ⟨A5, c5, rfl, hp5, -, hb5'⟩
        have hb6 := hb5.trans (hb5'.mono hb5.size)
        go_wp2_with fail
        refine (hsame_any _ _ _ _ _ _ _ (ha.ext hb6) hp5).mono ?_
        rintro e w6 ⟨rfl, hq6⟩
        go_wp2
        go_ret2
        exact ⟨rfl, hb6.trans (hq6.below _)⟩
      · rw [if_neg h3]
        have d3 : decide (ps = hexL) = false := decide_eq_false h3
        rw [d3]
        clear h3
        go_enter Tryd.func46, Tryd.ntmps46
        go_wp2_with fail
        refine (moore_one _).mono ?_
        rintro e w1 ⟨A1, c1, rfl, hp1, -, hb1⟩
        go_wp2_with fail
        refine (hsame_any _ _ _ _ _ _ _ (ha.ext hb1) hp1).mono ?_
        rintro e w2 ⟨rfl, hq⟩
        have hb2 := hb1.trans (hq.below _)
        go_wp2_with fail
        refine (neum_one _).mono ?_
        rintro e w3 ⟨A3, c3, rfl, hp3, -, hb3⟩
        have hb4 := hb2.trans (hb3.mono hb2.size)
        go_wp2_with fail
        refine (hsame_any _ _ _ _ _ _ _ (ha.ext hb4) hp3).mono ?_
        rintro e w4 ⟨rfl, hq4⟩
        have hb5 := hb4.trans (hq4.below _)
        go_wp2_with fail
        refine (hex_any _).mono ?_
        rintro e w5 ⟨A5, c5, rfl, hp5, -, hb5'⟩
        have hb6 := hb5.trans (hb5'.mono hb5.size)
        go_wp2_with fail
        refine (hsame_any _ _ _ _ _ _ _ (ha.ext hb6) hp5).mono ?_
        rintro e w6 ⟨rfl, hq6⟩
        go_wp2
        go_ret2
        exact ⟨rfl, hb6.trans (hq6.below _)⟩
set_option maxHeartbeats 800000 in
theorem known_any (A : Option Addr) (ps : List (Int × Int)) (c : Nat) (w : World) (ha : Pts w A ps) :
    Calls Tryd.prog 44 #[.slice A ps.length c] w fun e w' => e = .returned (.bool (knownB ps)) ∧ Below w.heap.size w w' := by
  by_cases h1 : ps = mooreL 1
  · have e2 : knownB ps = true := by unfold knownB; rw [decide_eq_true h1]; rfl
    rw [e2]
    have d1 : decide (ps = mooreL 1) = true := decide_eq_true h1
    clear e2 h1
    go_enter Tryd.func44, Tryd.ntmps44
    go_wp2_with fail
    refine (rmoore_one _).mono ?_
    rintro e w1 ⟨A1, c1, rfl, hp1, -, hb1⟩
    go_wp2_with fail
    refine (samePtsR _ _ _ _ _ _ _ (ha.ext hb1) hp1).mono ?_
    rintro e w2 ⟨rfl, hq⟩
    go_wp2
    go_ret
    exact ⟨rfl, hb1.trans (hq.below _)⟩
  · have d1 : decide (ps = mooreL 1) = false := decide_eq_false h1
    by_cases h2 : ps = neumL 1
    · have e2 : knownB ps = true := by unfold knownB; rw [d1, decide_eq_true h2]; rfl
      rw [e2]
      have d2 : decide (ps = neumL 1) = true := decide_eq_true h2
      clear e2 h1 h2
      go_enter Tryd.func44, Tryd.ntmps44
      go_wp2_with fail
      refine (rmoore_one _).mono ?_
      rintro e w1 ⟨A1, c1, rfl, hp1, -, hb1⟩
      go_wp2_with fail
      refine (samePtsR _ _ _ _ _ _ _ (ha.ext hb1) hp1).mono ?_
      rintro e w2 ⟨rfl, hq⟩
      have hb2 := hb1.trans (hq.below _)
      go_wp2_with fail
      refine (rneum_one _).mono ?_
      rintro e w3 ⟨A3, c3, rfl, hp3, -, hb3⟩
      have hb4 := hb2.trans (hb3.mono hb2.size)
      go_wp2_with fail
      refine (samePtsR _ _ _ _ _ _ _ (ha.ext hb4) hp3).mono ?_
      rintro e w4 ⟨rfl, hq4⟩
      go_wp2
      go_ret
      exact ⟨rfl, hb4.trans (hq4.below _)⟩
    · have d2 : decide (ps = neumL 1) = false := decide_eq_false h2
      have e2 : knownB ps = decide (ps = hexL) := by unfold knownB; rw [d1, d2]; rfl
      rw [e2]
      clear e2 h1 h2
      go_enter Tryd.func44, Tryd.ntmps44
      go_wp2_with fail
      refine (rmoore_one _).mono ?_
      rintro e w1 ⟨A1, c1, rfl, hp1, -, hb1⟩
      go_wp2_with fail
      refine (samePtsR _ _ _ _ _ _ _ (ha.ext hb1) hp1).mono ?_
      rintro e w2 ⟨rfl, hq⟩
      have hb2 := hb1.trans (hq.below _)
      go_wp2_with fail
      refine (rneum_one _).mono ?_
      rintro e w3 ⟨A3, c3, rfl, hp3, -, hb3⟩
      have hb4 := hb2.trans (hb3.mono hb2.size)
      go_wp2_with fail
      refine (samePtsR _ _ _ _ _ _ _ (ha.ext hb4) hp3).mono ?_
      rintro e w4 ⟨rfl, hq4⟩
      have hb5 := hb4.trans (hq4.below _)
      go_wp2_with fail
      refine (rhex_any _).mono ?_
      rintro e w5 ⟨A5, c5, rfl, hp5, -, hb5'⟩
      have hb6 := hb5.trans (hb5'.mono hb5.size)
      go_wp2_with fail
      refine (samePtsR _ _ _ _ _ _ _ (ha.ext hb6) hp5).mono ?_
      rintro e w6 ⟨rfl, hq6⟩
      go_wp2
      go_ret
      exact ⟨rfl, hb6.trans (hq6.below _)⟩
end Go.Proofs.YtaofninfjdepfaaDoor
