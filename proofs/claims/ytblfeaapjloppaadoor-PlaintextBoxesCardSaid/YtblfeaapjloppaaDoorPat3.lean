/-
  Patterns: the two Tops; cellularref05.Compare, Same. No condition.
-/
import Derived.Test.YtblfeaapjloppaaDoorPat2
namespace Go.Proofs.YtblfeaapjloppaaDoor
open Go.RowKit
set_option maxRecDepth 100000
set_option linter.unusedVariables false
set_option linter.unusedSimpArgs false

def topC (ps : List Cel) : Int := ps.foldl (fun n c => max n c.s) 0
theorem topC_snoc {ps : List Cel} {k : Nat} (h : k < ps.length) : topC (ps.take (k + 1)) = max (topC (ps.take k)) ps[k].s := by
  unfold topC
  rw [List.take_succ_eq_append_getElem h, List.foldl_append]
  rfl
set_option maxHeartbeats 800000 in
theorem top_any (A : Option Addr) (c : Nat) (ps : List Cel) (w : World) (ha : Cls w A ps) :
    Calls Tryd.prog 44 #[.slice A ps.length c] w fun e w' => e = .returned (.int .i64 (topC ps)) ∧ w' = w := by
  have hn := ha.le
  go_enter Tryd.func44, Tryd.ntmps44
  go_wp2
  go_loopw [3, 7] (fun n i wr => ∃ k : Nat, k ≤ ps.length ∧ i = .int .i64 k ∧ wr = w ∧ n = .int .i64 (topC (ps.take k))) (fun _ i _ => ps.length - (intOf i).toNat)
  case atStart => exact ⟨0, Nat.zero_le _, rfl, rfl, rfl⟩
  case round =>
    obtain ⟨k, hk, rfl, rfl, rfl⟩ := hrel
    by_cases hlt : k < ps.length
    · obtain ⟨b1, o1, rfl, -, hc0, hc1, hc2⟩ := ha.at_ hlt
      have HT := Lib.hid (topC_snoc hlt)
      obtain ⟨z, hz⟩ : ∃ z, z = topC (ps.take k) := ⟨_, rfl⟩
      have HZ := Lib.hid hz
      rw [← hz]
      clear hz
      go_wp2
      go_roundw
      case rel => exact ⟨k + 1, by omega, by go_num, (by first | rfl | trivial), by rw [HT.out, HZ.out]⟩
      case measure => simp [intOf]; omega
    · obtain rfl : k = ps.length := by omega
      rw [List.take_length]
      go_wp2
      go_ret
      exact ⟨rfl, rfl⟩
set_option maxHeartbeats 800000 in
theorem rtop_any (A : Option Addr) (c : Nat) (ps : List Cel) (w : World) (ha : Cls w A ps) :
    Calls Tryd.prog 28 #[.slice A ps.length c] w fun e w' => e = .returned (.int .i64 (topC ps)) ∧ w' = w := by
  have hn := ha.le
  go_enter Tryd.func28, Tryd.ntmps28
  go_wp2
  go_loopw [3, 4] (fun n i wr => ∃ k : Nat, k ≤ ps.length ∧ i = .int .i64 k ∧ wr = w ∧ n = .int .i64 (topC (ps.take k))) (fun _ i _ => ps.length - (intOf i).toNat)
  case atStart => exact ⟨0, Nat.zero_le _, rfl, rfl, rfl⟩
  case round =>
    obtain ⟨k, hk, rfl, rfl, rfl⟩ := hrel
    by_cases hlt : k < ps.length
    · obtain ⟨b1, o1, rfl, -, hc0, hc1, hc2⟩ := ha.at_ hlt
      have HT := Lib.hid (topC_snoc hlt)
      obtain ⟨z, hz⟩ : ∃ z, z = topC (ps.take k) := ⟨_, rfl⟩
      have HZ := Lib.hid hz
      rw [← hz]
      clear hz
      go_wp2
      go_roundw
      case rel => exact ⟨k + 1, by omega, by go_num, (by first | rfl | trivial), by rw [HT.out, HZ.out]⟩
      case measure => simp [intOf]; omega
    · obtain rfl : k = ps.length := by omega
      rw [List.take_length]
      go_wp2
      go_ret
      exact ⟨rfl, rfl⟩
def cmpL : List Cel → List Cel → Int
  | a :: ps, b :: qs => if a.y ≠ b.y then Lib.compareInt a.y b.y else if a.x ≠ b.x then Lib.compareInt a.x b.x else if a.s ≠ b.s then Lib.compareInt a.s b.s else cmpL ps qs
  | ps, qs => Lib.compareInt ps.length qs.length
theorem cmpInt_ne {a b : Int} (h : a ≠ b) : Lib.compareInt a b ≠ 0 := by
  unfold Lib.compareInt
  split
  · omega
  · split <;> omega
theorem cmpL_zero : ∀ ps qs : List Cel, cmpL ps qs = 0 ↔ ps = qs
  | [], [] => by simp [cmpL, Lib.compareInt]
  | [], b :: qs => by
    simp only [cmpL, List.length_nil, List.length_cons]
    exact ⟨fun h => absurd h (cmpInt_ne (by omega)), fun h => by cases h⟩
  | a :: ps, [] => by
    simp only [cmpL, List.length_nil, List.length_cons]
    exact ⟨fun h => absurd h (cmpInt_ne (by omega)), fun h => by cases h⟩
  | a :: ps, b :: qs => by
    rw [cmpL]
    by_cases h1 : a.y = b.y
    · rw [if_neg (by simpa using h1)]
      by_cases h2 : a.x = b.x
      · rw [if_neg (by simpa using h2)]
        by_cases h3 : a.s = b.s
        · rw [if_neg (by simpa using h3), cmpL_zero ps qs]
          have : a = b := by cases a; cases b; simp_all
          simp [this]
        · rw [if_pos h3]
          exact ⟨fun h => absurd h (cmpInt_ne h3), fun h => by injection h with h _; subst h; exact absurd rfl h3⟩
      · rw [if_pos h2]
        exact ⟨fun h => absurd h (cmpInt_ne h2), fun h => by injection h with h _; subst h; exact absurd rfl h2⟩
    · rw [if_pos h1]
      exact ⟨fun h => absurd h (cmpInt_ne h1), fun h => by injection h with h _; subst h; exact absurd rfl h1⟩
def sameC (ps qs : List Cel) : Bool := decide (ps = qs)
theorem cmpL_step {ps qs : List Cel} {k : Nat} (ha : k < ps.length) (hb : k < qs.length) : cmpL (ps.drop k) (qs.drop k) =
    if ps[k].y ≠ qs[k].y then Lib.compareInt ps[k].y qs[k].y else if ps[k].x ≠ qs[k].x then Lib.compareInt ps[k].x qs[k].x else if ps[k].s ≠ qs[k].s then Lib.compareInt ps[k].s qs[k].s else cmpL (ps.drop (k + 1)) (qs.drop (k + 1)) := by
  rw [List.drop_eq_getElem_cons ha, List.drop_eq_getElem_cons hb, cmpL]
theorem cmpL_end {ps qs : List Cel} {k : Nat} (h1 : k ≤ ps.length) (h2 : k ≤ qs.length) (h : ps.length ≤ k ∨ qs.length ≤ k) : cmpL (ps.drop k) (qs.drop k) = Lib.compareInt ps.length qs.length := by
  have key : ∀ m n : Nat, Lib.compareInt ((m - k : Nat) : Int) ((n - k : Nat) : Int) = Lib.compareInt m n ∨ ¬ (k ≤ m ∧ k ≤ n) := by
    intro m n
    by_cases hk : k ≤ m ∧ k ≤ n
    · left
      unfold Lib.compareInt
      split <;> split <;> (try split) <;> (try split) <;> omega
    · exact .inr hk
  have hcase : cmpL (ps.drop k) (qs.drop k) = Lib.compareInt ((ps.drop k).length : Int) ((qs.drop k).length : Int) := by
    rcases h with h | h
    · rw [List.drop_of_length_le h]; cases qs.drop k <;> rfl
    · rw [List.drop_of_length_le h]; cases ps.drop k <;> rfl
  rw [hcase, List.length_drop, List.length_drop]
  rcases key ps.length qs.length with h3 | h3
  · exact h3
  · exact absurd ⟨h1, h2⟩ h3
set_option maxHeartbeats 4000000 in
theorem rcompare_any (A B : Option Addr) (c d : Nat) (ps qs : List Cel) (w : World) (ha : Cls w A ps) (hb : Cls w B qs) :
    Calls Tryd.prog 24 #[.slice A ps.length c, .slice B qs.length d] w fun e w' => e = .returned (.int .i64 (cmpL ps qs)) ∧ Below w.heap.size w w' := by
  have hn := ha.le
  have hm := hb.le
  go_enter Tryd.func24, Tryd.ntmps24
  go_wp2
  go_loopw [5] (fun i wr => ∃ k : Nat, k ≤ ps.length ∧ k ≤ qs.length ∧ i = .int .i64 k ∧ Hid (Qt w wr) ∧ Hid (cmpL ps qs = cmpL (ps.drop k) (qs.drop k))) (fun i _ => ps.length - (intOf i).toNat)
  case atStart => exact ⟨0, Nat.zero_le _, Nat.zero_le _, rfl, Lib.hid (Qt.refl _), Lib.hid rfl⟩
  case round =>
    obtain ⟨k, hk, hk2, rfl, HQ, HT⟩ := hrel
    by_cases hlt : k < ps.length ∧ k < qs.length
    · obtain ⟨b1, o1, rfl, -, hc0, hc1, hc2⟩ := (ha.ext (HQ.out.below _)).at_ hlt.1
      obtain ⟨b2, o2, rfl, -, hd0, hd1, hd2⟩ := (hb.ext (HQ.out.below _)).at_ hlt.2
      have i1 : (k : Int) < (ps.length : Int) := by omega
      have i2 : (k : Int) < (qs.length : Int) := by omega
      have j1 : decide ((k : Int) < (ps.length : Int)) = true := decide_eq_true i1
      have j2 : decide ((k : Int) < (qs.length : Int)) = true := decide_eq_true i2
      have HS := Lib.hid (cmpL_step hlt.1 hlt.2)
      obtain ⟨x, hx⟩ : ∃ x, x = ps[k]'hlt.1 := ⟨_, rfl⟩
      obtain ⟨y, hy⟩ : ∃ y, y = qs[k]'hlt.2 := ⟨_, rfl⟩
      rw [← hx] at hc0 hc1 hc2 HS
      rw [← hy] at hd0 hd1 hd2 HS
      clear hx hy
      have HK := Lib.hid hlt
      clear hlt
      by_cases h1 : x.y = y.y
      · have e1 : (x.y != y.y) = false := by simp [h1]
        by_cases h2 : x.x = y.x
        · have e2 : (x.x != y.x) = false := by simp [h2]
          by_cases h3 : x.s = y.s
          · have e3 : (x.s != y.s) = false := by simp [h3]
            have HF : Hid (cmpL ps qs = cmpL (ps.drop (k + 1)) (qs.drop (k + 1))) := Lib.hid (by rw [HT.out, HS.out, if_neg (by simpa using h1), if_neg (by simpa using h2), if_neg (by simpa using h3)])
            clear h1 h2 h3
            go_upto_region 4 with fail
            go_quiet (fail)
            have q1 := HQ.out.step nq
            have hc0 : (wr.drewN nq).cell? ⟨b1, o1 + k * 3, none⟩ = some (.int .i64 x.x) := hc0
            have hc1 : (wr.drewN nq).cell? ⟨b1, o1 + k * 3 + 1, none⟩ = some (.int .i64 x.y) := hc1
            have hc2 : (wr.drewN nq).cell? ⟨b1, o1 + k * 3 + 2, none⟩ = some (.int .i64 x.s) := hc2
            have hd0 : (wr.drewN nq).cell? ⟨b2, o2 + k * 3, none⟩ = some (.int .i64 y.x) := hd0
            have hd1 : (wr.drewN nq).cell? ⟨b2, o2 + k * 3 + 1, none⟩ = some (.int .i64 y.y) := hd1
            have hd2 : (wr.drewN nq).cell? ⟨b2, o2 + k * 3 + 2, none⟩ = some (.int .i64 y.s) := hd2
            generalize wr.drewN nq = wr2 at *
            have HQ2 := Lib.hid q1
            clear q1
            go_upto_region 6 with fail
            go_quiet (fail)
            have q1 := HQ2.out.step nq
            have hc0 : (wr2.drewN nq).cell? ⟨b1, o1 + k * 3, none⟩ = some (.int .i64 x.x) := hc0
            have hc1 : (wr2.drewN nq).cell? ⟨b1, o1 + k * 3 + 1, none⟩ = some (.int .i64 x.y) := hc1
            have hc2 : (wr2.drewN nq).cell? ⟨b1, o1 + k * 3 + 2, none⟩ = some (.int .i64 x.s) := hc2
            have hd0 : (wr2.drewN nq).cell? ⟨b2, o2 + k * 3, none⟩ = some (.int .i64 y.x) := hd0
            have hd1 : (wr2.drewN nq).cell? ⟨b2, o2 + k * 3 + 1, none⟩ = some (.int .i64 y.y) := hd1
            have hd2 : (wr2.drewN nq).cell? ⟨b2, o2 + k * 3 + 2, none⟩ = some (.int .i64 y.s) := hd2
            generalize wr2.drewN nq = wr3 at *
            have HQ3 := Lib.hid q1
            clear q1
            go_upto_region 8 with fail
            go_quiet (fail)
            have q1 := HQ3.out.step nq
            have hc0 : (wr3.drewN nq).cell? ⟨b1, o1 + k * 3, none⟩ = some (.int .i64 x.x) := hc0
            have hc1 : (wr3.drewN nq).cell? ⟨b1, o1 + k * 3 + 1, none⟩ = some (.int .i64 x.y) := hc1
            have hc2 : (wr3.drewN nq).cell? ⟨b1, o1 + k * 3 + 2, none⟩ = some (.int .i64 x.s) := hc2
            have hd0 : (wr3.drewN nq).cell? ⟨b2, o2 + k * 3, none⟩ = some (.int .i64 y.x) := hd0
            have hd1 : (wr3.drewN nq).cell? ⟨b2, o2 + k * 3 + 1, none⟩ = some (.int .i64 y.y) := hd1
            have hd2 : (wr3.drewN nq).cell? ⟨b2, o2 + k * 3 + 2, none⟩ = some (.int .i64 y.s) := hd2
            generalize wr3.drewN nq = wr4 at *
            have HQ4 := Lib.hid q1
            clear q1
            go_wp2
            go_roundw
            case rel => exact ⟨k + 1, by have := HK.out; omega, by have := HK.out; omega, by go_num, HQ4, HF⟩
            case measure => simp [intOf]; have := HK.out; omega
          · have e3 : (x.s != y.s) = true := by simp [h3]
            have HF : Hid (cmpL ps qs = Lib.compareInt x.s y.s) := Lib.hid (by rw [HT.out, HS.out, if_neg (by simpa using h1), if_neg (by simpa using h2), if_pos h3])
            clear h1 h2 h3
            go_upto_region 4 with fail
            go_quiet (fail)
            have q1 := HQ.out.step nq
            have hc0 : (wr.drewN nq).cell? ⟨b1, o1 + k * 3, none⟩ = some (.int .i64 x.x) := hc0
            have hc1 : (wr.drewN nq).cell? ⟨b1, o1 + k * 3 + 1, none⟩ = some (.int .i64 x.y) := hc1
            have hc2 : (wr.drewN nq).cell? ⟨b1, o1 + k * 3 + 2, none⟩ = some (.int .i64 x.s) := hc2
            have hd0 : (wr.drewN nq).cell? ⟨b2, o2 + k * 3, none⟩ = some (.int .i64 y.x) := hd0
            have hd1 : (wr.drewN nq).cell? ⟨b2, o2 + k * 3 + 1, none⟩ = some (.int .i64 y.y) := hd1
            have hd2 : (wr.drewN nq).cell? ⟨b2, o2 + k * 3 + 2, none⟩ = some (.int .i64 y.s) := hd2
            generalize wr.drewN nq = wr2 at *
            have HQ2 := Lib.hid q1
            clear q1
            go_upto_region 6 with fail
            go_quiet (fail)
            have q1 := HQ2.out.step nq
            have hc0 : (wr2.drewN nq).cell? ⟨b1, o1 + k * 3, none⟩ = some (.int .i64 x.x) := hc0
            have hc1 : (wr2.drewN nq).cell? ⟨b1, o1 + k * 3 + 1, none⟩ = some (.int .i64 x.y) := hc1
            have hc2 : (wr2.drewN nq).cell? ⟨b1, o1 + k * 3 + 2, none⟩ = some (.int .i64 x.s) := hc2
            have hd0 : (wr2.drewN nq).cell? ⟨b2, o2 + k * 3, none⟩ = some (.int .i64 y.x) := hd0
            have hd1 : (wr2.drewN nq).cell? ⟨b2, o2 + k * 3 + 1, none⟩ = some (.int .i64 y.y) := hd1
            have hd2 : (wr2.drewN nq).cell? ⟨b2, o2 + k * 3 + 2, none⟩ = some (.int .i64 y.s) := hd2
            generalize wr2.drewN nq = wr3 at *
            have HQ3 := Lib.hid q1
            clear q1
            go_upto_region 8 with fail
            go_quiet (fail)
            have q1 := HQ3.out.step nq
            have hc0 : (wr3.drewN nq).cell? ⟨b1, o1 + k * 3, none⟩ = some (.int .i64 x.x) := hc0
            have hc1 : (wr3.drewN nq).cell? ⟨b1, o1 + k * 3 + 1, none⟩ = some (.int .i64 x.y) := hc1
            have hc2 : (wr3.drewN nq).cell? ⟨b1, o1 + k * 3 + 2, none⟩ = some (.int .i64 x.s) := hc2
            have hd0 : (wr3.drewN nq).cell? ⟨b2, o2 + k * 3, none⟩ = some (.int .i64 y.x) := hd0
            have hd1 : (wr3.drewN nq).cell? ⟨b2, o2 + k * 3 + 1, none⟩ = some (.int .i64 y.y) := hd1
            have hd2 : (wr3.drewN nq).cell? ⟨b2, o2 + k * 3 + 2, none⟩ = some (.int .i64 y.s) := hd2
            generalize wr3.drewN nq = wr4 at *
            have HQ4 := Lib.hid q1
            clear q1
            have R1 := cell_regrown hc2
            have R2 := cell_regrown hd2
            have CO := Lib.hid (fun d os => Calls.regrown_of (w := wr4) (d := d) (os := os) ((order_any x.s y.s _).mono fun e w' h => ⟨h.1, by rw [h.2]; exact Below.refl _ _⟩))
            go_upto_region 9 with fail
            refine wp_region_quiet_below (by kernel_rfl) (by kernel_rfl) ?_
            repeat (go_big_quiet_step (first | with_reducible exact CO.out _ _))
            refine wpQuiet_nil ?_
            intro _ hw'
            obtain ⟨⟨dq, osq⟩, hw''⟩ := hw'
            subst hw''
            have q1 := Lib.hid ((HQ4.out.below w.heap.size).trans ((below_regrown wr4 dq osq).mono (HQ4.out.below w.heap.size).size))
            go_wp2
            go_ret
            exact ⟨ret_int (by rw [HF.out]), q1.out⟩
        · have e2 : (x.x != y.x) = true := by simp [h2]
          have HF : Hid (cmpL ps qs = Lib.compareInt x.x y.x) := Lib.hid (by rw [HT.out, HS.out, if_neg (by simpa using h1), if_pos h2])
          clear h1 h2
          go_upto_region 4 with fail
          go_quiet (fail)
          have q1 := HQ.out.step nq
          have hc0 : (wr.drewN nq).cell? ⟨b1, o1 + k * 3, none⟩ = some (.int .i64 x.x) := hc0
          have hc1 : (wr.drewN nq).cell? ⟨b1, o1 + k * 3 + 1, none⟩ = some (.int .i64 x.y) := hc1
          have hc2 : (wr.drewN nq).cell? ⟨b1, o1 + k * 3 + 2, none⟩ = some (.int .i64 x.s) := hc2
          have hd0 : (wr.drewN nq).cell? ⟨b2, o2 + k * 3, none⟩ = some (.int .i64 y.x) := hd0
          have hd1 : (wr.drewN nq).cell? ⟨b2, o2 + k * 3 + 1, none⟩ = some (.int .i64 y.y) := hd1
          have hd2 : (wr.drewN nq).cell? ⟨b2, o2 + k * 3 + 2, none⟩ = some (.int .i64 y.s) := hd2
          generalize wr.drewN nq = wr2 at *
          have HQ2 := Lib.hid q1
          clear q1
          go_upto_region 6 with fail
          go_quiet (fail)
          have q1 := HQ2.out.step nq
          have hc0 : (wr2.drewN nq).cell? ⟨b1, o1 + k * 3, none⟩ = some (.int .i64 x.x) := hc0
          have hc1 : (wr2.drewN nq).cell? ⟨b1, o1 + k * 3 + 1, none⟩ = some (.int .i64 x.y) := hc1
          have hc2 : (wr2.drewN nq).cell? ⟨b1, o1 + k * 3 + 2, none⟩ = some (.int .i64 x.s) := hc2
          have hd0 : (wr2.drewN nq).cell? ⟨b2, o2 + k * 3, none⟩ = some (.int .i64 y.x) := hd0
          have hd1 : (wr2.drewN nq).cell? ⟨b2, o2 + k * 3 + 1, none⟩ = some (.int .i64 y.y) := hd1
          have hd2 : (wr2.drewN nq).cell? ⟨b2, o2 + k * 3 + 2, none⟩ = some (.int .i64 y.s) := hd2
          generalize wr2.drewN nq = wr3 at *
          have HQ3 := Lib.hid q1
          clear q1
          have R1 := cell_regrown hc0
          have R2 := cell_regrown hd0
          have CO := Lib.hid (fun d os => Calls.regrown_of (w := wr3) (d := d) (os := os) ((order_any x.x y.x _).mono fun e w' h => ⟨h.1, by rw [h.2]; exact Below.refl _ _⟩))
          go_upto_region 7 with fail
          refine wp_region_quiet_below (by kernel_rfl) (by kernel_rfl) ?_
          repeat (go_big_quiet_step (first | with_reducible exact CO.out _ _))
          refine wpQuiet_nil ?_
          intro _ hw'
          obtain ⟨⟨dq, osq⟩, hw''⟩ := hw'
          subst hw''
          have q1 := Lib.hid ((HQ3.out.below w.heap.size).trans ((below_regrown wr3 dq osq).mono (HQ3.out.below w.heap.size).size))
          go_wp2
          go_ret
          exact ⟨ret_int (by rw [HF.out]), q1.out⟩
      · have e1 : (x.y != y.y) = true := by simp [h1]
        have HF : Hid (cmpL ps qs = Lib.compareInt x.y y.y) := Lib.hid (by rw [HT.out, HS.out, if_pos h1])
        clear h1
        go_upto_region 4 with fail
        go_quiet (fail)
        have q1 := HQ.out.step nq
        have hc0 : (wr.drewN nq).cell? ⟨b1, o1 + k * 3, none⟩ = some (.int .i64 x.x) := hc0
        have hc1 : (wr.drewN nq).cell? ⟨b1, o1 + k * 3 + 1, none⟩ = some (.int .i64 x.y) := hc1
        have hc2 : (wr.drewN nq).cell? ⟨b1, o1 + k * 3 + 2, none⟩ = some (.int .i64 x.s) := hc2
        have hd0 : (wr.drewN nq).cell? ⟨b2, o2 + k * 3, none⟩ = some (.int .i64 y.x) := hd0
        have hd1 : (wr.drewN nq).cell? ⟨b2, o2 + k * 3 + 1, none⟩ = some (.int .i64 y.y) := hd1
        have hd2 : (wr.drewN nq).cell? ⟨b2, o2 + k * 3 + 2, none⟩ = some (.int .i64 y.s) := hd2
        generalize wr.drewN nq = wr2 at *
        have HQ2 := Lib.hid q1
        clear q1
        have R1 := cell_regrown hc1
        have R2 := cell_regrown hd1
        have CO := Lib.hid (fun d os => Calls.regrown_of (w := wr2) (d := d) (os := os) ((order_any x.y y.y _).mono fun e w' h => ⟨h.1, by rw [h.2]; exact Below.refl _ _⟩))
        go_upto_region 5 with fail
        refine wp_region_quiet_below (by kernel_rfl) (by kernel_rfl) ?_
        repeat (go_big_quiet_step (first | with_reducible exact CO.out _ _))
        refine wpQuiet_nil ?_
        intro _ hw'
        obtain ⟨⟨dq, osq⟩, hw''⟩ := hw'
        subst hw''
        have q1 := Lib.hid ((HQ2.out.below w.heap.size).trans ((below_regrown wr2 dq osq).mono (HQ2.out.below w.heap.size).size))
        go_wp2
        go_ret
        exact ⟨ret_int (by rw [HF.out]), q1.out⟩
    · have HE : Hid (cmpL ps qs = Lib.compareInt ps.length qs.length) := Lib.hid (by rw [HT.out]; exact cmpL_end hk hk2 (by omega))
      by_cases hA : k < ps.length
      · have hB : ¬ k < qs.length := fun h => hlt ⟨hA, h⟩
        clear hlt
        go_wp2_with fail
        refine (order_any _ _ _).mono ?_
        rintro e w' ⟨rfl, hw'⟩
        have hw2 := hw'.symm
        clear hw'
        subst hw2
        go_wp2
        go_ret
        exact ⟨ret_int (by rw [HE.out]), HQ.out.below _⟩
      · clear hlt
        go_wp2_with fail
        refine (order_any _ _ _).mono ?_
        rintro e w' ⟨rfl, hw'⟩
        have hw2 := hw'.symm
        clear hw'
        subst hw2
        go_wp2
        go_ret
        exact ⟨ret_int (by rw [HE.out]), HQ.out.below _⟩
set_option maxHeartbeats 800000 in
theorem rsame_any (A B : Option Addr) (c d : Nat) (ps qs : List Cel) (w : World) (ha : Cls w A ps) (hb : Cls w B qs) :
    Calls Tryd.prog 11 #[.slice A ps.length c, .slice B qs.length d] w fun e w' => e = .returned (.bool (sameC ps qs)) ∧ Below w.heap.size w w' := by
  have HC := Lib.hid (rcompare_any A B c d ps qs w ha hb)
  have HZ : Hid ((cmpL ps qs == 0) = sameC ps qs) := Lib.hid (by
    unfold sameC
    rw [Bool.eq_iff_iff, beq_iff_eq, decide_eq_true_eq]
    exact cmpL_zero ps qs)
  go_enter Tryd.func11, Tryd.ntmps11
  go_wp2_with fail
  refine HC.out.mono ?_
  rintro e w' ⟨rfl, hq⟩
  have HQ := Lib.hid hq
  clear hq
  go_wp2
  go_ret
  exact ⟨ret_bool HZ.out, HQ.out⟩
end Go.Proofs.YtblfeaapjloppaaDoor
