/-
  Where an element lies in a list: slices.Index, slices.Contains, cellularref07.Index, hood.Centre. No condition but the reach.
  The steps of a rule by counts: Totals' two closures. No condition but that the boxes are there.
-/
import Derived.Test.YtmlhkbgifnifdaaGreatDoorZG18
import Derived.Test.YtmlhkbgifnifdaaGreatDoorZG7
import Derived.Test.YtmlhkbgifnifdaaGreatDoorZBldT
namespace Go.Proofs.YtmlhkbgifnifdaaGreatDoor
set_option linter.unusedSimpArgs false
open Go.RowKit
set_option maxRecDepth 100000
set_option linter.unusedVariables false

/-- the first place of an element from a place on, or -1 -/
def idxF {α : Type} [DecidableEq α] (p : α) : Nat → List α → Int
  | _, [] => -1
  | k, x :: l => if x = p then (k : Int) else idxF p (k + 1) l
theorem idxF_step {α : Type} [DecidableEq α] {p : α} {xs : List α} {k : Nat} (h : k < xs.length) : idxF p k (xs.drop k) = if xs[k] = p then (k : Int) else idxF p (k + 1) (xs.drop (k + 1)) := by
  rw [List.drop_eq_getElem_cons h]; rfl
theorem idxF_mem {α : Type} [DecidableEq α] {p : α} : ∀ (xs : List α) (k : Nat), (0 ≤ idxF p k xs ↔ p ∈ xs)
  | [], k => by simp [idxF]
  | x :: l, k => by
    unfold idxF
    by_cases h : x = p
    · rw [if_pos h]; simp [h]
    · rw [if_neg h, idxF_mem l (k + 1)]
      simp [Ne.symm h]
set_option maxHeartbeats 800000 in
theorem iidx_any (A : Option Addr) (xs : List Int) (c : Nat) (n : Int) (w : World) (ha : Ints w A xs) :
    Calls Tryz.prog 68 #[.slice A xs.length c, .int .i64 n] w fun e w' => e = .returned (.int .i64 (idxF n 0 xs)) ∧ w' = w := by
  have hn := ha.le
  go_enter Tryz.func68, Tryz.ntmps68
  go_wp2
  go_loop [8] (fun i => ∃ k : Nat, k ≤ xs.length ∧ i = .int .i64 k ∧ Hid (idxF n 0 xs = idxF n k (xs.drop k))) (fun i => xs.length - (intOf i).toNat)
  case atStart => exact ⟨0, Nat.zero_le _, rfl, Lib.hid rfl⟩
  case round =>
    obtain ⟨k, hk, rfl, HT⟩ := hrel
    by_cases hlt : k < xs.length
    · obtain ⟨b1, o1, rfl, -, hc⟩ := ha.at_ hlt
      have hd := idxF_step (p := n) hlt
      by_cases h1 : xs[k] = n
      · have HN := Lib.hid (HT.out.trans (hd.trans (if_pos h1)))
        have d1 : (n == xs[k]) = true := by simp [h1]
        clear hd h1 HT
        go_wp2
        go_ret
        exact ⟨ret_int HN.out.symm, rfl⟩
      · have HN := Lib.hid (HT.out.trans (hd.trans (if_neg h1)))
        have d1 : (n == xs[k]) = false := by simp [Ne.symm h1]
        clear hd h1 HT
        go_wp2
        go_round
        case rel => exact ⟨k + 1, by omega, by go_num, HN⟩
        case measure => simp [intOf]; omega
    · obtain rfl : k = xs.length := by omega
      have hno : idxF n 0 xs = -1 := by rw [HT.out, List.drop_length]; rfl
      have HN := Lib.hid hno
      clear hno HT
      go_wp2
      go_ret
      exact ⟨ret_int HN.out.symm, rfl⟩
set_option maxHeartbeats 800000 in
theorem contains_any (A : Option Addr) (xs : List Int) (c : Nat) (n : Int) (w : World) (ha : Ints w A xs) :
    Calls Tryz.prog 37 #[.slice A xs.length c, .int .i64 n] w fun e w' => e = .returned (.bool (decide (n ∈ xs))) ∧ w' = w := by
  have HI := Lib.hid (iidx_any A xs c n w ha)
  have HM := Lib.hid (idxF_mem (p := n) xs 0)
  obtain ⟨r, hr⟩ : ∃ r, r = idxF n 0 xs := ⟨_, rfl⟩
  rw [← hr] at HI HM
  clear hr ha
  go_enter Tryz.func37, Tryz.ntmps37
  go_wp2_with fail
  refine HI.out.mono ?_
  rintro e w' ⟨rfl, rfl⟩
  go_wp2
  go_ret
  exact ⟨ret_bool (decide_eq_decide.2 HM.out), rfl⟩
set_option maxHeartbeats 800000 in
theorem pidx_any (A : Option Addr) (xs : List (Int × Int)) (c : Nat) (a b : Int) (w : World) (ha : Pts w A xs) :
    Calls Tryz.prog 67 #[.slice A xs.length c, .agg #[.int .i64 a, .int .i64 b]] w fun e w' => e = .returned (.int .i64 (idxF (a, b) 0 xs)) ∧ Below w.heap.size w w' := by
  have hn := ha.le
  obtain ⟨w0, hw0⟩ : ∃ w0, w0 = w.alloc (.cells #[.int .i64 a, .int .i64 b] 51) := ⟨_, rfl⟩
  have hb0 : Below w.heap.size w w0 := by rw [hw0]; exact below_new _ _
  have q0 : Blk w0 w.heap.size 51 #[.int .i64 a, .int .i64 b] := by rw [hw0]; exact Blk.new _ _ _
  have d0 := q0.cell_ 0 (.int .i64 a) rfl
  have d1 := q0.cell_ 1 (.int .i64 b) rfl
  have hP := ha.ext hb0
  have HB0 := Lib.hid hb0
  have HW0 := Lib.hid hw0
  clear hb0 q0 hw0 ha
  go_enter Tryz.func67, Tryz.ntmps67
  go_upto_region 1 with fail
  rw [← HW0.out]
  go_wp2
  go_loopw [8] (fun i wr => ∃ k q : Nat, k ≤ xs.length ∧ i = .int .i64 k ∧ wr = w0.drewN q ∧ Hid (idxF (a, b) 0 xs = idxF (a, b) k (xs.drop k))) (fun i _ => xs.length - (intOf i).toNat)
  case atStart => exact ⟨0, 0, Nat.zero_le _, rfl, rfl, Lib.hid rfl⟩
  case round =>
    obtain ⟨k, q, hk, rfl, rfl, HT⟩ := hrel
    by_cases hlt : k < xs.length
    · obtain ⟨b1, o1, rfl, -, hc, hc'⟩ := hP.at_ hlt
      have HD := Lib.hid (HT.out.trans (idxF_step (p := (a, b)) hlt))
      clear HT
      have hst := Tryz.stood_pt
      have heg := Tryz.guard_pt
      have hnq := eql_pt
      go_wp2
      go_quiet (fail)
      cases hpe : ptEq a b xs[k].1 xs[k].2 with
      | true =>
        have he : xs[k] = (a, b) := by
          unfold ptEq at hpe
          simp at hpe
          exact Prod.ext hpe.1.symm hpe.2.symm
        have HN := Lib.hid (HD.out.trans (if_pos he))
        clear HD he
        go_wp2
        go_ret
        exact ⟨ret_int HN.out.symm, HB0.out.trans ((below_drewN (below_drewN (Below.refl _ _) _) _).mono HB0.out.size)⟩
      | false =>
        have he : ¬ xs[k] = (a, b) := by
          unfold ptEq at hpe
          intro e
          rw [e] at hpe
          simp at hpe
        have HN := Lib.hid (HD.out.trans (if_neg he))
        clear HD he
        go_wp2
        go_roundw
        case rel => exact ⟨k + 1, _, by omega, by go_num, rfl, HN⟩
        case measure => simp [intOf]; omega
    · obtain rfl : k = xs.length := by omega
      have hno : idxF (a, b) 0 xs = -1 := by rw [HT.out, List.drop_length]; rfl
      have HN := Lib.hid hno
      clear hno HT
      go_wp2
      go_ret
      exact ⟨ret_int HN.out.symm, HB0.out.trans ((below_drewN (Below.refl _ _) _).mono HB0.out.size)⟩
set_option maxHeartbeats 800000 in
theorem ridx_any (A : Option Addr) (xs : List (Int × Int)) (c : Nat) (a b : Int) (w : World) (ha : Pts w A xs) :
    Calls Tryz.prog 41 #[.slice A xs.length c, .agg #[.int .i64 a, .int .i64 b]] w fun e w' => e = .returned (.int .i64 (idxF (a, b) 0 xs)) ∧ Below w.heap.size w w' := by
  have hn := ha.le
  obtain ⟨w0, hw0⟩ : ∃ w0, w0 = w.alloc (.cells #[.int .i64 a, .int .i64 b] 51) := ⟨_, rfl⟩
  have hb0 : Below w.heap.size w w0 := by rw [hw0]; exact below_new _ _
  have q0 : Blk w0 w.heap.size 51 #[.int .i64 a, .int .i64 b] := by rw [hw0]; exact Blk.new _ _ _
  have d0 := q0.cell_ 0 (.int .i64 a) rfl
  have d1 := q0.cell_ 1 (.int .i64 b) rfl
  have hP := ha.ext hb0
  have HB0 := Lib.hid hb0
  have HW0 := Lib.hid hw0
  clear hb0 q0 hw0 ha
  go_enter Tryz.func41, Tryz.ntmps41
  go_upto_region 1 with fail
  rw [← HW0.out]
  go_wp2
  go_loopw [5] (fun i wr => ∃ k q : Nat, k ≤ xs.length ∧ i = .int .i64 k ∧ wr = w0.drewN q ∧ Hid (idxF (a, b) 0 xs = idxF (a, b) k (xs.drop k))) (fun i _ => xs.length - (intOf i).toNat)
  case atStart => exact ⟨0, 0, Nat.zero_le _, rfl, rfl, Lib.hid rfl⟩
  case round =>
    obtain ⟨k, q, hk, rfl, rfl, HT⟩ := hrel
    by_cases hlt : k < xs.length
    · obtain ⟨b1, o1, rfl, -, hc, hc'⟩ := hP.at_ hlt
      have HD := Lib.hid (HT.out.trans (idxF_step (p := (a, b)) hlt))
      clear HT
      have hst := Tryz.stood_pt
      have heg := Tryz.guard_pt
      have hnq := eql_pt
      go_wp2
      go_quiet (fail)
      cases hpe : ptEq xs[k].1 xs[k].2 a b with
      | true =>
        have he : xs[k] = (a, b) := by
          unfold ptEq at hpe
          simp at hpe
          exact Prod.ext hpe.1 hpe.2
        have HN := Lib.hid (HD.out.trans (if_pos he))
        clear HD he
        go_wp2
        go_ret
        exact ⟨ret_int HN.out.symm, HB0.out.trans ((below_drewN (below_drewN (Below.refl _ _) _) _).mono HB0.out.size)⟩
      | false =>
        have he : ¬ xs[k] = (a, b) := by
          unfold ptEq at hpe
          intro e
          rw [e] at hpe
          simp at hpe
        have HN := Lib.hid (HD.out.trans (if_neg he))
        clear HD he
        go_wp2
        go_roundw
        case rel => exact ⟨k + 1, _, by omega, by go_num, rfl, HN⟩
        case measure => simp [intOf]; omega
    · obtain rfl : k = xs.length := by omega
      have hno : idxF (a, b) 0 xs = -1 := by rw [HT.out, List.drop_length]; rfl
      have HN := Lib.hid hno
      clear hno HT
      go_wp2
      go_ret
      exact ⟨ret_int HN.out.symm, HB0.out.trans ((below_drewN (Below.refl _ _) _).mono HB0.out.size)⟩
/-- the place of the centre -/
def ctrP (ps : List (Int × Int)) : Int := if hoodB ps = true then idxF (0, 0) 0 ps else -1
set_option maxHeartbeats 800000 in
theorem centre_any (A : Option Addr) (ps : List (Int × Int)) (c : Nat) (w : World) (ha : Pts w A ps) :
    Calls Tryz.prog 34 #[.slice A ps.length c] w fun e w' => e = .returned (.int .i64 (ctrP ps)) ∧ Below w.heap.size w w' := by
  have HH := Lib.hid (hood_any A c ps w ha)
  have HX := Lib.hid (fun W (hb : Below w.heap.size w W) => pidx_any A ps c 0 0 W (ha.ext hb))
  have hn := ha.le
  cases hB : hoodB ps with
  | false =>
    have HE : Hid (ctrP ps = -1) := Lib.hid (by unfold ctrP; rw [hB]; rfl)
    go_enter Tryz.func34, Tryz.ntmps34
    go_wp2_with fail
    refine HH.out.mono ?_
    rintro e w1 ⟨rfl, hb1⟩
    rw [hB]
    go_wp2
    go_ret
    exact ⟨ret_int HE.out.symm, hb1⟩
  | true =>
    have HE : Hid (ctrP ps = idxF (0, 0) 0 ps) := Lib.hid (by unfold ctrP; rw [hB]; rfl)
    go_enter Tryz.func34, Tryz.ntmps34
    go_wp2_with fail
    refine HH.out.mono ?_
    rintro e w1 ⟨rfl, hb1⟩
    rw [hB]
    go_wp2_with fail
    refine (HX.out w1 hb1).mono ?_
    rintro e w2 ⟨rfl, hb2⟩
    go_wp2
    go_ret
    exact ⟨ret_int HE.out.symm, hb1.trans (hb2.mono hb1.size)⟩
end Go.Proofs.YtmlhkbgifnifdaaGreatDoor
namespace Go.Proofs.YtmlhkbgifnifdaaGreatDoor
open Go.RowKit
set_option maxRecDepth 100000
set_option linter.unusedVariables false
set_option linter.unusedSimpArgs false

theorem Tryz.sizeSum : (Tryz.prog.info? 59).map (·.size) = some 2 := by kernel_rfl
def stepT (c : Int) (s : Int × Int) (a t : Nat) : Int × Int := if (a : Int) = c then (s.1, (t : Int)) else if t = 1 then (s.1 + 1, s.2) else s
def nextT (x : TotL) (s : Int × Int) : Int := if s.2 = 0 then (if s.1 ∈ x.birth then 1 else 0) else if s.2 = 1 ∧ s.1 ∈ x.survive then 1 else (s.2 + 1).tmod x.states
def sysT (x : TotL) : Sys (Int × Int) := ⟨x.hood.length, x.states.toNat, stepT (ctrP x.hood), nextT x⟩
def rngT (x : TotL) (a : Nat) (s : Int × Int) : Prop := 0 ≤ s.1 ∧ s.1 ≤ a ∧ a ≤ x.hood.length ∧ 0 ≤ s.2 ∧ s.2 < x.states
theorem rngT_step (x : TotL) (hq : 2 ≤ x.states) : ∀ a s t, rngT x a s → a < (sysT x).L → t < (sysT x).q → rngT x (a + 1) ((sysT x).step s a t) := fun a s t h ha ht => by
  obtain ⟨h1, h2, h3, h4, h5⟩ := h
  change a < x.hood.length at ha
  change t < x.states.toNat at ht
  show rngT x (a + 1) (stepT (ctrP x.hood) s a t)
  unfold stepT rngT
  split
  · dsimp only; omega
  · split
    · dsimp only; omega
    · omega
theorem rngT_fin (x : TotL) (hq : 2 ≤ x.states) : ∀ s, rngT x (sysT x).L s → 0 ≤ (sysT x).fin s ∧ (sysT x).fin s < ((sysT x).q : Int) := fun s h => by
  obtain ⟨h1, h2, h3, h4, h5⟩ := h
  have e1 : (((sysT x).q : Nat) : Int) = x.states := by show ((x.states.toNat : Nat) : Int) = _; omega
  rw [e1]
  show 0 ≤ nextT x s ∧ nextT x s < x.states
  unfold nextT
  split
  · split <;> omega
  · split
    · omega
    · exact ⟨Int.tmod_nonneg _ (by omega), Int.tmod_lt_of_pos _ (by omega)⟩
theorem rngT_ok (x : TotL) (hL : x.hood.length ≤ 9) (hq : x.states ≤ 8) : ∀ a s, rngT x a s → plP.ok a s := fun a s h => by
  obtain ⟨h1, h2, h3, h4, h5⟩ := h
  refine ⟨by omega, ?_, ?_⟩ <;> unfold in64 <;> omega
theorem blk_two (w : World) (o : Obj) (T : TypeId) (cs : Array Value) : Blk ((w.alloc o).alloc (.cells cs T)) (w.heap.size + 1) T cs := by
  have h := Blk.new (w.alloc o) T cs
  rwa [show (w.alloc o).heap.size = w.heap.size + 1 by simp] at h
set_option maxHeartbeats 4000000 in
theorem tot1_any (s1 s2 : Int) (a t : Nat) (c : Int) (pC : Nat) (w : World) (hb : Blk w pC 3 #[.int .i64 c]) (h0 : 0 ≤ s1) (h1 : s1 ≤ 100) :
    Calls Tryz.prog 35 #[.agg #[.int .i64 s1, .int .i64 s2], .int .i64 (a : Int), .int .i64 (t : Int), .pointer (some ⟨pC, 0, none⟩)] w fun e w' => e = .returned (.agg #[.int .i64 (stepT c (s1, s2) a t).1, .int .i64 (stepT c (s1, s2) a t).2]) ∧ Below w.heap.size w w' := by
  obtain ⟨w0, hw0⟩ : ∃ w0, w0 = (w.alloc (.cells #[.int .i64 s1, .int .i64 s2] 59)).alloc (.cells #[.int .i64 0, .int .i64 0] 59) := ⟨_, rfl⟩
  have hb0 : Below w.heap.size w w0 := by
    rw [hw0]
    exact (below_new _ _).trans ((below_new _ _).mono (by simp))
  have q0 : Blk w0 w.heap.size 59 #[.int .i64 s1, .int .i64 s2] := by rw [hw0]; exact (Blk.new _ _ _).alloc _
  have q1 : Blk w0 (w.heap.size + 1) 59 #[.int .i64 0, .int .i64 0] := by rw [hw0]; exact blk_two _ _ _ _
  have qc := hb.below hb0 hb.lt
  have hcl := hb.lt
  have hne : pC ≠ w.heap.size := by omega
  have d0 := q0.cell_ 0 (.int .i64 s1) rfl
  have d1 := q0.cell_ 1 (.int .i64 s2) rfl
  have f0 := q0.frozen 0
  have f1 := q0.frozen 1
  have g0 := q1.frozen 0
  have g1 := q1.frozen 1
  have x0 := q1.cell_ 0 (.int .i64 0) rfl
  have x1 := q1.cell_ 1 (.int .i64 0) rfl
  have dc := qc.cell_ 0 (.int .i64 c) rfl
  have HB0 := Lib.hid hb0
  have HW0 := Lib.hid hw0
  have HQ0 := Lib.hid q0
  have HQ1 := Lib.hid q1
  have e1 : wrap64 (s1 + 1) = s1 + 1 := by unfold wrap64; omega
  have HLE : Hid (w.heap.size ≤ w.heap.size + 1) := Lib.hid (Nat.le_succ _)
  clear hb0 hw0 q0 q1 qc hcl hb h0 h1
  by_cases hac : (a : Int) = c
  · have hd : ((a : Int) == c) = true := by simp [hac]
    have hs : stepT c (s1, s2) a t = (s1, (t : Int)) := by unfold stepT; rw [if_pos hac]
    rw [hs]
    clear hs hac
    go_enter Tryz.func35, Tryz.ntmps35
    go_upto_region 1 with fail
    rw [← HW0.out]
    go_wp2
    have hq := ((HQ1.out.far (p := ⟨w.heap.size, 1, none⟩) (by simp) (.int .i64 t)).set_ 0 (.int .i64 s1)).set_ 1 (.int .i64 t)
    exact bodyPost_ret (results_cell_row Tryz.results35 _ _ (w.heap.size + 1) 59 #[.int .i64 s1, .int .i64 t] (0, 0) _ rfl hq Tryz.underlying59 rfl Tryz.sizeSum) rfl
      ⟨rfl, ((HB0.out.setCell (p := ⟨w.heap.size, 1, none⟩) (Nat.le_refl _) _).setCell (p := ⟨w.heap.size + 1, 0, none⟩) HLE.out _).setCell (p := ⟨w.heap.size + 1, 1, none⟩) HLE.out _⟩
  · have hd : ((a : Int) == c) = false := by simp [hac]
    by_cases ht : t = 1
    · have hd2 : ((t : Int) == 1) = true := by simp [ht]
      have hs : stepT c (s1, s2) a t = (s1 + 1, s2) := by unfold stepT; rw [if_neg hac, if_pos ht]
      rw [hs]
      clear hs hac ht
      go_enter Tryz.func35, Tryz.ntmps35
      go_upto_region 1 with fail
      rw [← HW0.out]
      go_wp2
      have hq := ((HQ1.out.far (p := ⟨w.heap.size, 0, none⟩) (by simp) (.int .i64 (s1 + 1))).set_ 0 (.int .i64 (s1 + 1))).set_ 1 (.int .i64 s2)
      exact bodyPost_ret (results_cell_row Tryz.results35 _ _ (w.heap.size + 1) 59 #[.int .i64 (s1 + 1), .int .i64 s2] (0, 0) _ rfl hq Tryz.underlying59 rfl Tryz.sizeSum) rfl
        ⟨rfl, ((HB0.out.setCell (p := ⟨w.heap.size, 0, none⟩) (Nat.le_refl _) _).setCell (p := ⟨w.heap.size + 1, 0, none⟩) HLE.out _).setCell (p := ⟨w.heap.size + 1, 1, none⟩) HLE.out _⟩
    · have hd2 : ((t : Int) == 1) = false := by simp; omega
      have hs : stepT c (s1, s2) a t = (s1, s2) := by unfold stepT; rw [if_neg hac, if_neg ht]
      rw [hs]
      clear hs hac ht
      go_enter Tryz.func35, Tryz.ntmps35
      go_upto_region 1 with fail
      rw [← HW0.out]
      go_wp2
      have hq := (HQ1.out.set_ 0 (.int .i64 s1)).set_ 1 (.int .i64 s2)
      exact bodyPost_ret (results_cell_row Tryz.results35 _ _ (w.heap.size + 1) 59 #[.int .i64 s1, .int .i64 s2] (0, 0) _ rfl hq Tryz.underlying59 rfl Tryz.sizeSum) rfl
        ⟨rfl, (HB0.out.setCell (p := ⟨w.heap.size + 1, 0, none⟩) HLE.out _).setCell (p := ⟨w.heap.size + 1, 1, none⟩) HLE.out _⟩
def totCells (A : Option Addr) (a : Nat) (B : Option Addr) (b : Nat) (C : Option Addr) (c : Nat) (x : TotL) : Array Value := #[.slice A x.hood.length a, .int .i64 x.states, .slice B x.birth.length b, .slice C x.survive.length c]
set_option maxHeartbeats 4000000 in
theorem tot2_any (x : TotL) (A B C : Option Addr) (a b c : Nat) (s1 s2 : Int) (pX : Nat) (w : World) (hb : Blk w pX 30 (totCells A a B b C c x)) (hB : Ints w B x.birth) (hC : Ints w C x.survive) (h0 : 0 ≤ s2) (h1 : s2 ≤ 100) (hq : 2 ≤ x.states) :
    Calls Tryz.prog 36 #[.agg #[.int .i64 s1, .int .i64 s2], .pointer (some ⟨pX, 0, none⟩)] w fun e w' => e = .returned (.int .i64 (nextT x (s1, s2))) ∧ Below w.heap.size w w' := by
  obtain ⟨w0, hw0⟩ : ∃ w0, w0 = w.alloc (.cells #[.int .i64 s1, .int .i64 s2] 59) := ⟨_, rfl⟩
  have hb0 : Below w.heap.size w w0 := by rw [hw0]; exact below_new _ _
  have q0 : Blk w0 w.heap.size 59 #[.int .i64 s1, .int .i64 s2] := by rw [hw0]; exact Blk.new _ _ _
  have qc := hb.below hb0 hb.lt
  have d0 := q0.cell_ 0 (.int .i64 s1) rfl
  have d1 := q0.cell_ 1 (.int .i64 s2) rfl
  have x1 := qc.cell_ 1 (.int .i64 x.states) rfl
  have x2 := qc.cell_ 2 (.slice B x.birth.length b) rfl
  have x3 := qc.cell_ 3 (.slice C x.survive.length c) rfl
  have HCB := Lib.hid (contains_any B x.birth b s1 w0 (hB.ext hb0))
  have HCC := Lib.hid (contains_any C x.survive c s1 w0 (hC.ext hb0))
  have HB0 := Lib.hid hb0
  have HW0 := Lib.hid hw0
  have e1 : wrap64 (s2 + 1) = s2 + 1 := by unfold wrap64; omega
  have hnz : ¬ x.states = 0 := by omega
  have HN : Hid (nextT x (s1, s2) = if s2 = 0 then (if s1 ∈ x.birth then 1 else 0) else if s2 = 1 ∧ s1 ∈ x.survive then 1 else (s2 + 1).tmod x.states) := Lib.hid rfl
  clear hb0 hw0 q0 qc hb hB hC h0 h1
  by_cases h0 : s2 = 0
  · have hn := HN.out
    rw [if_pos h0] at hn
    by_cases hm : s1 ∈ x.birth
    · rw [if_pos hm] at hn
      have HN2 := Lib.hid hn
      have hd := decide_eq_true hm
      rw [hd] at HCB
      have hd0 : (s2 == 0) = true := by simp [h0]
      subst h0
      clear hn HN hm hd HCC
      go_enter Tryz.func36, Tryz.ntmps36
      go_upto_region 1 with fail
      rw [← HW0.out]
      go_wp2_with fail
      refine HCB.out.mono ?_
      rintro e w' ⟨rfl, rfl⟩
      go_wp2
      go_ret
      exact ⟨ret_int HN2.out.symm, HB0.out⟩
    · rw [if_neg hm] at hn
      have HN2 := Lib.hid hn
      have hd := decide_eq_false hm
      rw [hd] at HCB
      subst h0
      clear hn HN hm hd HCC
      go_enter Tryz.func36, Tryz.ntmps36
      go_upto_region 1 with fail
      rw [← HW0.out]
      go_wp2_with fail
      refine HCB.out.mono ?_
      rintro e w' ⟨rfl, rfl⟩
      go_wp2
      go_ret
      exact ⟨ret_int HN2.out.symm, HB0.out⟩
  · have hn := HN.out
    rw [if_neg h0] at hn
    have hd0 : (s2 == 0) = false := by simp [h0]
    by_cases h2 : s2 = 1
    · by_cases hm : s1 ∈ x.survive
      · rw [if_pos ⟨h2, hm⟩] at hn
        have HN2 := Lib.hid hn
        have hd := decide_eq_true hm
        rw [hd] at HCC
        subst h2
        clear hn HN hm hd HCB h0 hd0
        go_enter Tryz.func36, Tryz.ntmps36
        go_upto_region 1 with fail
        rw [← HW0.out]
        go_wp2_with fail
        refine HCC.out.mono ?_
        rintro e w' ⟨rfl, rfl⟩
        go_wp2
        go_ret
        exact ⟨ret_int HN2.out.symm, HB0.out⟩
      · rw [if_neg (fun h => hm h.2)] at hn
        have HN2 := Lib.hid hn
        have hd := decide_eq_false hm
        rw [hd] at HCC
        subst h2
        clear hn HN hm hd HCB h0 hd0
        go_enter Tryz.func36, Tryz.ntmps36
        go_upto_region 1 with fail
        rw [← HW0.out]
        go_wp2_with fail
        refine HCC.out.mono ?_
        rintro e w' ⟨rfl, rfl⟩
        go_wp2
        go_ret
        exact ⟨ret_int (by rw [HN2.out]; exact (Int.tmod_eq_emod_of_nonneg (by decide)).symm), HB0.out⟩
    · rw [if_neg (fun h => h2 h.1)] at hn
      have HN2 := Lib.hid hn
      have hd2 : (s2 == 1) = false := by simp [h2]
      clear hn HN HCB HCC
      go_enter Tryz.func36, Tryz.ntmps36
      go_upto_region 1 with fail
      rw [← HW0.out]
      go_wp2
      go_ret
      exact ⟨ret_int HN2.out.symm, HB0.out⟩
end Go.Proofs.YtmlhkbgifnifdaaGreatDoor
