/-
  cellularref05.Box; the two boxes are one (plain). No condition.
-/
import Derived.Test.YtekmldneinnmoaaDoorBox
namespace Go.Proofs.YtekmldneinnmoaaDoor
open Go.RowKit
set_option maxRecDepth 100000
set_option linter.unusedVariables false
set_option linter.unusedSimpArgs false

/-! in a valid pattern the first cell is the highest, the last the lowest -/
theorem chain_y : ∀ {ps : List Cel} {p : Cel}, chainB (some p) ps = true → ∀ c ∈ ps, p.y ≤ c.y
  | [], _, _, c, hc => by cases hc
  | a :: l, p, h, c, hc => by
    rw [chainB, Bool.and_eq_true] at h
    have h1 : p.y ≤ a.y := by
      have := h.1
      unfold okB at this
      simp only [Bool.and_eq_true] at this
      have h2 := this.2
      unfold befB at h2
      simp only [Bool.or_eq_true, decide_eq_true_eq, Bool.and_eq_true, beq_iff_eq] at h2
      omega
    rcases List.mem_cons.1 hc with rfl | hc
    · exact h1
    · have := chain_y h.2 c hc
      omega
theorem chain_last : ∀ {ps : List Cel} {p : Option Cel}, chainB p ps = true → ∀ c ∈ ps, c.y ≤ (ps.getLastD ⟨0, 0, 0⟩).y
  | [], _, _, c, hc => by cases hc
  | [a], _, _, c, hc => by simp at hc; subst hc; exact Int.le_refl _
  | a :: b :: l, p, h, c, hc => by
    rw [chainB, Bool.and_eq_true] at h
    have e : ((a :: b :: l).getLastD ⟨0, 0, 0⟩) = ((b :: l).getLastD ⟨0, 0, 0⟩) := by simp [List.getLastD_eq_getLast?]
    rw [e]
    rcases List.mem_cons.1 hc with rfl | hc
    · have h1 := chain_y h.2 b (by simp)
      have h2 := chain_last h.2 b (by simp)
      omega
    · exact chain_last h.2 c hc
theorem lo_eq (f : Cel → Int) {ps : List Cel} (h0 : ps ≠ []) (h : ∀ c ∈ ps, f (hdC ps) ≤ f c) : ∀ k, lo f ps k = f (hdC ps) := by
  intro k
  induction k with
  | zero => rfl
  | succ k ih =>
    by_cases hk : k < ps.length
    · rw [lo_snoc f hk, ih]
      have := h ps[k] (List.getElem_mem hk)
      omega
    · have : lo f ps (k + 1) = lo f ps k := by unfold lo; rw [List.take_of_length_le (by omega), List.take_of_length_le (by omega)]
      rw [this, ih]
theorem hi_ge (f : Cel → Int) {ps : List Cel} : ∀ k j, (h : j < k) → (hk : k ≤ ps.length) → f (ps[j]'(by omega)) ≤ hi f ps k := by
  intro k
  induction k with
  | zero => intro j h; omega
  | succ k ih =>
    intro j h hk
    rw [hi_snoc f (by omega)]
    by_cases hj : j = k
    · subst hj; omega
    · have := ih j (by omega) (by omega)
      omega
theorem box_eq (ps : List Cel) : boxR ps = boxC ps := by
  unfold boxR boxC
  by_cases h : ps ≠ [] ∧ rightC ps = true
  · rw [if_pos h, if_pos h]
    have hr := h.2
    unfold rightC at hr
    rw [Bool.and_eq_true] at hr
    have h1 : lo (·.y) ps ps.length = (hdC ps).y := by
      refine lo_eq (·.y) h.1 ?_ _
      intro c hc
      cases ps with
      | nil => cases hc
      | cons a l =>
        rcases List.mem_cons.1 hc with rfl | hc
        · exact Int.le_refl _
        · have h2 := hr.2
          rw [chainB, Bool.and_eq_true] at h2
          exact chain_y h2.2 c hc
    have h2 : hi (·.y) ps ps.length = (lstC ps).y := by
      have hmem : lstC ps ∈ ps := by
        unfold lstC
        rw [List.getLastD_eq_getLast?, List.getLast?_eq_some_getLast h.1]
        exact List.getLast_mem h.1
      obtain ⟨j, hj, he⟩ := List.getElem_of_mem hmem
      have h3 := hi_ge (·.y) ps.length j hj (Nat.le_refl _)
      have h4 := (hi_bd (·.y) (a := -1048576) (b := (lstC ps).y) h.1 (fun c hc => ⟨(right_bd h.2 c hc).2.1.1, chain_last hr.2 c hc⟩) ps.length).2
      have h5 : (ps[j]).y = (lstC ps).y := by rw [he]
      omega
    rw [h1, h2]
  · rw [if_neg h, if_neg h]
set_option maxHeartbeats 8000000 in
theorem rbox_any (A : Option Addr) (c : Nat) (ps : List Cel) (w : World) (ha : Cls w A ps) :
    Calls Tryd.prog 15 #[.slice A ps.length c] w fun e w' => e = .returned (.tuple #[bxV (boxR ps).1, .bool (boxR ps).2]) ∧ Below w.heap.size w w' := by
  have hn := ha.le
  obtain ⟨w0, hw0⟩ : ∃ w0, w0 = w.alloc (.cells #[.int .i64 0, .int .i64 0, .int .i64 0, .int .i64 0] 38) := ⟨_, rfl⟩
  have hb0 := below_new w (.cells #[.int .i64 0, .int .i64 0, .int .i64 0, .int .i64 0] 38)
  have br0 := Blk.new w 38 #[.int .i64 0, .int .i64 0, .int .i64 0, .int .i64 0]
  rw [← hw0] at hb0 br0
  have HB0 := Lib.hid hb0
  have BR0 := Lib.hid br0
  have HW0 := Lib.hid hw0
  clear hb0 br0 hw0
  by_cases h0 : ps = []
  · have E : Hid (boxR ps = (⟨0, 0, 0, 0⟩, false)) := Lib.hid (by unfold boxR; rw [if_neg (fun h => h.1 h0)])
    subst h0
    have r0 := BR0.out.cell_ 0 _ rfl
    have r1 := BR0.out.cell_ 1 _ rfl
    have r2 := BR0.out.cell_ 2 _ rfl
    have r3 := BR0.out.cell_ 3 _ rfl
    have g0 := BR0.out.frozen 0
    have g1 := BR0.out.frozen 1
    have g2 := BR0.out.frozen 2
    have g3 := BR0.out.frozen 3
    go_enter Tryd.func15, Tryd.ntmps15
    go_upto_region 1 with fail
    rw [← HW0.out]
    go_wp2
    refine bodyPost_ret (v := .tuple #[.agg #[.int .i64 0, .int .i64 0, .int .i64 0, .int .i64 0], .bool false]) (by simp [results, Tryd.results15, go_sem, r0, r1, r2, r3]) rfl ?_
    rw [E.out]
    exact ⟨rfl, below_set4 HB0.out (Nat.le_refl _) _ _ _ _⟩
  have hpos : 0 < ps.length := List.length_pos_iff.2 h0
  have HR := Lib.hid (rright_any A c ps w0 (ha.ext HB0.out))
  obtain ⟨kr, hkr⟩ : ∃ k, k = rightC ps := ⟨_, rfl⟩
  rw [← hkr] at HR
  have d0 : ((ps.length : Int) == 0) = false := by simp; omega
  cases kr
  · have E : Hid (boxR ps = (⟨0, 0, 0, 0⟩, false)) := Lib.hid (by unfold boxR; rw [if_neg (by rw [← hkr]; simp)])
    clear hkr h0
    go_enter Tryd.func15, Tryd.ntmps15
    go_upto_region 1 with fail
    rw [← HW0.out]
    go_wp2_with fail
    refine HR.out.mono ?_
    rintro e w1 ⟨rfl, hb1⟩
    have br := BR0.out.below hb1 BR0.out.lt
    have r0 := br.cell_ 0 _ rfl
    have r1 := br.cell_ 1 _ rfl
    have r2 := br.cell_ 2 _ rfl
    have r3 := br.cell_ 3 _ rfl
    have g0 := br.frozen 0
    have g1 := br.frozen 1
    have g2 := br.frozen 2
    have g3 := br.frozen 3
    have HBF := Lib.hid (HB0.out.trans (hb1.mono HB0.out.size))
    clear hb1
    go_wp2
    refine bodyPost_ret (v := .tuple #[.agg #[.int .i64 0, .int .i64 0, .int .i64 0, .int .i64 0], .bool false]) (by simp [results, Tryd.results15, go_sem, r0, r1, r2, r3]) rfl ?_
    rw [E.out]
    exact ⟨rfl, below_set4 HBF.out (Nat.le_refl _) _ _ _ _⟩
  have HBD := Lib.hid (right_bd hkr.symm)
  have HE : Hid (boxR ps = (⟨lo (·.x) ps ps.length, lo (·.y) ps ps.length, hi (·.x) ps ps.length - lo (·.x) ps ps.length + 1, hi (·.y) ps ps.length - lo (·.y) ps ps.length + 1⟩, true)) := Lib.hid (by unfold boxR; rw [if_pos ⟨h0, hkr.symm⟩])
  have HNE := Lib.hid h0
  clear hkr h0
  go_enter Tryd.func15, Tryd.ntmps15
  go_upto_region 1 with fail
  rw [← HW0.out]
  go_wp2_with fail
  refine HR.out.mono ?_
  rintro e w1 ⟨rfl, hb1⟩
  have HBR := Lib.hid (BR0.out.below hb1 BR0.out.lt)
  have HB1 := Lib.hid (HB0.out.trans (hb1.mono HB0.out.size))
  clear hb1
  obtain ⟨b1, o1, e1, -, hc0, hc1, hc2⟩ := (ha.ext HB1.out).at_ hpos
  have eh : ps[0] = hdC ps := by cases ps with | nil => simp at hpos | cons a l => rfl
  rw [eh] at hc0 hc1 hc2
  simp only [Nat.zero_mul, Nat.add_zero] at hc0 hc1 hc2
  have HE1 := Lib.hid e1
  subst e1
  have hi0 : (0 : Int) < (ps.length : Int) := by omega
  obtain ⟨h, hh⟩ : ∃ h, h = hdC ps := ⟨_, rfl⟩
  rw [← hh] at hc0 hc1 hc2
  have HH := Lib.hid hh
  clear hh eh
  go_upto_region 3 with fail
  go_quiet (fail)
  have HBR2 := Lib.hid (HBR.out.drewN nq)
  have HB2 := Lib.hid (below_drewN HB1.out nq)
  clear hc0 hc1 hc2 HBR HB1 HR
  generalize w1.drewN nq = w2 at *
  go_wp2
  go_loopw [4, 5, 6, 7, 8] (fun l t r b i wr => ∃ k : Nat, k ≤ ps.length ∧ i = .int .i64 k ∧ l = .int .i64 (lo (·.x) ps k) ∧ t = .int .i64 (lo (·.y) ps k) ∧ r = .int .i64 (hi (·.x) ps k) ∧ b = .int .i64 (hi (·.y) ps k) ∧ Hid (Blk wr w.heap.size 38 #[.int .i64 0, .int .i64 0, .int .i64 0, .int .i64 0]) ∧ Hid (Below w.heap.size w wr)) (fun _ _ _ _ i _ => ps.length - (intOf i).toNat)
  case atStart => exact ⟨0, Nat.zero_le _, rfl, by rw [HH.out]; rfl, by rw [HH.out]; rfl, by rw [HH.out]; rfl, by rw [HH.out]; rfl, HBR2, HB2⟩
  case round =>
    clear HBR2 HB2
    obtain ⟨k, hk, rfl, rfl, rfl, rfl, rfl, HBR, HB⟩ := hrel
    by_cases hlt : k < ps.length
    · obtain ⟨b3, o3, e3, -, hd0, hd1, hd2⟩ := (ha.ext HB.out).at_ hlt
      injection e3 with e3
      injection e3 with e4 e5
      subst e4 e5
      have H1 := Lib.hid (lo_snoc (·.x) hlt)
      have H2 := Lib.hid (lo_snoc (·.y) hlt)
      have H3 := Lib.hid (hi_snoc (·.x) hlt)
      have H4 := Lib.hid (hi_snoc (·.y) hlt)
      obtain ⟨L, hL⟩ : ∃ L, L = lo (·.x) ps k := ⟨_, rfl⟩
      obtain ⟨T, hT⟩ : ∃ L, L = lo (·.y) ps k := ⟨_, rfl⟩
      obtain ⟨R, hR⟩ : ∃ R, R = hi (·.x) ps k := ⟨_, rfl⟩
      obtain ⟨B, hB⟩ : ∃ R, R = hi (·.y) ps k := ⟨_, rfl⟩
      rw [← hL] at H1 ⊢
      rw [← hT] at H2 ⊢
      rw [← hR] at H3 ⊢
      rw [← hB] at H4 ⊢
      obtain ⟨cx, hcx⟩ : ∃ cx, cx = ps[k] := ⟨_, rfl⟩
      rw [← hcx] at hd0 hd1 hd2 H1 H2 H3 H4
      clear hL hR hT hB hcx
      go_wp2
      go_roundw
      case rel => exact ⟨k + 1, by omega, by go_num, by rw [H1.out], by rw [H2.out], by rw [H3.out], by rw [H4.out], HBR, HB⟩
      case measure => simp [intOf]; omega
    · obtain rfl : k = ps.length := by omega
      have bL := lo_bd (·.x) HNE.out (fun c hc => (HBD.out c hc).1) ps.length
      have bT := lo_bd (·.y) HNE.out (fun c hc => (HBD.out c hc).2.1) ps.length
      have bR := hi_bd (·.x) HNE.out (fun c hc => (HBD.out c hc).1) ps.length
      have bB := hi_bd (·.y) HNE.out (fun c hc => (HBD.out c hc).2.1) ps.length
      obtain ⟨L, hL⟩ : ∃ L, L = lo (·.x) ps ps.length := ⟨_, rfl⟩
      obtain ⟨T, hT⟩ : ∃ L, L = lo (·.y) ps ps.length := ⟨_, rfl⟩
      obtain ⟨R, hR⟩ : ∃ R, R = hi (·.x) ps ps.length := ⟨_, rfl⟩
      obtain ⟨B, hB⟩ : ∃ R, R = hi (·.y) ps ps.length := ⟨_, rfl⟩
      rw [← hL, ← hR, ← hT, ← hB] at HE ⊢
      rw [← hL] at bL
      rw [← hR] at bR
      rw [← hT] at bT
      rw [← hB] at bB
      have hw1 : wrap64 (R - L) = R - L := by unfold wrap64; omega
      have hw2 : wrap64 (R - L + 1) = R - L + 1 := by unfold wrap64; omega
      have hw3 : wrap64 (B - T) = B - T := by unfold wrap64; omega
      have hw4 : wrap64 (B - T + 1) = B - T + 1 := by unfold wrap64; omega
      have r0 := HBR.out.cell_ 0 _ rfl
      have r1 := HBR.out.cell_ 1 _ rfl
      have r2 := HBR.out.cell_ 2 _ rfl
      have r3 := HBR.out.cell_ 3 _ rfl
      have g0 := HBR.out.frozen 0
      have g1 := HBR.out.frozen 1
      have g2 := HBR.out.frozen 2
      have g3 := HBR.out.frozen 3
      clear hL hR hT hB bL bR bT bB
      go_wp2
      refine bodyPost_ret (v := .tuple #[.agg #[.int .i64 L, .int .i64 T, .int .i64 (R - L + 1), .int .i64 (B - T + 1)], .bool true]) (by simp [results, Tryd.results15, go_sem, r0, r1, r2, r3]) rfl ?_
      rw [HE.out]
      exact ⟨rfl, below_set4 HB.out (Nat.le_refl _) _ _ _ _⟩
end Go.Proofs.YtekmldneinnmoaaDoor
