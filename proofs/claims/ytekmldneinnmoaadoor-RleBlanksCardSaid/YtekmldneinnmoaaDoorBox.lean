/-
  The least box of a pattern: pattern.Box, cellularref05.Box. No condition.
-/
import Derived.Test.YtekmldneinnmoaaDoorPat3
namespace Go.Proofs.YtekmldneinnmoaaDoor
open Go.RowKit
set_option maxRecDepth 100000
set_option linter.unusedVariables false
set_option linter.unusedSimpArgs false

structure Bx where
  x : Int
  y : Int
  w : Int
  h : Int
  deriving DecidableEq
def bxV (b : Bx) : Value := .agg #[.int .i64 b.x, .int .i64 b.y, .int .i64 b.w, .int .i64 b.h]
def hdC (ps : List Cel) : Cel := ps.headD ⟨0, 0, 0⟩
def lstC (ps : List Cel) : Cel := ps.getLastD ⟨0, 0, 0⟩
def lo (f : Cel → Int) (ps : List Cel) (k : Nat) : Int := (ps.take k).foldl (fun m c => min m (f c)) (f (hdC ps))
def hi (f : Cel → Int) (ps : List Cel) (k : Nat) : Int := (ps.take k).foldl (fun m c => max m (f c)) (f (hdC ps))
theorem lo_snoc (f : Cel → Int) {ps : List Cel} {k : Nat} (h : k < ps.length) : lo f ps (k + 1) = min (lo f ps k) (f ps[k]) := by
  unfold lo
  rw [List.take_succ_eq_append_getElem h, List.foldl_append]
  rfl
theorem hi_snoc (f : Cel → Int) {ps : List Cel} {k : Nat} (h : k < ps.length) : hi f ps (k + 1) = max (hi f ps k) (f ps[k]) := by
  unfold hi
  rw [List.take_succ_eq_append_getElem h, List.foldl_append]
  rfl
theorem lo_bd (f : Cel → Int) {ps : List Cel} {a b : Int} (h0 : ps ≠ []) (h : ∀ c ∈ ps, a ≤ f c ∧ f c ≤ b) : ∀ k, a ≤ lo f ps k ∧ lo f ps k ≤ b := by
  intro k
  induction k with
  | zero =>
    have : lo f ps 0 = f (hdC ps) := rfl
    rw [this]
    apply h
    cases ps with
    | nil => exact absurd rfl h0
    | cons c l => exact List.mem_cons_self
  | succ k ih =>
    by_cases hk : k < ps.length
    · rw [lo_snoc f hk]
      have := h ps[k] (List.getElem_mem hk)
      omega
    · have : lo f ps (k + 1) = lo f ps k := by unfold lo; rw [List.take_of_length_le (by omega), List.take_of_length_le (by omega)]
      rw [this]; exact ih
theorem hi_bd (f : Cel → Int) {ps : List Cel} {a b : Int} (h0 : ps ≠ []) (h : ∀ c ∈ ps, a ≤ f c ∧ f c ≤ b) : ∀ k, a ≤ hi f ps k ∧ hi f ps k ≤ b := by
  intro k
  induction k with
  | zero =>
    have : hi f ps 0 = f (hdC ps) := rfl
    rw [this]
    apply h
    cases ps with
    | nil => exact absurd rfl h0
    | cons c l => exact List.mem_cons_self
  | succ k ih =>
    by_cases hk : k < ps.length
    · rw [hi_snoc f hk]
      have := h ps[k] (List.getElem_mem hk)
      omega
    · have : hi f ps (k + 1) = hi f ps k := by unfold hi; rw [List.take_of_length_le (by omega), List.take_of_length_le (by omega)]
      rw [this]; exact ih
theorem chain_ok : ∀ {ps : List Cel} {p : Option Cel}, chainB p ps = true → ∀ c ∈ ps, placeB c.x c.y = true ∧ 1 ≤ c.s ∧ c.s < 8
  | [], _, _, c, hc => by cases hc
  | a :: l, p, h, c, hc => by
    rw [chainB, Bool.and_eq_true] at h
    rcases List.mem_cons.1 hc with rfl | hc
    · have h1 := h.1
      unfold okB at h1
      simp only [Bool.and_eq_true, decide_eq_true_eq] at h1
      exact ⟨h1.1.1.1, h1.1.1.2, h1.1.2⟩
    · exact chain_ok h.2 c hc
theorem place_bd {x y : Int} (h : placeB x y = true) : -1048576 ≤ x ∧ x ≤ 1048576 ∧ -1048576 ≤ y ∧ y ≤ 1048576 := by
  unfold placeB at h
  simp only [Bool.and_eq_true, decide_eq_true_eq] at h
  exact ⟨h.1.1.1, h.1.1.2, h.1.2, h.2⟩
theorem right_bd {ps : List Cel} (h : rightC ps = true) : ∀ c ∈ ps, (-1048576 ≤ c.x ∧ c.x ≤ 1048576) ∧ (-1048576 ≤ c.y ∧ c.y ≤ 1048576) ∧ 1 ≤ c.s ∧ c.s < 8 := by
  intro c hc
  unfold rightC at h
  rw [Bool.and_eq_true] at h
  have h1 := chain_ok h.2 c hc
  have h2 := place_bd h1.1
  exact ⟨⟨h2.1, h2.2.1⟩, ⟨h2.2.2.1, h2.2.2.2⟩, h1.2⟩
def boxC (ps : List Cel) : Bx × Bool :=
  if ps ≠ [] ∧ rightC ps = true then (⟨lo (·.x) ps ps.length, (hdC ps).y, hi (·.x) ps ps.length - lo (·.x) ps ps.length + 1, (lstC ps).y - (hdC ps).y + 1⟩, true) else (⟨0, 0, 0, 0⟩, false)
def boxR (ps : List Cel) : Bx × Bool :=
  if ps ≠ [] ∧ rightC ps = true then (⟨lo (·.x) ps ps.length, lo (·.y) ps ps.length, hi (·.x) ps ps.length - lo (·.x) ps ps.length + 1, hi (·.y) ps ps.length - lo (·.y) ps ps.length + 1⟩, true) else (⟨0, 0, 0, 0⟩, false)
set_option maxHeartbeats 8000000 in
theorem box_any (A : Option Addr) (c : Nat) (ps : List Cel) (w : World) (ha : Cls w A ps) :
    Calls Tryd.prog 18 #[.slice A ps.length c] w fun e w' => e = .returned (.tuple #[bxV (boxC ps).1, .bool (boxC ps).2]) ∧ Below w.heap.size w w' := by
  have hn := ha.le
  obtain ⟨w0, hw0⟩ : ∃ w0, w0 = w.alloc (.cells #[.int .i64 0, .int .i64 0, .int .i64 0, .int .i64 0] 38) := ⟨_, rfl⟩
  have hb0 := below_new w (.cells #[.int .i64 0, .int .i64 0, .int .i64 0, .int .i64 0] 38)
  have br0 := Blk.new w 38 #[.int .i64 0, .int .i64 0, .int .i64 0, .int .i64 0]
  rw [← hw0] at hb0 br0
  have HB0 := Lib.hid hb0
  have BR0 := Lib.hid br0
  have HW0 := Lib.hid hw0
  clear hb0 br0 hw0
  by_cases h0 : ps = []
  · have E : Hid (boxC ps = (⟨0, 0, 0, 0⟩, false)) := Lib.hid (by unfold boxC; rw [if_neg (fun h => h.1 h0)])
    subst h0
    have r0 := BR0.out.cell_ 0 _ rfl
    have r1 := BR0.out.cell_ 1 _ rfl
    have r2 := BR0.out.cell_ 2 _ rfl
    have r3 := BR0.out.cell_ 3 _ rfl
    have g0 := BR0.out.frozen 0
    have g1 := BR0.out.frozen 1
    have g2 := BR0.out.frozen 2
    have g3 := BR0.out.frozen 3
    go_enter Tryd.func18, Tryd.ntmps18
    go_upto_region 1 with fail
    rw [← HW0.out]
    go_wp2
    refine bodyPost_ret (v := .tuple #[.agg #[.int .i64 0, .int .i64 0, .int .i64 0, .int .i64 0], .bool false]) (by simp [results, Tryd.results18, go_sem, r0, r1, r2, r3]) rfl ?_
    rw [E.out]
    exact ⟨rfl, below_set4 HB0.out (Nat.le_refl _) _ _ _ _⟩
  have hpos : 0 < ps.length := List.length_pos_iff.2 h0
  have HR := Lib.hid (right_any A c ps w0 (ha.ext HB0.out))
  obtain ⟨kr, hkr⟩ : ∃ k, k = rightC ps := ⟨_, rfl⟩
  rw [← hkr] at HR
  have d0 : ((ps.length : Int) == 0) = false := by simp; omega
  cases kr
  · have E : Hid (boxC ps = (⟨0, 0, 0, 0⟩, false)) := Lib.hid (by unfold boxC; rw [if_neg (by rw [← hkr]; simp)])
    clear hkr h0
    go_enter Tryd.func18, Tryd.ntmps18
    go_upto_region 1 with fail
    rw [← HW0.out]
    go_wp2_with fail
    refine HR.out.mono ?_
    rintro e w1 ⟨rfl, hb1⟩
    have br := BR0.out.below hb1 BR0.out.lt
    have r0 := br.cell_ 0 _ rfl
    have r1 := br.cell_ 1 _ rfl
    have r2 := br.cell_ 2 _ rfl
    have r3 := br.cell_ 3 _ rfl
    have g0 := br.frozen 0
    have g1 := br.frozen 1
    have g2 := br.frozen 2
    have g3 := br.frozen 3
    have HBF := Lib.hid (HB0.out.trans (hb1.mono HB0.out.size))
    clear hb1
    go_wp2
    refine bodyPost_ret (v := .tuple #[.agg #[.int .i64 0, .int .i64 0, .int .i64 0, .int .i64 0], .bool false]) (by simp [results, Tryd.results18, go_sem, r0, r1, r2, r3]) rfl ?_
    rw [E.out]
    exact ⟨rfl, below_set4 HBF.out (Nat.le_refl _) _ _ _ _⟩
  have HBD := Lib.hid (right_bd hkr.symm)
  have HE : Hid (boxC ps = (⟨lo (·.x) ps ps.length, (hdC ps).y, hi (·.x) ps ps.length - lo (·.x) ps ps.length + 1, (lstC ps).y - (hdC ps).y + 1⟩, true)) := Lib.hid (by unfold boxC; rw [if_pos ⟨h0, hkr.symm⟩])
  have HNE := Lib.hid h0
  clear hkr h0
  go_enter Tryd.func18, Tryd.ntmps18
  go_upto_region 1 with fail
  rw [← HW0.out]
  go_wp2_with fail
  refine HR.out.mono ?_
  rintro e w1 ⟨rfl, hb1⟩
  have HBR := Lib.hid (BR0.out.below hb1 BR0.out.lt)
  have HB1 := Lib.hid (HB0.out.trans (hb1.mono HB0.out.size))
  clear hb1
  obtain ⟨b1, o1, e1, -, hc0, hc1, hc2⟩ := (ha.ext HB1.out).at_ hpos
  have eh : ps[0] = hdC ps := by cases ps with | nil => simp at hpos | cons a l => rfl
  rw [eh] at hc0 hc1 hc2
  simp only [Nat.zero_mul, Nat.add_zero] at hc0 hc1 hc2
  have HE1 := Lib.hid e1
  subst e1
  have hi0 : (0 : Int) < (ps.length : Int) := by omega
  obtain ⟨h, hh⟩ : ∃ h, h = hdC ps := ⟨_, rfl⟩
  rw [← hh] at hc0 hc1 hc2
  have HH := Lib.hid hh
  clear hh eh
  go_upto_region 3 with fail
  go_quiet (fail)
  have HBR2 := Lib.hid (HBR.out.drewN nq)
  have HB2 := Lib.hid (below_drewN HB1.out nq)
  have hc1 : (w1.drewN nq).cell? ⟨b1, o1 + 1, none⟩ = some (.int .i64 h.y) := hc1
  clear hc0 hc2 HBR HB1 HR
  generalize w1.drewN nq = w2 at *
  go_wp2
  go_loopw [4, 5, 28] (fun l r i wr => ∃ k : Nat, k ≤ ps.length ∧ i = .int .i64 k ∧ l = .int .i64 (lo (·.x) ps k) ∧ r = .int .i64 (hi (·.x) ps k) ∧ Hid (Blk wr w.heap.size 38 #[.int .i64 0, .int .i64 0, .int .i64 0, .int .i64 0]) ∧ Hid (Below w.heap.size w wr)) (fun _ _ i _ => ps.length - (intOf i).toNat)
  case atStart => exact ⟨0, Nat.zero_le _, rfl, by rw [HH.out]; rfl, by rw [HH.out]; rfl, HBR2, HB2⟩
  case round =>
    clear HBR2 HB2 hc1
    obtain ⟨k, hk, rfl, rfl, rfl, HBR, HB⟩ := hrel
    by_cases hlt : k < ps.length
    · obtain ⟨b3, o3, e3, -, hd0, hd1, hd2⟩ := (ha.ext HB.out).at_ hlt
      injection e3 with e3
      injection e3 with e4 e5
      subst e4 e5
      have HLO := Lib.hid (lo_snoc (·.x) hlt)
      have HHI := Lib.hid (hi_snoc (·.x) hlt)
      obtain ⟨L, hL⟩ : ∃ L, L = lo (·.x) ps k := ⟨_, rfl⟩
      obtain ⟨R, hR⟩ : ∃ R, R = hi (·.x) ps k := ⟨_, rfl⟩
      rw [← hL] at HLO ⊢
      rw [← hR] at HHI ⊢
      obtain ⟨cx, hcx⟩ : ∃ cx, cx = ps[k] := ⟨_, rfl⟩
      rw [← hcx] at hd0 hd1 hd2 HLO HHI
      clear hL hR hcx
      have hnb := below_new wr (.cells #[.int .i64 cx.x, .int .i64 cx.y, .int .i64 cx.s] 42)
      obtain ⟨wb, hwb⟩ : ∃ wb, wb = wr.alloc (.cells #[.int .i64 cx.x, .int .i64 cx.y, .int .i64 cx.s] 42) := ⟨_, rfl⟩
      have p0 := Blk.new wr 42 #[.int .i64 cx.x, .int .i64 cx.y, .int .i64 cx.s]
      rw [← hwb] at hnb p0
      have P0 := p0.cell_ 0 (.int .i64 cx.x) rfl
      have HBR2 := Lib.hid (HBR.out.below hnb HBR.out.lt)
      have HB2 := Lib.hid (HB.out.trans (hnb.mono HB.out.size))
      have HW := Lib.hid hwb
      clear p0 hnb hwb
      go_upto_region 7 with fail
      rw [← HW.out]
      go_quiet (fail)
      have HBR3 := Lib.hid (HBR2.out.drewN nq)
      have HB3 := Lib.hid (below_drewN HB2.out nq)
      go_wp2
      go_roundw
      case rel => exact ⟨k + 1, by omega, by go_num, by rw [HLO.out], by rw [HHI.out], HBR3, HB3⟩
      case measure => simp [intOf]; omega
    · obtain rfl : k = ps.length := by omega
      obtain ⟨m, hm⟩ : ∃ m, ps.length = m + 1 := ⟨ps.length - 1, by omega⟩
      have hml : m < ps.length := by omega
      obtain ⟨b3, o3, e3, -, hd0, hd1, hd2⟩ := (ha.ext HB.out).at_ hml
      injection e3 with e3
      injection e3 with e4 e5
      subst e4 e5
      obtain ⟨b4, o4, e3, -, hf0, hf1, hf2⟩ := (ha.ext HB.out).at_ hpos
      injection e3 with e3
      injection e3 with e4 e5
      subst e4 e5
      have el : ps[m] = lstC ps := by
        unfold lstC
        rw [List.getLastD_eq_getLast?, List.getLast?_eq_getElem?, hm]
        simp [List.getElem?_eq_getElem hml]
      have eh : ps[0] = hdC ps := by cases ps with | nil => simp at hpos | cons a l => rfl
      have bl := HBD.out ps[m] (List.getElem_mem hml)
      have bh := HBD.out ps[0] (List.getElem_mem hpos)
      rw [el] at hd0 hd1 hd2 bl
      rw [eh] at hf1 bh
      simp only [Nat.zero_mul, Nat.add_zero] at hf1
      have bL := lo_bd (·.x) HNE.out (fun c hc => (HBD.out c hc).1) ps.length
      have bR := hi_bd (·.x) HNE.out (fun c hc => (HBD.out c hc).1) ps.length
      obtain ⟨L, hL⟩ : ∃ L, L = lo (·.x) ps ps.length := ⟨_, rfl⟩
      obtain ⟨R, hR⟩ : ∃ R, R = hi (·.x) ps ps.length := ⟨_, rfl⟩
      obtain ⟨hy, hhy⟩ : ∃ y, y = (hdC ps).y := ⟨_, rfl⟩
      obtain ⟨ly, hly⟩ : ∃ y, y = (lstC ps).y := ⟨_, rfl⟩
      rw [← hL, ← hR] at HE ⊢
      rw [← hL] at bL
      rw [← hR] at bR
      rw [← hhy] at HE hf1 bh
      rw [← hly] at HE hd1 bl
      have hw1 : wrap64 (R - L) = R - L := by unfold wrap64; omega
      have hw2 : wrap64 (R - L + 1) = R - L + 1 := by unfold wrap64; omega
      have hw3 : wrap64 (ly - hy) = ly - hy := by unfold wrap64; omega
      have hw4 : wrap64 (ly - hy + 1) = ly - hy + 1 := by unfold wrap64; omega
      have hw5 : wrap64 ((ps.length : Int) - 1) = (m : Int) := by unfold wrap64; omega
      have hml' : (m : Int) < (ps.length : Int) := by omega
      have em : m = ps.length - 1 := by omega
      have r0 := HBR.out.cell_ 0 _ rfl
      have r1 := HBR.out.cell_ 1 _ rfl
      have r2 := HBR.out.cell_ 2 _ rfl
      have r3 := HBR.out.cell_ 3 _ rfl
      have g0 := HBR.out.frozen 0
      have g1 := HBR.out.frozen 1
      have g2 := HBR.out.frozen 2
      have g3 := HBR.out.frozen 3
      clear hL hR hhy hly bL bR bh bl el eh hm hd0 hd2 hf0 hf2
      rw [em] at hd1
      clear em hw5 hml'
      go_wp2
      refine bodyPost_ret (v := .tuple #[.agg #[.int .i64 L, .int .i64 hy, .int .i64 (R - L + 1), .int .i64 (ly - hy + 1)], .bool true]) (by simp [results, Tryd.results18, go_sem, r0, r1, r2, r3]) rfl ?_
      rw [HE.out]
      exact ⟨rfl, below_set4 HB.out (Nat.le_refl _) _ _ _ _⟩
end Go.Proofs.YtekmldneinnmoaaDoor
