/-
  slices.Equal on numbers: it answers whether the lists are equal. No condition but the reach.
  slices.Equal on points: it answers whether the lists are equal. No condition but the reach.
  hood.Same, tree.Same. No condition.
  cellularref13.same. No condition.
  cellularref07.Right. No condition.
-/
import Derived.Test.YtojnnfihpiegoaaDoorRows
import Derived.Test.YtojnnfihpiegoaaDoorZCa
import Derived.Test.YtojnnfihpiegoaaDoorZCe
import Derived.Test.YtojnnfihpiegoaaDoorZCd
namespace Go.Proofs.YtojnnfihpiegoaaDoor
set_option linter.unusedSimpArgs false
set_option linter.unusedVariables false
open Go.RowKit
theorem take_eq_snoc {α : Type} {xs ys : List α} {k : Nat} (h : xs.take k = ys.take k) (h1 : k < xs.length) (h2 : k < ys.length) (h3 : xs[k] = ys[k]) : xs.take (k + 1) = ys.take (k + 1) := by
  rw [List.take_succ_eq_append_getElem h1, List.take_succ_eq_append_getElem h2, h, h3]
set_option maxHeartbeats 400000 in
theorem equalInts (A B : Option Addr) (xs ys : List Int) (c d : Nat) (w : World) (ha : Ints w A xs) (hb : Ints w B ys) :
    Calls Tryd.prog 67 #[.slice A xs.length c, .slice B ys.length d] w fun e w' => e = .returned (.bool (decide (xs = ys))) ∧ Qt w w' := by
  have hn := ha.le
  have hm := hb.le
  by_cases hl : xs.length = ys.length
  · have hd : ((xs.length : Int) != ys.length) = false := by simp [hl]
    have HL := Lib.hid hl
    clear hl
    go_enter Tryd.func67, Tryd.ntmps67
    go_wp2
    go_loopw [13] (fun i wr => ∃ k q : Nat, k ≤ xs.length ∧ i = .int .i64 k ∧ wr = w.drewN q ∧ Hid (xs.take k = ys.take k)) (fun i _ => xs.length - (intOf i).toNat)
    case atStart => exact ⟨0, 0, Nat.zero_le _, rfl, rfl, Lib.hid rfl⟩
    case round =>
      obtain ⟨k, q, hk, rfl, rfl, HT⟩ := hrel
      by_cases hlt : k < xs.length
      · have hlt2 : k < ys.length := by have := HL.out; omega
        obtain ⟨b1, o1, rfl, -, hc⟩ := ha.at_ hlt
        obtain ⟨b2, o2, rfl, -, hc2⟩ := hb.at_ hlt2
        go_wp2
        go_quiet (fail)
        go_wp2
        · have hne : ¬ xs[k] = ys[k] := by simpa using ‹(xs[k] != ys[k]) = true›
          go_ret
          refine ⟨ret_bool (decide_eq_false ?_).symm, (Qt.drewN _ _).step _⟩
          rintro rfl
          exact hne rfl
        · have he : xs[k] = ys[k] := by simpa using ‹(xs[k] != ys[k]) = false›
          go_roundw
          case rel => exact ⟨k + 1, _, by omega, by go_num, rfl, Lib.hid (take_eq_snoc HT.out hlt hlt2 he)⟩
          case measure => simp [intOf]; omega
      · have hk' : k = xs.length := by omega
        have hfin : xs = ys := by
          have := HT.out
          rwa [hk', List.take_of_length_le (Nat.le_refl _), List.take_of_length_le (by rw [HL.out]; exact Nat.le_refl _)] at this
        clear hk'
        have HF := Lib.hid hfin
        clear hfin
        go_wp2
        go_ret
        exact ⟨ret_bool (decide_eq_true HF.out).symm, Qt.drewN _ _⟩
  · have hd : ((xs.length : Int) != ys.length) = true := by simp; omega
    have hf : ¬ xs = ys := by
      rintro rfl
      exact hl rfl
    have HF := Lib.hid hf
    clear hl hf
    go_enter Tryd.func67, Tryd.ntmps67
    go_wp2
    go_ret
    exact ⟨ret_bool (decide_eq_false HF.out).symm, Qt.refl _⟩
end Go.Proofs.YtojnnfihpiegoaaDoor
namespace Go.Proofs.YtojnnfihpiegoaaDoor
set_option linter.unusedSimpArgs false
set_option linter.unusedVariables false
open Go.RowKit
set_option maxRecDepth 100000
theorem Tryd.stood_pt : Tryd.prog.stoodInHeld 49 = false := by kernel_rfl
theorem Tryd.guard_pt : Tryd.prog.eqGuardType Tryd.prog.depth 49 = false := by kernel_rfl
theorem neq_pt (a b c d : Int) (w : World) : (binOp .neq 49 (.agg #[.int .i64 a, .int .i64 b]) (.agg #[.int .i64 c, .int .i64 d])).run Tryd.prog w = .ok (.bool (ptNe a b c d)) w := by
  have h1 := Tryd.stood_pt
  simp [go_sem, h1]
  unfold ptNe
  by_cases h2 : a = c <;> by_cases h3 : b = d <;> simp [h2, h3]
theorem eql_pt (a b c d : Int) (w : World) : (binOp .eql 49 (.agg #[.int .i64 a, .int .i64 b]) (.agg #[.int .i64 c, .int .i64 d])).run Tryd.prog w = .ok (.bool (ptEq a b c d)) w := by
  have h1 := Tryd.stood_pt
  simp [go_sem, h1]
  unfold ptEq
  by_cases h2 : a = c <;> by_cases h3 : b = d <;> simp [h2, h3]
set_option maxHeartbeats 400000 in
theorem equalPts (A B : Option Addr) (xs ys : List (Int × Int)) (c d : Nat) (w : World) (ha : Pts w A xs) (hb : Pts w B ys) :
    Calls Tryd.prog 64 #[.slice A xs.length c, .slice B ys.length d] w fun e w' => e = .returned (.bool (decide (xs = ys))) ∧ Qt w w' := by
  have hn := ha.le
  have hm := hb.le
  by_cases hl : xs.length = ys.length
  · have hd : ((xs.length : Int) != ys.length) = false := by simp [hl]
    have HL := Lib.hid hl
    clear hl
    go_enter Tryd.func64, Tryd.ntmps64
    go_wp2
    go_loopw [13] (fun i wr => ∃ k q : Nat, k ≤ xs.length ∧ i = .int .i64 k ∧ wr = w.drewN q ∧ Hid (xs.take k = ys.take k)) (fun i _ => xs.length - (intOf i).toNat)
    case atStart => exact ⟨0, 0, Nat.zero_le _, rfl, rfl, Lib.hid rfl⟩
    case round =>
      obtain ⟨k, q, hk, rfl, rfl, HT⟩ := hrel
      by_cases hlt : k < xs.length
      · have hlt2 : k < ys.length := by have := HL.out; omega
        obtain ⟨b1, o1, rfl, -, hc, hc'⟩ := ha.at_ hlt
        obtain ⟨b2, o2, rfl, -, hc2, hc2'⟩ := hb.at_ hlt2
        go_wp2
        have hst := Tryd.stood_pt
        have heg := Tryd.guard_pt
        have hnq := neq_pt
        go_quiet (fail)
        go_wp2
        · have hne : ¬ xs[k] = ys[k] := ptNe_true ‹_›
          go_ret
          refine ⟨ret_bool (decide_eq_false ?_).symm, (Qt.drewN _ _).step _⟩
          rintro rfl
          exact hne rfl
        · have he : xs[k] = ys[k] := ptNe_false ‹_›
          go_roundw
          case rel => exact ⟨k + 1, _, by omega, by go_num, rfl, Lib.hid (take_eq_snoc HT.out hlt hlt2 he)⟩
          case measure => simp [intOf]; omega
      · have hk' : k = xs.length := by omega
        have hfin : xs = ys := by
          have := HT.out
          rwa [hk', List.take_of_length_le (Nat.le_refl _), List.take_of_length_le (by rw [HL.out]; exact Nat.le_refl _)] at this
        clear hk'
        have HF := Lib.hid hfin
        clear hfin
        go_wp2
        go_ret
        exact ⟨ret_bool (decide_eq_true HF.out).symm, Qt.drewN _ _⟩
  · have hd : ((xs.length : Int) != ys.length) = true := by simp; omega
    have hf : ¬ xs = ys := by
      rintro rfl
      exact hl rfl
    have HF := Lib.hid hf
    clear hl hf
    go_enter Tryd.func64, Tryd.ntmps64
    go_wp2
    go_ret
    exact ⟨ret_bool (decide_eq_false HF.out).symm, Qt.refl _⟩
end Go.Proofs.YtojnnfihpiegoaaDoor
namespace Go.Proofs.YtojnnfihpiegoaaDoor
open Go.RowKit
set_option maxRecDepth 100000
set_option linter.unusedVariables false
set_option linter.unusedSimpArgs false

set_option maxHeartbeats 1000000 in
theorem hsame_any (A B : Option Addr) (c d : Nat) (xs ys : List (Int × Int)) (w : World) (ha : Pts w A xs) (hb : Pts w B ys) :
    Calls Tryd.prog 36 #[.slice A xs.length c, .slice B ys.length d] w fun e w' => e = .returned (.bool (decide (xs = ys))) ∧ Below w.heap.size w w' := by
  have HC := Lib.hid (equalPts A B xs ys c d w ha hb)
  obtain ⟨q, hq⟩ : ∃ q, q = decide (xs = ys) := ⟨_, rfl⟩
  rw [← hq] at HC ⊢
  clear ha hb hq
  go_enter Tryd.func36, Tryd.ntmps36
  go_wp2_with (go_at_call 64; refine HC.out.mono ?_)
  rintro e w1 ⟨rfl, hq⟩
  have HQ := Lib.hid (hq.below w.heap.size)
  clear hq
  go_wp2
  go_ret
  exact ⟨rfl, HQ.out⟩
set_option maxHeartbeats 2000000 in
theorem nsame_any (l1 l2 : Int) (A B : Option Addr) (c d : Nat) (xs ys : List Int) (w : World) (ha : Ints w A xs) (hb : Ints w B ys) :
    Calls Tryd.prog 66 #[.agg #[.int .i64 l1, .slice A xs.length c], .agg #[.int .i64 l2, .slice B ys.length d]] w fun e w' => e = .returned (.bool (decide ((l1, xs) = (l2, ys)))) ∧ Below w.heap.size w w' := by
  obtain ⟨w1, hw1⟩ : ∃ w1, w1 = w.alloc (.cells #[.int .i64 l1, .slice A xs.length c] 53) := ⟨_, rfl⟩
  obtain ⟨w0, hw0⟩ : ∃ w0, w0 = w1.alloc (.cells #[.int .i64 l2, .slice B ys.length d] 53) := ⟨_, rfl⟩
  have b1 : Below w.heap.size w w1 := by rw [hw1]; exact below_new _ _
  have b2 : Below w1.heap.size w1 w0 := by rw [hw0]; exact below_new _ _
  have z1 : w1.heap.size = w.heap.size + 1 := by rw [hw1]; simp
  have p1 : Blk w1 w.heap.size 53 #[.int .i64 l1, .slice A xs.length c] := by rw [hw1]; exact Blk.new _ _ _
  have p2 : Blk w0 w1.heap.size 53 #[.int .i64 l2, .slice B ys.length d] := by rw [hw0]; exact Blk.new _ _ _
  have p1' := p1.below b2 p1.lt
  rw [z1] at p2
  have hb0 := b1.trans (b2.mono b1.size)
  rw [hw1] at hw0
  have HW := Lib.hid hw0
  have HC := Lib.hid (equalInts A B xs ys c d w0 (ha.ext hb0) (hb.ext hb0))
  have HB := Lib.hid hb0
  have c0 := p1'.cell_ 0 (.int .i64 l1) rfl
  have c1 := p1'.cell_ 1 (.slice A xs.length c) rfl
  have d0 := p2.cell_ 0 (.int .i64 l2) rfl
  have d1 := p2.cell_ 1 (.slice B ys.length d) rfl
  clear hw1 hw0 b1 b2 z1 p1 p2 p1' hb0 ha hb
  by_cases hl : l1 = l2
  · have e1 : (l1 == l2) = true := by simp [hl]
    have HE : Hid (decide ((l1, xs) = (l2, ys)) = decide (xs = ys)) := Lib.hid (by subst hl; simp)
    rw [HE.out]
    obtain ⟨q, hq⟩ : ∃ q, q = decide (xs = ys) := ⟨_, rfl⟩
    rw [← hq] at HC ⊢
    clear hl hq HE
    go_enter Tryd.func66, Tryd.ntmps66
    go_upto_region 1 with fail
    rw [← HW.out]
    go_wp2_with (go_at_call 67; refine HC.out.mono ?_)
    rintro e w2 ⟨rfl, hq⟩
    have HQ := Lib.hid (HB.out.trans ((hq.below w0.heap.size).mono HB.out.size))
    clear hq
    go_wp2
    go_ret
    exact ⟨rfl, HQ.out⟩
  · have e1 : (l1 == l2) = false := by simpa using hl
    have HE : Hid (decide ((l1, xs) = (l2, ys)) = false) := Lib.hid (decide_eq_false (fun h => hl (congrArg Prod.fst h)))
    clear hl
    go_enter Tryd.func66, Tryd.ntmps66
    go_upto_region 1 with fail
    rw [← HW.out]
    go_wp2
    go_ret
    exact ⟨by rw [HE.out] <;> rfl, HB.out⟩
theorem nd_take {hs ks : List Hd} {k : Nat} (h1 : k < hs.length) (h2 : k < ks.length) (h : (hs.take k).map Hd.nd = (ks.take k).map Hd.nd) (h3 : hs[k].nd = ks[k].nd) : (hs.take (k + 1)).map Hd.nd = (ks.take (k + 1)).map Hd.nd := by
  rw [List.take_succ_eq_append_getElem h1, List.take_succ_eq_append_getElem h2, List.map_append, List.map_append, h]
  simp [h3]
set_option maxHeartbeats 4000000 in
theorem eqf_any (A B : Option Addr) (c d : Nat) (hs ks : List Hd) (w : World) (ha : Nds w A hs) (hb : Nds w B ks) :
    Calls Tryd.prog 65 #[.slice A hs.length c, .slice B ks.length d, .func (.func 66) #[] #[]] w
      fun e w' => e = .returned (.bool (decide (hs.map Hd.nd = ks.map Hd.nd))) ∧ Below w.heap.size w w' := by
  have hn := ha.le
  have hm := hb.le
  by_cases hl : hs.length = ks.length
  · have d1 : ((hs.length : Int) != ks.length) = false := by simp [hl]
    have HL := Lib.hid hl
    have HA := Lib.hid ha
    have HBk := Lib.hid hb
    have HN := Lib.hid hn
    clear hl ha hb
    go_enter Tryd.func65, Tryd.ntmps65
    go_wp2
    clear d1
    go_loopw [17] (fun i wr => ∃ k : Nat, k ≤ hs.length ∧ i = .int .i64 k ∧ Hid (Below w.heap.size w wr) ∧ Hid ((hs.take k).map Hd.nd = (ks.take k).map Hd.nd)) (fun i _ => hs.length - (intOf i).toNat)
    case atStart => exact ⟨0, Nat.zero_le _, rfl, Lib.hid (Below.refl _ _), Lib.hid rfl⟩
    case round =>
      obtain ⟨k, hk, rfl, HB, HT⟩ := hrel
      by_cases hlt : k < hs.length
      · have hlt2 : k < ks.length := by have := HL.out; omega
        obtain ⟨b1, o1, e1, hb1, x0, x1, xi⟩ := (HA.out.ext HB.out).at_ hlt
        obtain ⟨b2, o2, e2, hb2, y0, y1, yi⟩ := (HBk.out.ext HB.out).at_ hlt2
        have HTK := Lib.hid (fun h3 => nd_take hlt hlt2 HT.out h3)
        have HNE : Hid (hs[k].nd ≠ ks[k].nd → hs.map Hd.nd ≠ ks.map Hd.nd) := Lib.hid (fun h1 h2 => h1 (by
          have h3 := congrArg (fun l => l[k]?) h2
          simp only [List.getElem?_map, List.getElem?_eq_getElem hlt, List.getElem?_eq_getElem hlt2, Option.map_some, Option.some.injEq] at h3
          exact h3))
        obtain ⟨p, hp⟩ : ∃ p, p = hs[k] := ⟨_, rfl⟩
        obtain ⟨q, hq⟩ : ∃ q, q = ks[k] := ⟨_, rfl⟩
        rw [← hp] at x0 x1 xi HTK HNE
        rw [← hq] at y0 y1 yi HTK HNE
        obtain ⟨l1, A1, c1, z1⟩ := p
        obtain ⟨l2, A2, c2, z2⟩ := q
        dsimp only at x0 x1 xi y0 y1 yi
        have hw1 : wrap64 ((k : Int) + 1) = (k : Int) + 1 := by have := HN.out; unfold wrap64; omega
        obtain ⟨v1, hv1⟩ : ∃ v1, v1 = wr.alloc (.cells #[.int .i64 l1, .slice A1 z1.length c1] 53) := ⟨_, rfl⟩
        have q1 : Below wr.heap.size wr v1 := by rw [hv1]; exact below_new _ _
        have r1 : Blk v1 wr.heap.size 53 #[.int .i64 l1, .slice A1 z1.length c1] := by rw [hv1]; exact Blk.new _ _ _
        have s1 : v1.heap.size = wr.heap.size + 1 := by rw [hv1]; simp
        have y0' : v1.cell? ⟨b2, o2 + k * 2, none⟩ = some (.int .i64 l2) := (q1.cell (p := ⟨b2, o2 + k * 2, none⟩) hb2).trans y0
        have y1' : v1.cell? ⟨b2, o2 + k * 2 + 1, none⟩ = some (.slice A2 z2.length c2) := (q1.cell (p := ⟨b2, o2 + k * 2 + 1, none⟩) hb2).trans y1
        obtain ⟨v2, hv2⟩ : ∃ v2, v2 = v1.alloc (.cells #[.int .i64 l2, .slice A2 z2.length c2] 53) := ⟨_, rfl⟩
        have q2 : Below v1.heap.size v1 v2 := by rw [hv2]; exact below_new _ _
        have r2 : Blk v2 v1.heap.size 53 #[.int .i64 l2, .slice A2 z2.length c2] := by rw [hv2]; exact Blk.new _ _ _
        have r1' := r1.below q2 r1.lt
        have q12 := q1.trans (q2.mono q1.size)
        have g0 := r1'.cell_ 0 (.int .i64 l1) rfl
        have g1 := r1'.cell_ 1 (.slice A1 z1.length c1) rfl
        have i0 := r2.cell_ 0 (.int .i64 l2) rfl
        have i1 := r2.cell_ 1 (.slice A2 z2.length c2) rfl
        have HC := Lib.hid (nsame_any l1 l2 A1 A2 c1 c2 z1 z2 v2 (xi.ext q12) (yi.ext q12))
        have HB2 := Lib.hid (HB.out.trans (q12.mono HB.out.size))
        have HV1 := Lib.hid hv1
        have HV2 := Lib.hid hv2
        have hltk := hlt2
        subst e1 e2
        clear hp hq hv1 hv2 q1 q2 q12 r1 r1' r2 s1 xi yi hb1 hb2 hk
        go_upto_region 6 with fail
        rw [← HV1.out]
        go_upto_region 7 with fail
        rw [← HV2.out]
        by_cases he : (l1, z1) = (l2, z2)
        · have hde : decide ((l1, z1) = (l2, z2)) = true := decide_eq_true he
          rw [hde] at HC
          have HT2 := Lib.hid (HTK.out he)
          clear hde he
          go_wp2_with (go_at_call 66; refine HC.out.mono ?_)
          rintro e w9 ⟨rfl, hb9⟩
          have HB9 := Lib.hid (HB2.out.trans (hb9.mono HB2.out.size))
          clear hb9
          go_wp2
          go_roundw
          case rel => exact ⟨k + 1, hlt, rfl, HB9, HT2⟩
          case measure => simp [intOf]; omega
        · have hde : decide ((l1, z1) = (l2, z2)) = false := decide_eq_false he
          rw [hde] at HC
          have HF : Hid (decide (hs.map Hd.nd = ks.map Hd.nd) = false) := Lib.hid (decide_eq_false (HNE.out he))
          clear hde he
          go_wp2_with (go_at_call 66; refine HC.out.mono ?_)
          rintro e w9 ⟨rfl, hb9⟩
          have HB9 := Lib.hid (HB2.out.trans (hb9.mono HB2.out.size))
          clear hb9
          go_wp2
          go_ret
          exact ⟨by rw [HF.out] <;> rfl, HB9.out⟩
      · have HF : Hid (decide (hs.map Hd.nd = ks.map Hd.nd) = true) := Lib.hid (decide_eq_true (by
          have h := HT.out
          have hl := HL.out
          rw [List.take_of_length_le (by omega), List.take_of_length_le (by omega)] at h
          exact h))
        go_wp2
        go_ret
        exact ⟨by rw [HF.out] <;> rfl, HB.out⟩
  · have d1 : ((hs.length : Int) != ks.length) = true := by simp; omega
    have HF : Hid (decide (hs.map Hd.nd = ks.map Hd.nd) = false) := Lib.hid (decide_eq_false (fun h => hl (by have := congrArg List.length h; simpa using this)))
    clear hl ha hb
    go_enter Tryd.func65, Tryd.ntmps65
    go_wp2
    go_ret
    exact ⟨by rw [HF.out] <;> rfl, Below.refl _ _⟩
/-- two trees as values are the same tree -/
def sameP (a b : PT) : Bool := decide (a.st = b.st) && decide (a.ps = b.ps) && decide (a.ns = b.ns)
set_option maxHeartbeats 4000000 in
theorem tsame_any (s1 s2 : Int) (A1 : Option Addr) (c1 : Nat) (p1 : List (Int × Int)) (B1 : Option Addr) (d1 : Nat) (h1 : List Hd) (A2 : Option Addr) (c2 : Nat) (p2 : List (Int × Int)) (B2 : Option Addr) (d2 : Nat) (h2 : List Hd) (w : World)
    (hp1 : Pts w A1 p1) (hn1 : Nds w B1 h1) (hp2 : Pts w A2 p2) (hn2 : Nds w B2 h2) :
    Calls Tryd.prog 37 #[.agg #[.int .i64 s1, .slice A1 p1.length c1, .slice B1 h1.length d1], .agg #[.int .i64 s2, .slice A2 p2.length c2, .slice B2 h2.length d2]] w
      fun e w' => e = .returned (.bool (sameP ⟨s1, p1, h1.map Hd.nd⟩ ⟨s2, p2, h2.map Hd.nd⟩)) ∧ Below w.heap.size w w' := by
  obtain ⟨v1, hv1⟩ : ∃ v1, v1 = w.alloc (.cells #[.int .i64 s1, .slice A1 p1.length c1, .slice B1 h1.length d1] 25) := ⟨_, rfl⟩
  obtain ⟨w0, hw0⟩ : ∃ w0, w0 = v1.alloc (.cells #[.int .i64 s2, .slice A2 p2.length c2, .slice B2 h2.length d2] 25) := ⟨_, rfl⟩
  have b1 : Below w.heap.size w v1 := by rw [hv1]; exact below_new _ _
  have b2 : Below v1.heap.size v1 w0 := by rw [hw0]; exact below_new _ _
  have z1 : v1.heap.size = w.heap.size + 1 := by rw [hv1]; simp
  have q1 : Blk v1 w.heap.size 25 #[.int .i64 s1, .slice A1 p1.length c1, .slice B1 h1.length d1] := by rw [hv1]; exact Blk.new _ _ _
  have q2 : Blk w0 v1.heap.size 25 #[.int .i64 s2, .slice A2 p2.length c2, .slice B2 h2.length d2] := by rw [hw0]; exact Blk.new _ _ _
  have q1' := q1.below b2 q1.lt
  rw [z1] at q2
  have hb0 := b1.trans (b2.mono b1.size)
  rw [hv1] at hw0
  have HW := Lib.hid hw0
  have HB := Lib.hid hb0
  have HC1 := Lib.hid (fun W (hb : Below w0.heap.size w0 W) => hsame_any A1 A2 c1 c2 p1 p2 W ((hp1.ext hb0).ext hb) ((hp2.ext hb0).ext hb))
  have HC2 := Lib.hid (fun W (hb : Below w0.heap.size w0 W) => eqf_any B1 B2 d1 d2 h1 h2 W ((hn1.ext hb0).ext hb) ((hn2.ext hb0).ext hb))
  have HQ1 := Lib.hid q1'
  have HQ2 := Lib.hid q2
  have x0 := q1'.cell_ 0 (.int .i64 s1) rfl
  have x1 := q1'.cell_ 1 (.slice A1 p1.length c1) rfl
  have x2 := q1'.cell_ 2 (.slice B1 h1.length d1) rfl
  have y0 := q2.cell_ 0 (.int .i64 s2) rfl
  have y1 := q2.cell_ 1 (.slice A2 p2.length c2) rfl
  have y2 := q2.cell_ 2 (.slice B2 h2.length d2) rfl
  clear hv1 hw0 b1 b2 z1 q1 q2 q1' hb0 hp1 hp2 hn1 hn2
  unfold sameP
  dsimp only
  by_cases hs : s1 = s2
  · have e1 : (s1 == s2) = true := by simp [hs]
    rw [decide_eq_true hs, Bool.true_and]
    clear hs
    by_cases hp : p1 = p2
    · rw [decide_eq_true hp, Bool.true_and]
      have hC := HC1.out w0 (Below.refl _ _)
      rw [decide_eq_true hp] at hC
      have HC := Lib.hid hC
      obtain ⟨q, hq⟩ : ∃ q, q = decide (h1.map Hd.nd = h2.map Hd.nd) := ⟨_, rfl⟩
      rw [← hq] at HC2 ⊢
      clear hC hp hq HC1
      go_enter Tryd.func37, Tryd.ntmps37
      go_upto_region 1 with fail
      rw [← HW.out]
      go_wp2_with (go_at_call 36; refine HC.out.mono ?_)
      rintro e w1 ⟨rfl, hb⟩
      have r1 := HQ1.out.below hb HQ1.out.lt
      have r2 := HQ2.out.below hb HQ2.out.lt
      have x2' := r1.cell_ 2 (.slice B1 h1.length d1) rfl
      have y2' := r2.cell_ 2 (.slice B2 h2.length d2) rfl
      have HCC := Lib.hid (HC2.out w1 hb)
      have HB1 := Lib.hid (HB.out.trans (hb.mono HB.out.size))
      clear r1 r2 hb x0 x1 x2 y0 y1 y2
      go_wp2_with (go_at_call 65; refine HCC.out.mono ?_)
      rintro e w2 ⟨rfl, hb⟩
      have HB2 := Lib.hid (HB1.out.trans (hb.mono HB1.out.size))
      clear hb
      go_wp2
      go_ret
      exact ⟨rfl, HB2.out⟩
    · rw [decide_eq_false hp, Bool.false_and]
      have hC := HC1.out w0 (Below.refl _ _)
      rw [decide_eq_false hp] at hC
      have HC := Lib.hid hC
      clear hC hp HC1 HC2
      go_enter Tryd.func37, Tryd.ntmps37
      go_upto_region 1 with fail
      rw [← HW.out]
      go_wp2_with (go_at_call 36; refine HC.out.mono ?_)
      rintro e w1 ⟨rfl, hb⟩
      have HB1 := Lib.hid (HB.out.trans (hb.mono HB.out.size))
      clear hb
      go_wp2
      go_ret
      exact ⟨rfl, HB1.out⟩
  · have e1 : (s1 == s2) = false := by simpa using hs
    rw [decide_eq_false hs, Bool.false_and, Bool.false_and]
    clear hs HC1 HC2
    go_enter Tryd.func37, Tryd.ntmps37
    go_upto_region 1 with fail
    rw [← HW.out]
    go_wp2
    go_ret
    exact ⟨rfl, HB.out⟩
end Go.Proofs.YtojnnfihpiegoaaDoor
namespace Go.Proofs.YtojnnfihpiegoaaDoor
set_option linter.unusedSimpArgs false
set_option linter.unusedVariables false
open Go.RowKit
set_option maxRecDepth 100000
set_option maxHeartbeats 1000000 in
theorem rsame_any (A B : Option Addr) (xs ys : List Int) (c d : Nat) (w : World) (ha : Ints w A xs) (hb : Ints w B ys) :
    Calls Tryd.prog 72 #[.slice A xs.length c, .slice B ys.length d] w fun e w' => e = .returned (.bool (decide (xs = ys))) ∧ Qt w w' := by
  have hn := ha.le
  have hm := hb.le
  by_cases hl : xs.length = ys.length
  · have hd : ((xs.length : Int) != ys.length) = false := by simp [hl]
    have HL := Lib.hid hl
    clear hl
    go_enter Tryd.func72, Tryd.ntmps72
    go_wp2
    go_loopw [5] (fun i wr => ∃ k q : Nat, k ≤ xs.length ∧ i = .int .i64 k ∧ wr = w.drewN q ∧ Hid (xs.take k = ys.take k)) (fun i _ => xs.length - (intOf i).toNat)
    case atStart => exact ⟨0, 0, Nat.zero_le _, rfl, rfl, Lib.hid rfl⟩
    case round =>
      obtain ⟨k, q, hk, rfl, rfl, HT⟩ := hrel
      by_cases hlt : k < xs.length
      · have hlt2 : k < ys.length := by have := HL.out; omega
        obtain ⟨b1, o1, rfl, -, hc⟩ := ha.at_ hlt
        obtain ⟨b2, o2, rfl, -, hc2⟩ := hb.at_ hlt2
        go_wp2
        go_quiet (fail)
        go_wp2
        · have hne : ¬ xs[k] = ys[k] := by simpa using ‹(xs[k] != ys[k]) = true›
          go_ret
          refine ⟨ret_bool (decide_eq_false ?_).symm, (Qt.drewN _ _).step _⟩
          rintro rfl
          exact hne rfl
        · have he : xs[k] = ys[k] := by simpa using ‹(xs[k] != ys[k]) = false›
          go_roundw
          case rel => exact ⟨k + 1, _, by omega, by go_num, rfl, Lib.hid (take_eq_snoc HT.out hlt hlt2 he)⟩
          case measure => simp [intOf]; omega
      · have hk' : k = xs.length := by omega
        have hfin : xs = ys := by
          have := HT.out
          rwa [hk', List.take_of_length_le (Nat.le_refl _), List.take_of_length_le (by rw [HL.out]; exact Nat.le_refl _)] at this
        clear hk'
        have HF := Lib.hid hfin
        clear hfin
        go_wp2
        go_ret
        exact ⟨ret_bool (decide_eq_true HF.out).symm, Qt.drewN _ _⟩
  · have hd : ((xs.length : Int) != ys.length) = true := by simp; omega
    have hf : ¬ xs = ys := by
      rintro rfl
      exact hl rfl
    have HF := Lib.hid hf
    clear hl hf
    go_enter Tryd.func72, Tryd.ntmps72
    go_wp2
    go_ret
    exact ⟨ret_bool (decide_eq_false HF.out).symm, Qt.refl _⟩
end Go.Proofs.YtojnnfihpiegoaaDoor
namespace Go.Proofs.YtojnnfihpiegoaaDoor
open Go.RowKit
set_option maxRecDepth 100000
set_option linter.unusedVariables false
set_option linter.unusedSimpArgs false

theorem bef_ord (x' y' x y : Int) : (decide (y' < y) || (y' == y && decide (x' < x))) = decide (ordP x' y' x y < 0) := by
  unfold ordP Lib.compareInt
  by_cases h1 : y' < y
  · simp [h1]
  · by_cases h2 : y' = y
    · subst h2
      by_cases h3 : x' < x
      · simp [h3]
      · by_cases h4 : x' > x
        · simp [h3, h4]
        · simp [h3, h4]
    · have h3 : y' > y := by omega
      have h4 : ¬ y' < y := h1
      simp [h1, h2, h3]
set_option maxHeartbeats 1000000 in
theorem rbefore_any (x' y' x y : Int) (w : World) : Calls Tryd.prog 77 #[ptV x' y', ptV x y] w fun e w' => e = .returned (.bool (decide (ordP x' y' x y < 0))) ∧ Below w.heap.size w w' := by
  rw [← bef_ord]
  unfold ptV
  by_cases h1 : y' < y
  · have d1 : decide (y' < y) = true := decide_eq_true h1
    rw [d1, Bool.true_or]
    clear h1
    go_enter Tryd.func77, Tryd.ntmps77
    go_wp2
    go_ret
    exact ⟨rfl, (below_new w _).alloc (below_new w _).size _⟩
  · have d1 : decide (y' < y) = false := decide_eq_false h1
    rw [d1, Bool.false_or]
    by_cases h2 : y' = y
    · have e2 : (y' == y) = true := by simp [h2]
      rw [e2, Bool.true_and]
      clear h1 h2
      go_enter Tryd.func77, Tryd.ntmps77
      go_wp2
      go_ret
      exact ⟨rfl, (below_new w _).alloc (below_new w _).size _⟩
    · have e2 : (y' == y) = false := by simpa using h2
      rw [e2, Bool.false_and]
      clear h1 h2
      go_enter Tryd.func77, Tryd.ntmps77
      go_wp2
      go_ret
      exact ⟨rfl, (below_new w _).alloc (below_new w _).size _⟩
set_option maxHeartbeats 16000000 in
theorem rhood_any (A : Option Addr) (c : Nat) (ps : List (Int × Int)) (w : World) (ha : Pts w A ps) :
    Calls Tryd.prog 55 #[.slice A ps.length c] w fun e w' => e = .returned (.bool (hoodB ps)) ∧ Below w.heap.size w w' := by
  have hn := ha.le
  by_cases h1 : ps.length < 1
  · have d1 : decide ((ps.length : Int) < 1) = true := decide_eq_true (by omega)
    have HE : Hid (hoodB ps = false) := Lib.hid (by unfold hoodB; rw [decide_eq_false (by omega : ¬ 1 ≤ ps.length)]; rfl)
    clear h1
    go_enter Tryd.func55, Tryd.ntmps55
    go_wp2
    go_ret
    exact ⟨ret_bool (by rw [HE.out] <;> rfl), Below.refl _ _⟩
  have d1 : decide ((ps.length : Int) < 1) = false := decide_eq_false (by omega)
  by_cases h2 : 25 < ps.length
  · have d2 : decide ((25 : Int) < (ps.length : Int)) = true := decide_eq_true (by omega)
    have HE : Hid (hoodB ps = false) := Lib.hid (by unfold hoodB; rw [decide_eq_false (by omega : ¬ ps.length ≤ 25), Bool.and_false]; rfl)
    clear h1 h2
    go_enter Tryd.func55, Tryd.ntmps55
    go_wp2
    go_ret
    exact ⟨ret_bool (by rw [HE.out] <;> rfl), Below.refl _ _⟩
  have d2 : decide ((25 : Int) < (ps.length : Int)) = false := decide_eq_false (by omega)
  have HL := Lib.hid (show 1 ≤ ps.length ∧ ps.length ≤ 25 by omega)
  have HE : Hid (hoodB ps = chainH none ps) := Lib.hid (by unfold hoodB; rw [decide_eq_true HL.out.1, decide_eq_true HL.out.2]; rfl)
  have HA := Lib.hid ha
  clear h1 h2 ha
  go_enter Tryd.func55, Tryd.ntmps55
  go_wp2
  go_loopw [3] (fun i wr => ∃ k : Nat, k ≤ ps.length ∧ i = .int .i64 k ∧ Hid (Below w.heap.size w wr) ∧ Hid (chainH none ps = chainH (prevH ps k) (ps.drop k))) (fun i _ => ps.length - (intOf i).toNat)
  case atStart => exact ⟨0, Nat.zero_le _, rfl, Lib.hid (Below.refl _ _), Lib.hid rfl⟩
  case round =>
    obtain ⟨k, hk, rfl, HB, HT⟩ := hrel
    by_cases hlt : k < ps.length
    · obtain ⟨b1, o1, e1, hb1, hc0, hc1⟩ := (HA.out.ext HB.out).at_ hlt
      have hpre : 0 < k → wr.cell? ⟨b1, o1 + (k - 1) * 2, none⟩ = some (.int .i64 (ps[k - 1]'(by omega)).1) ∧ wr.cell? ⟨b1, o1 + (k - 1) * 2 + 1, none⟩ = some (.int .i64 (ps[k - 1]'(by omega)).2) := fun h => by
        obtain ⟨b1', o1', e1', -, h0, h1⟩ := (HA.out.ext HB.out).at_ (k := k - 1) (by omega)
        rw [e1] at e1'
        injection e1' with e1'
        injection e1' with e2 e3
        subst e2 e3
        exact ⟨h0, h1⟩
      obtain ⟨cx, hcx⟩ : ∃ cx, cx = ps[k] := ⟨_, rfl⟩
      rw [← hcx] at hc0 hc1
      have HCX := Lib.hid hcx
      have HPRE := Lib.hid hpre
      have HLT := Lib.hid hlt
      obtain ⟨x, y⟩ := cx
      dsimp only at hc0 hc1
      have hw1 : wrap64 ((k : Int) + 1) = (k : Int) + 1 := by have := HL.out; unfold wrap64; omega
      obtain ⟨wb, hwb⟩ : ∃ wb, wb = wr.alloc (.cells #[.int .i64 x, .int .i64 y] 49) := ⟨_, rfl⟩
      have hnb := below_new wr (.cells #[.int .i64 x, .int .i64 y] 49)
      have p0 := Blk.new wr 49 #[.int .i64 x, .int .i64 y]
      rw [← hwb] at hnb p0
      have P0 := cell_regrown (p0.cell_ 0 (.int .i64 x) rfl)
      have P1 := cell_regrown (p0.cell_ 1 (.int .i64 y) rfl)
      have HB2 := Lib.hid (HB.out.trans (hnb.mono HB.out.size))
      have HW := Lib.hid hwb
      have HNB := Lib.hid hnb
      clear hcx hpre p0 hnb hwb hk
      by_cases a1 : x < -2
      · have e1d : decide (x < -2) = true := decide_eq_true a1
        have HF : Hid (chainH none ps = false) := Lib.hid (by rw [HT.out]; exact chainH_no HLT.out (by rw [← HCX.out]; unfold okH rngB; dsimp only; rw [decide_eq_false (by omega : ¬ -2 ≤ x)] <;> rfl))
        subst e1
        go_upto_region 7 with fail
        rw [← HW.out]
        refine wp_region_quiet_below (by kernel_rfl) (by kernel_rfl) ?_
        repeat (go_big_quiet_step (fail))
        refine wpQuiet_nil ?_
        intro _ hw'
        obtain ⟨⟨dq, osq⟩, hw''⟩ := hw'
        subst hw''
        go_wp2
        go_ret
        exact ⟨ret_bool (by rw [HE.out, HF.out] <;> rfl), HB2.out.trans ((below_regrown wb dq osq).mono HB2.out.size)⟩
      have f1 : decide (x < -2) = false := decide_eq_false a1
      by_cases a2 : 2 < x
      · have e2d : decide (2 < x) = true := decide_eq_true a2
        have HF : Hid (chainH none ps = false) := Lib.hid (by rw [HT.out]; exact chainH_no HLT.out (by rw [← HCX.out]; unfold okH rngB; dsimp only; rw [decide_eq_false (by omega : ¬ x ≤ 2)]; simp))
        subst e1
        go_upto_region 7 with fail
        rw [← HW.out]
        refine wp_region_quiet_below (by kernel_rfl) (by kernel_rfl) ?_
        repeat (go_big_quiet_step (fail))
        refine wpQuiet_nil ?_
        intro _ hw'
        obtain ⟨⟨dq, osq⟩, hw''⟩ := hw'
        subst hw''
        go_wp2
        go_ret
        exact ⟨ret_bool (by rw [HE.out, HF.out] <;> rfl), HB2.out.trans ((below_regrown wb dq osq).mono HB2.out.size)⟩
      have f2 : decide (2 < x) = false := decide_eq_false a2
      by_cases a3 : y < -2
      · have e3d : decide (y < -2) = true := decide_eq_true a3
        have HF : Hid (chainH none ps = false) := Lib.hid (by rw [HT.out]; exact chainH_no HLT.out (by rw [← HCX.out]; unfold okH rngB; dsimp only; rw [decide_eq_false (by omega : ¬ -2 ≤ y)]; simp))
        subst e1
        go_upto_region 7 with fail
        rw [← HW.out]
        refine wp_region_quiet_below (by kernel_rfl) (by kernel_rfl) ?_
        repeat (go_big_quiet_step (fail))
        refine wpQuiet_nil ?_
        intro _ hw'
        obtain ⟨⟨dq, osq⟩, hw''⟩ := hw'
        subst hw''
        go_wp2
        go_ret
        exact ⟨ret_bool (by rw [HE.out, HF.out] <;> rfl), HB2.out.trans ((below_regrown wb dq osq).mono HB2.out.size)⟩
      have f3 : decide (y < -2) = false := decide_eq_false a3
      by_cases a4 : 2 < y
      · have e4d : decide (2 < y) = true := decide_eq_true a4
        have HF : Hid (chainH none ps = false) := Lib.hid (by rw [HT.out]; exact chainH_no HLT.out (by rw [← HCX.out]; unfold okH rngB; dsimp only; rw [decide_eq_false (by omega : ¬ y ≤ 2)]; simp))
        subst e1
        go_upto_region 7 with fail
        rw [← HW.out]
        refine wp_region_quiet_below (by kernel_rfl) (by kernel_rfl) ?_
        repeat (go_big_quiet_step (fail))
        refine wpQuiet_nil ?_
        intro _ hw'
        obtain ⟨⟨dq, osq⟩, hw''⟩ := hw'
        subst hw''
        go_wp2
        go_ret
        exact ⟨ret_bool (by rw [HE.out, HF.out] <;> rfl), HB2.out.trans ((below_regrown wb dq osq).mono HB2.out.size)⟩
      have f4 : decide (2 < y) = false := decide_eq_false a4
      have HR : Hid (rngB (x, y) = true) := Lib.hid (by unfold rngB; dsimp only; rw [decide_eq_true (by omega : -2 ≤ x), decide_eq_true (by omega : x ≤ 2), decide_eq_true (by omega : -2 ≤ y), decide_eq_true (by omega : y ≤ 2)]; rfl)
      by_cases hk0 : 0 < k
      · obtain ⟨k1, rfl⟩ : ∃ k1, k = k1 + 1 := ⟨k - 1, by omega⟩
        obtain ⟨q0, q1⟩ := HPRE.out hk0
        simp only [Nat.add_sub_cancel] at q0 q1
        have hw1' : wrap64 ((k1 : Int) + 1 + 1) = (k1 : Int) + 1 + 1 := by have := HL.out; unfold wrap64; omega
        have hwk : wrap64 ((k1 : Int) + 1 - 1) = k1 := by have := HL.out; unfold wrap64; omega
        have hwk2 : wrap64 (k1 : Int) = k1 := by have := HL.out; unfold wrap64; omega
        have hprev : prevH ps (k1 + 1) = some (ps[k1]'(by omega)) := List.getElem?_eq_getElem (by omega)
        obtain ⟨qx, hqx⟩ : ∃ qx, qx = ps[k1]'(by omega) := ⟨_, rfl⟩
        rw [← hqx] at q0 q1 hprev
        obtain ⟨x', y'⟩ := qx
        dsimp only at q0 q1
        have hk1l : k1 < ps.length := by omega
        have HPV := Lib.hid hprev
        have Q0 := cell_regrown (w := wb) (v := .int .i64 x') (a := ⟨b1, o1 + k1 * 2, none⟩) ((HNB.out.cell hb1).trans q0)
        have Q1 := cell_regrown (w := wb) (v := .int .i64 y') (a := ⟨b1, o1 + k1 * 2 + 1, none⟩) ((HNB.out.cell hb1).trans q1)
        have cC := fun d os => Calls.regrown_of (w := wb) (d := d) (os := os) (rbefore_any x' y' x y _)
        unfold ptV at cC
        have CC := Lib.hid cC
        clear cC q0 q1 hprev hqx hk0 a1 a2 a3 a4
        by_cases hcm : ordP x' y' x y < 0
        · have g2 : decide ((0 : Int) ≤ ordP x' y' x y) = false := decide_eq_false (by omega)
          have HOK : Hid (chainH (prevH ps (k1 + 1)) (ps.drop (k1 + 1)) = chainH (prevH ps (k1 + 1 + 1)) (ps.drop (k1 + 1 + 1))) := Lib.hid (chainH_yes HLT.out (by rw [HPV.out, ← HCX.out]; unfold okH; rw [HR.out]; simpa using hcm))
          simp only [decide_eq_true hcm] at CC
          clear hcm g2
          subst e1
          go_upto_region 7 with fail
          rw [← HW.out]
          refine wp_region_quiet_below (by kernel_rfl) (by kernel_rfl) ?_
          repeat (go_big_quiet_step (with_reducible exact CC.out _ _))
          refine wpQuiet_nil ?_
          intro _ hw'
          obtain ⟨⟨dq, osq⟩, hw''⟩ := hw'
          subst hw''
          go_wp2
          go_roundw
          case rel => exact ⟨k1 + 1 + 1, HLT.out, rfl, Lib.hid (HB2.out.trans ((below_regrown wb dq osq).mono HB2.out.size)), Lib.hid (HT.out.trans HOK.out)⟩
          case measure => have := HLT.out; simp [intOf]; omega
        · have g2 : decide ((0 : Int) ≤ ordP x' y' x y) = true := decide_eq_true (by omega)
          have HF : Hid (chainH none ps = false) := Lib.hid (by rw [HT.out]; exact chainH_no HLT.out (by rw [HPV.out, ← HCX.out]; unfold okH; rw [HR.out]; simpa using hcm))
          simp only [decide_eq_false hcm] at CC
          clear hcm g2
          subst e1
          go_upto_region 7 with fail
          rw [← HW.out]
          refine wp_region_quiet_below (by kernel_rfl) (by kernel_rfl) ?_
          repeat (go_big_quiet_step (with_reducible exact CC.out _ _))
          refine wpQuiet_nil ?_
          intro _ hw'
          obtain ⟨⟨dq, osq⟩, hw''⟩ := hw'
          subst hw''
          go_wp2
          go_ret
          exact ⟨ret_bool (by rw [HE.out, HF.out] <;> rfl), HB2.out.trans ((below_regrown wb dq osq).mono HB2.out.size)⟩
      · obtain rfl : k = 0 := by omega
        have HOK : Hid (chainH (prevH ps 0) (ps.drop 0) = chainH (prevH ps (0 + 1)) (ps.drop (0 + 1))) := Lib.hid (chainH_yes HLT.out (by rw [← HCX.out]; unfold okH; rw [HR.out]; rfl))
        simp only [Nat.zero_mul, Nat.add_zero] at hc0 hc1
        clear a1 a2 a3 a4 hk0
        subst e1
        go_upto_region 7 with fail
        rw [← HW.out]
        refine wp_region_quiet_below (by kernel_rfl) (by kernel_rfl) ?_
        repeat (go_big_quiet_step (fail))
        refine wpQuiet_nil ?_
        intro _ hw'
        obtain ⟨⟨dq, osq⟩, hw''⟩ := hw'
        subst hw''
        go_wp2
        go_roundw
        case rel => exact ⟨0 + 1, HLT.out, rfl, Lib.hid (HB2.out.trans ((below_regrown wb dq osq).mono HB2.out.size)), Lib.hid (HT.out.trans HOK.out)⟩
        case measure => have := HLT.out; simp [intOf]; omega
    · have HF : Hid (chainH none ps = true) := Lib.hid (by
        have h := HT.out
        rw [List.drop_of_length_le (by omega)] at h
        exact h)
      go_wp2
      go_ret
      exact ⟨ret_bool (by rw [HE.out, HF.out] <;> rfl), HB.out⟩
end Go.Proofs.YtojnnfihpiegoaaDoor
