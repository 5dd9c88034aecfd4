/-
  cellularref12.Same. No condition.
  cellularref12.Same over trees; reduce.Equal in terms of the reduced trees. No condition.
  The reduced nodes are those of a valid tree, different, not more; they lead to what the changed nodes lead to. No condition.
  A valid tree whose elements are changed is valid; the memory of a node that is being built. No condition.
  The elements of a changed node, one by one. No condition.
-/
import Derived.BigRegion
import Derived.Test.YtojnnfihpiegoaaDoorZCg
import Derived.Test.YtojnnfihpiegoaaDoorZCi
import Derived.Test.YtojnnfihpiegoaaDoorZCe
import Derived.Deep.DeepCutAuto
import Derived.Deep.DeepFit
import Derived.Deep.CutBlock
namespace Go.Proofs.YtojnnfihpiegoaaDoor
open Go.RowKit
set_option maxRecDepth 100000
set_option linter.unusedVariables false
set_option linter.unusedSimpArgs false

set_option maxHeartbeats 16000000 in
theorem rsamet_any (s1 s2 : Int) (A1 : Option Addr) (c1 : Nat) (p1 : List (Int × Int)) (B1 : Option Addr) (d1 : Nat) (h1 : List Hd) (A2 : Option Addr) (c2 : Nat) (p2 : List (Int × Int)) (B2 : Option Addr) (d2 : Nat) (h2 : List Hd) (w : World)
  (hp1 : Pts w A1 p1) (hn1 : Nds w B1 h1) (hp2 : Pts w A2 p2) (hn2 : Nds w B2 h2) :
  Calls Tryd.prog 11 #[.agg #[.int .i64 s1, .slice A1 p1.length c1, .slice B1 h1.length d1], .agg #[.int .i64 s2, .slice A2 p2.length c2, .slice B2 h2.length d2]] w
   fun e w' => e = .returned (.bool (sameP ⟨s1, p1, h1.map Hd.nd⟩ ⟨s2, p2, h2.map Hd.nd⟩)) ∧ Below w.heap.size w w' := by
 have l1 := hp1.le
 have l2 := hp2.le
 have l3 := hn1.le
 have l4 := hn2.le
 obtain ⟨v1, hv1⟩ : ∃ v1, v1 = w.alloc (.cells #[.int .i64 s1, .slice A1 p1.length c1, .slice B1 h1.length d1] 25) := ⟨_, rfl⟩
 obtain ⟨w0, hw0⟩ : ∃ w0, w0 = v1.alloc (.cells #[.int .i64 s2, .slice A2 p2.length c2, .slice B2 h2.length d2] 25) := ⟨_, rfl⟩
 have b1 : Below w.heap.size w v1 := by rw [hv1]; exact below_new _ _
 have b2 : Below v1.heap.size v1 w0 := by rw [hw0]; exact below_new _ _
 have z1 : v1.heap.size = w.heap.size + 1 := by rw [hv1]; simp
 have q1 : Blk v1 w.heap.size 25 #[.int .i64 s1, .slice A1 p1.length c1, .slice B1 h1.length d1] := by rw [hv1]; exact Blk.new _ _ _
 have q2 : Blk w0 v1.heap.size 25 #[.int .i64 s2, .slice A2 p2.length c2, .slice B2 h2.length d2] := by rw [hw0]; exact Blk.new _ _ _
 have q1' := q1.below b2 q1.lt
 rw [z1] at q2
 have hb0 := b1.trans (b2.mono b1.size)
 rw [hv1] at hw0
 have HW := Lib.hid hw0
 have HB := Lib.hid hb0
 have HP1 := Lib.hid (hp1.ext hb0)
 have HP2 := Lib.hid (hp2.ext hb0)
 have HN1 := Lib.hid (hn1.ext hb0)
 have HN2 := Lib.hid (hn2.ext hb0)
 have HQ1 := Lib.hid q1'
 have HQ2 := Lib.hid q2
 have x0 := q1'.cell_ 0 (.int .i64 s1) rfl
 have x1 := q1'.cell_ 1 (.slice A1 p1.length c1) rfl
 have x2 := q1'.cell_ 2 (.slice B1 h1.length d1) rfl
 have y0 := q2.cell_ 0 (.int .i64 s2) rfl
 have y1 := q2.cell_ 1 (.slice A2 p2.length c2) rfl
 have y2 := q2.cell_ 2 (.slice B2 h2.length d2) rfl
 clear hv1 hw0 b1 b2 z1 q1 q2 q1' hb0 hp1 hp2 hn1 hn2
 by_cases e1 : s1 = s2
 ·have f1 : (s1 != s2) = false := by simp [e1]
  have HE1 := Lib.hid e1
  clear e1
  by_cases e2 : p1.length = p2.length
  ·have f2 : ((p1.length : Int) != (p2.length : Int)) = false := by simp [e2]
   have HE2 := Lib.hid e2
   clear e2
   by_cases e3 : h1.length = h2.length
   ·have f3 : ((h1.length : Int) != (h2.length : Int)) = false := by simp [e3]
    have HE3 := Lib.hid e3
    clear e3
    go_enter Tryd.func11, Tryd.ntmps11
    go_upto_region 1 with fail
    rw [← HW.out]
    go_wp2
    clear f1 f2 f3 x0 y0
    go_loopw [5] (fun i wr => ∃ k q : Nat, k ≤ p1.length ∧ i = .int .i64 k ∧ wr = w0.drewN q ∧ Hid (p1.take k = p2.take k)) (fun i _ => p1.length - (intOf i).toNat)
    case atStart => exact ⟨0, 0, Nat.zero_le _, rfl, rfl, Lib.hid rfl⟩
    case round =>
     obtain ⟨k, q, hk, rfl, rfl, HT⟩ := hrel
     by_cases hlt : k < p1.length
     ·have hlt2 : k < p2.length := by have := HE2.out; omega
      obtain ⟨b1, o1, rfl, -, hc, hc'⟩ := HP1.out.at_ hlt
      obtain ⟨b2, o2, rfl, -, hc2, hc2'⟩ := HP2.out.at_ hlt2
      go_wp2
      have hst := Tryd.stood_pt
      have heg := Tryd.guard_pt
      have hnq := neq_pt
      go_quiet (fail)
      go_wp2
      ·have hne : ¬ p1[k] = p2[k] := ptNe_true ‹_›
       have HF : Hid (sameP ⟨s1, p1, h1.map Hd.nd⟩ ⟨s2, p2, h2.map Hd.nd⟩ = false) := Lib.hid (by
        unfold sameP
        rw [show decide (p1 = p2) = false from decide_eq_false (by rintro rfl; exact hne rfl)]
        simp)
       go_ret
       exact ⟨ret_bool (by rw [HF.out] <;> rfl), below_drewN (below_drewN HB.out _) _⟩
      ·have he : p1[k] = p2[k] := ptNe_false ‹_›
       go_roundw
       case rel => exact ⟨k + 1, _, by omega, by go_num, rfl, Lib.hid (take_eq_snoc HT.out hlt hlt2 he)⟩
       case measure => simp [intOf]; omega
     ·have hk' : k = p1.length := by omega
      have hfin : p1 = p2 := by
       have := HT.out
       rwa [hk', List.take_of_length_le (Nat.le_refl _), List.take_of_length_le (by rw [HE2.out]; exact Nat.le_refl _)] at this
      have HF := Lib.hid hfin
      clear hfin hk'
      go_wp2
      clear x1 y1 x2 y2 hlt hk HT
      obtain ⟨W, hW⟩ : ∃ W, W = w0.drewN q := ⟨_, rfl⟩
      have HBW : Hid (Below w0.heap.size w0 W) := Lib.hid (by rw [hW]; exact below_drewN (Below.refl _ _) _)
      rw [← hW]
      clear hW
      go_loopw [6] (fun i wr => ∃ k : Nat, k ≤ h1.length ∧ i = .int .i64 k ∧ Hid (Below w0.heap.size w0 wr) ∧ Hid ((h1.take k).map Hd.nd = (h2.take k).map Hd.nd)) (fun i _ => h1.length - (intOf i).toNat)
      case atStart => exact ⟨0, Nat.zero_le _, rfl, HBW, Lib.hid rfl⟩
      case round =>
       obtain ⟨k, hk, rfl, HB2, HT⟩ := hrel
       have r1 := HQ1.out.below HB2.out HQ1.out.lt
       have r2 := HQ2.out.below HB2.out HQ2.out.lt
       have x2 := r1.cell_ 2 (.slice B1 h1.length d1) rfl
       have y2 := r2.cell_ 2 (.slice B2 h2.length d2) rfl
       by_cases hlt : k < h1.length
       ·have hlt2 : k < h2.length := by have := HE3.out; omega
        obtain ⟨b1, o1, eb1, hb1, x0, x1, xi⟩ := (HN1.out.ext HB2.out).at_ hlt
        obtain ⟨b2, o2, eb2, hb2, y0, y1, yi⟩ := (HN2.out.ext HB2.out).at_ hlt2
        have HTK := Lib.hid (fun (h3 : h1[k].nd = h2[k].nd) => nd_take hlt hlt2 HT.out h3)
        have HNE : Hid (h1[k].nd ≠ h2[k].nd → sameP ⟨s1, p1, h1.map Hd.nd⟩ ⟨s2, p2, h2.map Hd.nd⟩ = false) := Lib.hid (fun h9 => by
         have : h1.map Hd.nd ≠ h2.map Hd.nd := fun h2' => h9 (by
          have h3 := congrArg (fun l => l[k]?) h2'
          simp only [List.getElem?_map, List.getElem?_eq_getElem hlt, List.getElem?_eq_getElem hlt2, Option.map_some, Option.some.injEq] at h3
          exact h3)
         unfold sameP
         rw [show decide (h1.map Hd.nd = h2.map Hd.nd) = false from decide_eq_false this]
         simp)
        obtain ⟨x, hx⟩ : ∃ x, x = h1[k] := ⟨_, rfl⟩
        obtain ⟨y, hy⟩ : ∃ y, y = h2[k] := ⟨_, rfl⟩
        rw [← hx] at x0 x1 xi HTK HNE
        rw [← hy] at y0 y1 yi HTK HNE
        obtain ⟨lx, xA, xc, xs⟩ := x
        obtain ⟨ly, yA, yc, ys⟩ := y
        dsimp only at x0 x1 xi y0 y1 yi
        have HXI := Lib.hid xi
        have HYI := Lib.hid yi
        subst eb1 eb2
        have hz1 : w.heap.size < wr.heap.size := r1.lt
        have hz2 : w.heap.size + 1 < wr.heap.size := r2.lt
        clear hx hy xi yi hk r1 r2
        go_wp2
        go_region
        ·obtain ⟨u1, hu1⟩ : ∃ u1, u1 = wr.alloc (.cells #[.int .i64 lx, .slice xA xs.length xc] 53) := ⟨_, rfl⟩
         obtain ⟨u2, hu2⟩ : ∃ u2, u2 = u1.alloc (.cells #[.int .i64 ly, .slice yA ys.length yc] 53) := ⟨_, rfl⟩
         have t1 : Below wr.heap.size wr u1 := by rw [hu1]; exact below_new _ _
         have t2 : Below u1.heap.size u1 u2 := by rw [hu2]; exact below_new _ _
         have z1 : u1.heap.size = wr.heap.size + 1 := by rw [hu1]; simp
         have v1 : Blk u1 wr.heap.size 53 #[.int .i64 lx, .slice xA xs.length xc] := by rw [hu1]; exact Blk.new _ _ _
         have v2 : Blk u2 u1.heap.size 53 #[.int .i64 ly, .slice yA ys.length yc] := by rw [hu2]; exact Blk.new _ _ _
         have v1' := v1.below t2 v1.lt
         rw [z1] at v2
         have t3 := t1.trans (t2.mono t1.size)
         rw [hu1] at hu2
         rw [← hu2]
         obtain ⟨u3, hu3⟩ : ∃ u3, u3 = u2.drew := ⟨_, rfl⟩
         rw [← hu3]
         have t3 : Below wr.heap.size wr u3 := by rw [hu3]; exact t3.drew
         have v1' : Blk u3 wr.heap.size 53 #[.int .i64 lx, .slice xA xs.length xc] := by rw [hu3]; exact v1'
         have v2 : Blk u3 (wr.heap.size + 1) 53 #[.int .i64 ly, .slice yA ys.length yc] := by rw [hu3]; exact v2
         have HU := Lib.hid ((HB2.out.trans (t3.mono HB2.out.size)))
         have HXU := Lib.hid (HXI.out.ext t3)
         have HYU := Lib.hid (HYI.out.ext t3)
         have m0 := v1'.cell_ 0 (.int .i64 lx) rfl
         have m1 := v1'.cell_ 1 (.slice xA xs.length xc) rfl
         have n0 := v2.cell_ 0 (.int .i64 ly) rfl
         have n1 := v2.cell_ 1 (.slice yA ys.length yc) rfl
         clear t1 t2 v1 v2 v1' t3 hu1 hu2 hu3 z1 x0 x1 y0 y1 x2 y2 hz1 hz2 hb1 hb2
         by_cases e1 : lx = ly
         ·have f1 : (lx != ly) = false := by simp [e1]
          have HE4 := Lib.hid e1
          clear e1
          by_cases e2 : xs.length = ys.length
          ·have f2 : ((xs.length : Int) != (ys.length : Int)) = false := by simp [e2]
           have HE5 := Lib.hid e2
           have lx1 := HXU.out.le
           have ly1 := HYU.out.le
           clear e2
           have HLT := Lib.hid hlt
           have HL3 := Lib.hid l3
           clear hlt hlt2 l1 l2 l3 l4
           go_wp2
           clear f1 f2
           go_loopw [9] (fun i wi => ∃ m q : Nat, m ≤ xs.length ∧ i = .int .i64 m ∧ wi = u3.drewN q ∧ Hid (xs.take m = ys.take m)) (fun i _ => xs.length - (intOf i).toNat)
           case atStart => exact ⟨0, 0, Nat.zero_le _, rfl, rfl, Lib.hid rfl⟩
           case round =>
            obtain ⟨m, qd, hm, rfl, rfl, HTI⟩ := hrel
            by_cases hml : m < xs.length
            ·have hml2 : m < ys.length := by have := HE5.out; omega
             obtain ⟨bx, ox, rfl, -, hc⟩ := HXU.out.at_ hml
             obtain ⟨bz, oz, rfl, -, hc2⟩ := HYU.out.at_ hml2
             go_wp2
             go_quiet (fail)
             go_wp2
             ·have hne : ¬ xs[m] = ys[m] := by simpa using ‹(xs[m] != ys[m]) = true›
              have HF2 := Lib.hid (HNE.out (fun h => hne (by
               have h5 : xs = ys := congrArg Prod.snd h
               subst h5
               rfl)))
              go_ret
              exact ⟨ret_bool (by rw [HF2.out] <;> rfl), below_drewN (below_drewN (HB.out.trans (HU.out.mono HB.out.size)) _) _⟩
             ·have he : xs[m] = ys[m] := by simpa using ‹(xs[m] != ys[m]) = false›
              go_roundw
              case rel => exact ⟨m + 1, _, by omega, by go_num, rfl, Lib.hid (take_eq_snoc HTI.out hml hml2 he)⟩
              case measure => simp [intOf]; omega
            ·have hk' : m = xs.length := by omega
             have hfin : xs = ys := by
              have := HTI.out
              rwa [hk', List.take_of_length_le (Nat.le_refl _), List.take_of_length_le (by rw [HE5.out]; exact Nat.le_refl _)] at this
             have HNX := Lib.hid (HTK.out (by
              have h4 := HE4.out
              subst h4 hfin
              rfl))
             clear hfin hk'
             have hw1 : wrap64 ((k : Int) + 1) = (k : Int) + 1 := by have := HLT.out; have := HL3.out; unfold wrap64; omega
             go_wp2
             go_roundw
             case rel => exact ⟨k + 1, HLT.out, (by rw [hw1]; rfl), Lib.hid (below_drewN HU.out _), HNX⟩
             case measure => rw [hw1]; have := HLT.out; simp [intOf]; omega
          ·have f2 : ((xs.length : Int) != (ys.length : Int)) = true := by simp; omega
           have HF2 := Lib.hid (HNE.out (fun h => e2 (by
            have h5 : xs = ys := congrArg Prod.snd h
            rw [h5])))
           clear e2
           go_wp2
           go_ret
           exact ⟨ret_bool (by rw [HF2.out] <;> rfl), HB.out.trans (HU.out.mono HB.out.size)⟩
         ·have f1 : (lx != ly) = true := by simp [e1]
          have HF2 := Lib.hid (HNE.out (fun h => e1 (congrArg Prod.fst h)))
          clear e1
          go_wp2
          go_ret
          exact ⟨ret_bool (by rw [HF2.out] <;> rfl), HB.out.trans (HU.out.mono HB.out.size)⟩
        ·obtain ⟨u1, hu1⟩ : ∃ u1, u1 = wr.alloc (.cells #[.int .i64 ly, .slice yA ys.length yc] 53) := ⟨_, rfl⟩
         obtain ⟨u2, hu2⟩ : ∃ u2, u2 = u1.alloc (.cells #[.int .i64 lx, .slice xA xs.length xc] 53) := ⟨_, rfl⟩
         have t1 : Below wr.heap.size wr u1 := by rw [hu1]; exact below_new _ _
         have t2 : Below u1.heap.size u1 u2 := by rw [hu2]; exact below_new _ _
         have z1 : u1.heap.size = wr.heap.size + 1 := by rw [hu1]; simp
         have v1 : Blk u1 wr.heap.size 53 #[.int .i64 ly, .slice yA ys.length yc] := by rw [hu1]; exact Blk.new _ _ _
         have v2 : Blk u2 u1.heap.size 53 #[.int .i64 lx, .slice xA xs.length xc] := by rw [hu2]; exact Blk.new _ _ _
         have v1' := v1.below t2 v1.lt
         rw [z1] at v2
         have t3 := t1.trans (t2.mono t1.size)
         rw [hu1] at hu2
         rw [← hu2]
         obtain ⟨u3, hu3⟩ : ∃ u3, u3 = u2.drew := ⟨_, rfl⟩
         rw [← hu3]
         have t3 : Below wr.heap.size wr u3 := by rw [hu3]; exact t3.drew
         have v1' : Blk u3 wr.heap.size 53 #[.int .i64 ly, .slice yA ys.length yc] := by rw [hu3]; exact v1'
         have v2 : Blk u3 (wr.heap.size + 1) 53 #[.int .i64 lx, .slice xA xs.length xc] := by rw [hu3]; exact v2
         have HU := Lib.hid ((HB2.out.trans (t3.mono HB2.out.size)))
         have HXU := Lib.hid (HXI.out.ext t3)
         have HYU := Lib.hid (HYI.out.ext t3)
         have m0 := v2.cell_ 0 (.int .i64 lx) rfl
         have m1 := v2.cell_ 1 (.slice xA xs.length xc) rfl
         have n0 := v1'.cell_ 0 (.int .i64 ly) rfl
         have n1 := v1'.cell_ 1 (.slice yA ys.length yc) rfl
         clear t1 t2 v1 v2 v1' t3 hu1 hu2 hu3 z1 x0 x1 y0 y1 x2 y2 hz1 hz2 hb1 hb2
         by_cases e1 : lx = ly
         ·have f1 : (lx != ly) = false := by simp [e1]
          have HE4 := Lib.hid e1
          clear e1
          by_cases e2 : xs.length = ys.length
          ·have f2 : ((xs.length : Int) != (ys.length : Int)) = false := by simp [e2]
           have HE5 := Lib.hid e2
           have lx1 := HXU.out.le
           have ly1 := HYU.out.le
           clear e2
           have HLT := Lib.hid hlt
           have HL3 := Lib.hid l3
           clear hlt hlt2 l1 l2 l3 l4
           go_wp2
           clear f1 f2
           go_loopw [9] (fun i wi => ∃ m q : Nat, m ≤ xs.length ∧ i = .int .i64 m ∧ wi = u3.drewN q ∧ Hid (xs.take m = ys.take m)) (fun i _ => xs.length - (intOf i).toNat)
           case atStart => exact ⟨0, 0, Nat.zero_le _, rfl, rfl, Lib.hid rfl⟩
           case round =>
            obtain ⟨m, qd, hm, rfl, rfl, HTI⟩ := hrel
            by_cases hml : m < xs.length
            ·have hml2 : m < ys.length := by have := HE5.out; omega
             obtain ⟨bx, ox, rfl, -, hc⟩ := HXU.out.at_ hml
             obtain ⟨bz, oz, rfl, -, hc2⟩ := HYU.out.at_ hml2
             go_wp2
             go_quiet (fail)
             go_wp2
             ·have hne : ¬ xs[m] = ys[m] := by simpa using ‹(xs[m] != ys[m]) = true›
              have HF2 := Lib.hid (HNE.out (fun h => hne (by
               have h5 : xs = ys := congrArg Prod.snd h
               subst h5
               rfl)))
              go_ret
              exact ⟨ret_bool (by rw [HF2.out] <;> rfl), below_drewN (below_drewN (HB.out.trans (HU.out.mono HB.out.size)) _) _⟩
             ·have he : xs[m] = ys[m] := by simpa using ‹(xs[m] != ys[m]) = false›
              go_roundw
              case rel => exact ⟨m + 1, _, by omega, by go_num, rfl, Lib.hid (take_eq_snoc HTI.out hml hml2 he)⟩
              case measure => simp [intOf]; omega
            ·have hk' : m = xs.length := by omega
             have hfin : xs = ys := by
              have := HTI.out
              rwa [hk', List.take_of_length_le (Nat.le_refl _), List.take_of_length_le (by rw [HE5.out]; exact Nat.le_refl _)] at this
             have HNX := Lib.hid (HTK.out (by
              have h4 := HE4.out
              subst h4 hfin
              rfl))
             clear hfin hk'
             have hw1 : wrap64 ((k : Int) + 1) = (k : Int) + 1 := by have := HLT.out; have := HL3.out; unfold wrap64; omega
             go_wp2
             go_roundw
             case rel => exact ⟨k + 1, HLT.out, (by rw [hw1]; rfl), Lib.hid (below_drewN HU.out _), HNX⟩
             case measure => rw [hw1]; have := HLT.out; simp [intOf]; omega
          ·have f2 : ((xs.length : Int) != (ys.length : Int)) = true := by simp; omega
           have HF2 := Lib.hid (HNE.out (fun h => e2 (by
            have h5 : xs = ys := congrArg Prod.snd h
            rw [h5])))
           clear e2
           go_wp2
           go_ret
           exact ⟨ret_bool (by rw [HF2.out] <;> rfl), HB.out.trans (HU.out.mono HB.out.size)⟩
         ·have f1 : (lx != ly) = true := by simp [e1]
          have HF2 := Lib.hid (HNE.out (fun h => e1 (congrArg Prod.fst h)))
          clear e1
          go_wp2
          go_ret
          exact ⟨ret_bool (by rw [HF2.out] <;> rfl), HB.out.trans (HU.out.mono HB.out.size)⟩
       ·have hk' : k = h1.length := by omega
        have HF2 : Hid (sameP ⟨s1, p1, h1.map Hd.nd⟩ ⟨s2, p2, h2.map Hd.nd⟩ = true) := Lib.hid (by
         have h7 := HT.out
         rw [hk', List.take_of_length_le (Nat.le_refl _), List.take_of_length_le (by rw [HE3.out]; exact Nat.le_refl _)] at h7
         unfold sameP
         dsimp only
         rw [decide_eq_true HE1.out, decide_eq_true HF.out, decide_eq_true h7]
         rfl)
        clear hk' r1 r2
        go_wp2
        go_ret
        exact ⟨ret_bool (by rw [HF2.out] <;> rfl), HB.out.trans (HB2.out.mono HB.out.size)⟩
   ·have f3 : ((h1.length : Int) != (h2.length : Int)) = true := by simp; omega
    have HF : Hid (sameP ⟨s1, p1, h1.map Hd.nd⟩ ⟨s2, p2, h2.map Hd.nd⟩ = false) := Lib.hid (by
     unfold sameP
     rw [show decide (h1.map Hd.nd = h2.map Hd.nd) = false from decide_eq_false (fun h => e3 (by simpa using congrArg List.length h))]
     simp)
    clear e3
    go_enter Tryd.func11, Tryd.ntmps11
    go_upto_region 1 with fail
    rw [← HW.out]
    go_wp2
    go_ret
    exact ⟨ret_bool (by rw [HF.out] <;> rfl), HB.out⟩
  ·have f2 : ((p1.length : Int) != (p2.length : Int)) = true := by simp; omega
   have HF : Hid (sameP ⟨s1, p1, h1.map Hd.nd⟩ ⟨s2, p2, h2.map Hd.nd⟩ = false) := Lib.hid (by
    unfold sameP
    rw [show decide (p1 = p2) = false from decide_eq_false (fun h => e2 (by rw [h]))]
    simp)
   clear e2
   go_enter Tryd.func11, Tryd.ntmps11
   go_upto_region 1 with fail
   rw [← HW.out]
   go_wp2
   go_ret
   exact ⟨ret_bool (by rw [HF.out] <;> rfl), HB.out⟩
 ·have f1 : (s1 != s2) = true := by simp [e1]
  have HF : Hid (sameP ⟨s1, p1, h1.map Hd.nd⟩ ⟨s2, p2, h2.map Hd.nd⟩ = false) := Lib.hid (by
   unfold sameP
   rw [show decide (s1 = s2) = false from decide_eq_false e1]
   simp)
  clear e1
  go_enter Tryd.func11, Tryd.ntmps11
  go_upto_region 1 with fail
  rw [← HW.out]
  go_wp2
  go_ret
  exact ⟨ret_bool (by rw [HF.out] <;> rfl), HB.out⟩
end Go.Proofs.YtojnnfihpiegoaaDoor
namespace Go.Proofs.YtojnnfihpiegoaaDoor
open Go.RowKit
set_option maxRecDepth 100000
set_option linter.unusedVariables false
set_option linter.unusedSimpArgs false

theorem rsamet_at {t u : PT} {v x : Value} {w : World} (h : TreeAt w v t) (k : TreeAt w x u) : Calls Tryd.prog 11 #[v, x] w fun e w' => e = .returned (.bool (sameP t u)) ∧ Below w.heap.size w w' := by
 obtain ⟨A, c, B, d, os, rfl, h2, h3, h4⟩ := h
 obtain ⟨A', c', B', d', os', rfl, k2, k3, k4⟩ := k
 have := rsamet_any t.st u.st A c t.ps B d os A' c' u.ps B' d' os' w h2 h3 k2 k3
 rw [h4, k4] at this
 exact this
theorem equalP_eq (a b : PT) : equalP a b = (a.right && b.right && sameP (redT a) (redT b)) := by
 unfold equalP
 cases ha : a.right with
 | false => simp
 | true =>
  cases hb : b.right with
  | false => simp
  | true =>
   simp only [Bool.true_and]
   have e1 : redT a = ⟨a.st, a.ps, redN chR a.ns⟩ := by unfold redT; rw [ha]; rfl
   have e2 : redT b = ⟨b.st, b.ps, redN chR b.ns⟩ := by unfold redT; rw [hb]; rfl
   rw [e1, e2]
   unfold sameP
   dsimp only
   cases decide (a.st = b.st) <;> cases decide (a.ps = b.ps) <;> simp
end Go.Proofs.YtojnnfihpiegoaaDoor
namespace Go.Proofs.YtojnnfihpiegoaaDoor
set_option linter.unusedSimpArgs false
set_option linter.unusedVariables false

theorem redN_ok {q : Nat} {l : List Nd} {ch : Int → List Int → List Int} (h : VNd q l) (hc : Chg q ch) (hp : 0 < l.length) (hl : (ndAt l (l.length - 1)).1 ≤ 100) :
  VNd q (redN ch l) ∧ Dis (redN ch l) (· < (redN ch l).length) ∧ 0 < (redN ch l).length ∧ Eqv q (redN ch l) ((redN ch l).length - 1) (chgL ch l) (l.length - 1) ∧ (redN ch l).length ≤ l.length := by
 have hR := RbI.all h hc _ (Nat.le_refl _)
 obtain ⟨g1, g2, g3⟩ := hR.eqv (l.length - 1) (by omega)
 have hlv : (ndAt (chgL ch l) (l.length - 1)).1 = (ndAt l (l.length - 1)).1 := by rw [chg_at ch (by omega)]
 obtain ⟨o1, o2, o3, o4, o5, o6⟩ := ord_ok hR.v.lev hR.dis (f := 100) (root := ((rebTo ch l l.length).2.getD (l.length - 1) 0).toNat) (by rw [g3.1, hlv]; omega) g2
 have e : redN ch l = ord (rebTo ch l l.length).1 100 ((rebTo ch l l.length).2.getD (l.length - 1) 0).toNat := rfl
 rw [← e] at o1 o2 o3 o4 o5 o6
 refine ⟨⟨o1, o3, fun i hi hl1 z hz => ?_⟩, o2, o4, o5.trans g3, ?_⟩
 ·obtain ⟨j, pj, ej⟩ := o6 i hi
  obtain ⟨s, hs, rfl⟩ := List.getElem_of_mem hz
  have hq : s < q := by rw [← o1.len i hi]; exact hs
  have hv := ej.2 [s] (by rw [hl1]; rfl) (by simpa using hq)
  simp only [val, Int.toNat_natCast] at hv
  have hjl := hR.v.lev.len j pj
  have g : (ndAt (redN ch l) i).2.getD s 0 = (ndAt (redN ch l) i).2[s] := by rw [List.getD_eq_getElem?_getD, List.getElem?_eq_getElem hs]; rfl
  rw [g] at hv
  rw [hv]
  exact hR.v.low j pj (by rw [← ej.1]; exact hl1) _ (getD_mem (by rw [hjl]; exact hq))
 ·obtain ⟨d1, -⟩ := dfs_ok hR.v.lev 100 ((rebTo ch l l.length).2.getD (l.length - 1) 0).toNat _ (by rw [g3.1, hlv]; omega) g2 (Inv.start q (rebTo ch l l.length).1 (· < (rebTo ch l l.length).1.length))
  have := d1.le
  have := hR.le
  rw [e]
  unfold ord
  omega
/-- the reduced tree of a valid one -/
theorem redT_ok {t : PT} (h : t.right = true) : VNd t.st.toNat (redT t).ns ∧ Dis (redT t).ns (· < (redT t).ns.length) ∧ 0 < (redT t).ns.length ∧ Eqv t.st.toNat (redT t).ns ((redT t).ns.length - 1) t.ns (t.ns.length - 1) ∧ (redT t).ns.length ≤ t.ns.length ∧ (redT t).st = t.st ∧ (redT t).ps = t.ps := by
 obtain ⟨a1, a2, a3, a4, a5, a6, a7, a8, a9⟩ := rightN_parts h
 have e : redT t = ⟨t.st, t.ps, redN chR t.ns⟩ := by unfold redT; rw [if_pos h]
 rw [e]
 have := redN_ok a8 (chR_chg _) (by omega) (by omega)
 rw [show chgL chR t.ns = t.ns from by unfold chgL chR; simp] at this
 exact ⟨this.1, this.2.1, this.2.2.1, this.2.2.2.1, this.2.2.2.2, rfl, rfl⟩
theorem redT_bad {t : PT} (h : t.right = false) : redT t = PT.zero := by unfold redT; rw [if_neg (by rw [h]; decide)]
theorem usesP_eq (t : PT) (k : Int) : usesP t k = (decide (0 ≤ k) && (redT t).ns.any (useN (redT t).ps.length k)) := by
 unfold usesP
 cases h : t.right with
 | false =>
  rw [redT_bad h]
  simp [PT.zero]
 | true =>
  obtain ⟨o1, -, -, -, -, -, o7⟩ := redT_ok h
  rw [o7]
  by_cases h0 : 0 ≤ k
  ·rw [decide_eq_true h0, show decide (k < 0) = false from decide_eq_false (by omega)]
   by_cases h1 : (t.ps.length : Int) ≤ k
   ·rw [decide_eq_true h1]
    have : (redT t).ns.any (useN t.ps.length k) = false := by
     rw [List.any_eq_false]
     intro x hx
     obtain ⟨i, hi, rfl⟩ := List.getElem_of_mem hx
     have h2 := o1.lev.one i hi
     rw [ndAt_get _ hi] at h2
     unfold useN
     have : ((redT t).ns[i].1 == (t.ps.length : Int) - k) = false := by simp; omega
     rw [this]
     simp
    rw [this]
    simp
   ·rw [decide_eq_false h1]
    simp
  ·rw [decide_eq_false h0, show decide (k < 0) = true from decide_eq_true (by omega)]
   simp
end Go.Proofs.YtojnnfihpiegoaaDoor
namespace Go.Proofs.YtojnnfihpiegoaaDoor
set_option linter.unusedSimpArgs false
open Go.RowKit
set_option maxRecDepth 100000
set_option linter.unusedVariables false

theorem allF_of {f : Nat → Bool} : ∀ (m k : Nat), (∀ i, k ≤ i → i < k + m → f i = true) → allF f m k = true
 | 0, k, _ => rfl
 | m + 1, k, h => by
  simp only [allF, Bool.and_eq_true]
  exact ⟨h k (Nat.le_refl _) (by omega), allF_of m (k + 1) fun i h1 h2 => h i (by omega) (by omega)⟩
theorem rightN_of {st : Int} {ps : List (Int × Int)} {ns : List Nd} (h1 : 2 ≤ st) (h2 : st ≤ 8) (h3 : hoodB ps = true) (h4 : 1 ≤ ns.length) (h5 : ns.length ≤ 4096) (h6 : (ndAt ns (ns.length - 1)).1 = (ps.length : Int)) (h7 : VNd st.toNat ns)
  (h8 : ∀ i, i < ns.length → (ndAt ns i).1 ≤ (ps.length : Int)) : rightN st ps ns = true := by
 unfold rightN headB
 simp only [Bool.and_eq_true, decide_eq_true_eq]
 refine ⟨⟨⟨⟨⟨⟨h1, h2⟩, h3⟩, h4⟩, h5⟩, h6⟩, allF_of _ _ fun i _ hi => ?_⟩
 have hi' : i < ns.length := by omega
 unfold nodeB
 simp only [Bool.and_eq_true, decide_eq_true_eq, List.all_eq_true]
 have hl := h7.lev.len i hi'
 refine ⟨⟨⟨h7.lev.one i hi', h8 i hi'⟩, by omega⟩, fun z hz => ?_⟩
 unfold kidB
 rcases Int.lt_or_le 1 (ndAt ns i).1 with hlv | hlv
 ·obtain ⟨p1, p2, p3⟩ := h7.lev.kids i hi' hlv z hz
  have p4 := h7.ordk i hi' hlv z hz
  have hne : ((ndAt ns i).1 == 1) = false := by simp; omega
  rw [decide_eq_true p1, hne, decide_eq_true hlv, decide_eq_true p4, show ((ndAt ns z.toNat).1 == (ndAt ns i).1 - 1) = true by simpa using p3]
  rfl
 ·have ho := h7.lev.one i hi'
  have hl1 : (ndAt ns i).1 = 1 := by omega
  obtain ⟨p1, p2⟩ := h7.low i hi' hl1 z hz
  rw [decide_eq_true p1, hl1, decide_eq_true (show z < st by omega)]
  rfl
theorem rightN_chg {st : Int} {ps : List (Int × Int)} {ns : List Nd} {ch : Int → List Int → List Int} (h : rightN st ps ns = true) (hc : Chg st.toNat ch) : rightN st ps (chgL ch ns) = true := by
 obtain ⟨a1, a2, a3, a4, a5, a6, a7, a8, a9⟩ := rightN_parts h
 have hl := chg_len ch ns
 refine rightN_of a1 a2 a3 (by omega) (by omega) ?_ (a8.chg hc) fun i hi => ?_
 ·rw [hl, chg_at ch (by omega)]; exact a6
 ·rw [chg_at ch (by omega)]; exact a9 i (by omega)
/-- the reduced tree of the changed nodes -/
theorem redT_chg {st : Int} {ps : List (Int × Int)} {ns : List Nd} {ch : Int → List Int → List Int} (h : rightN st ps ns = true) (hc : Chg st.toNat ch) : redT ⟨st, ps, chgL ch ns⟩ = ⟨st, ps, redN ch ns⟩ := by
 obtain ⟨a1, a2, a3, a4, a5, a6, a7, a8, a9⟩ := rightN_parts h
 have hr : PT.right ⟨st, ps, chgL ch ns⟩ = true := rightN_chg h hc
 unfold redT
 rw [if_pos hr]
 dsimp only
 rw [redN_chg a8 hc (by omega) (by omega)]
/-- a node that is being built -/
structure NxL (gX : Nat) (W : World) (lv : Int) (acc : List Int) (xv : Value) (wr : World) : Prop where
 G : Blk wr gX 53 #[.int .i64 lv, xv]
 R : OwnIA wr W.heap.size xv acc
 below : Below W.heap.size W wr
 hX : W.heap.size ≤ gX
section
variable {gX : Nat} {W : World} {lv : Int} {acc : List Int} {xv : Value} {wr : World}
theorem NxL.new (W : World) (lv : Int) : NxL W.heap.size W lv [] (.slice none 0 0) (W.alloc (.cells #[.int .i64 lv, .slice none 0 0] 53)) :=
 ⟨Blk.new _ _ _, OwnI.nil _ _ _, below_new _ _, Nat.le_refl _⟩
theorem NxL.drewN (h : NxL gX W lv acc xv wr) (k : Nat) : NxL gX W lv acc xv (wr.drewN k) := ⟨h.G, h.R, below_drewN h.below k, h.hX⟩
theorem NxL.push (h : NxL gX W lv acc xv wr) {z : Int} {xv' : Value} {w6 : World} (ho : OwnIA w6 W.heap.size xv' (acc ++ [z])) (hk : Kept (fun g => xv.ownBlock = some g) wr w6) :
  NxL gX W lv (acc ++ [z]) xv' (w6.setCell ⟨gX, 1, none⟩ xv') := by
 have a3 := hk.blk h.G (own_blk_ne' h.R h.G (by decide))
 have k7 : Kept (fun g => g = gX) w6 (w6.setCell ⟨gX, 1, none⟩ xv') := (Kept.refl (fun g => g = gX) w6).setCell (p := ⟨gX, 1, none⟩) (Or.inl rfl) xv'
 have hb6 : Below W.heap.size W w6 := h.below.trans (hk.to_below h.below.size (fun g hg e => by have := (own_lt' h.R e).2; omega))
 exact ⟨a3.set_ 1 xv', k7.own ho (fun g e1 e2 => by subst e2; exact own_blk_ne' ho a3 (by decide) e1), hb6.trans (k7.to_below hb6.size (fun g hg e => by have := h.hX; omega)), h.hX⟩
end
/-- a tree and an error: the neighbourhood is the given slice, the nodes are its own -/
def RetTEO (A : Option Addr) (te : PT × Int) (w : World) (e : Ending) (w' : World) : Prop :=
 ∃ A' c nv os, e = .returned (.tuple #[.agg #[.int .i64 te.1.st, .slice A' te.1.ps.length c, nv], .int .i64 te.2]) ∧ (A' = A ∨ te.1.ps = []) ∧ Pts w' A' te.1.ps ∧ OwnNA w' w.heap.size nv os ∧ os.map Hd.nd = te.1.ns ∧ Below w.heap.size w w'
theorem RetTEO.at_ {A : Option Addr} {te : PT × Int} {w w' : World} {e : Ending} (h : RetTEO A te w e w') : ∃ v, e = .returned (.tuple #[v, .int .i64 te.2]) ∧ TreeAt w' v te.1 ∧ Below w.heap.size w w' := by
 obtain ⟨A', c, nv, os, rfl, -, h2, h3, h4, h5⟩ := h
 obtain ⟨B, d, rfl, h6, -⟩ := h3.nds
 exact ⟨_, rfl, ⟨A', c, B, d, os, rfl, h2, h6, h4⟩, h5⟩
end Go.Proofs.YtojnnfihpiegoaaDoor
namespace Go.Proofs.YtojnnfihpiegoaaDoor
open Go.RowKit
set_option maxRecDepth 100000
set_option linter.unusedVariables false
set_option linter.unusedSimpArgs false

theorem chg_take {ch : Int → List Int → List Int} {l : List Nd} {i : Nat} (hi : i < l.length) {lv : Int} {zs : List Int} (h : ndAt l i = (lv, zs)) : (chgL ch l).take (i + 1) = (chgL ch l).take i ++ [(lv, ch lv zs)] := by
 rw [List.take_succ_eq_append_getElem (by rw [chg_len]; exact hi)]
 have : (chgL ch l)[i]'(by rw [chg_len]; exact hi) = (lv, ch lv zs) := by
  have h2 := chg_at ch hi
  rw [ndAt_get _ (by rw [chg_len]; exact hi), h] at h2
  exact h2
 rw [this]
theorem chM_len (tz : List Int) (lv : Int) (zs : List Int) : (chM tz lv zs).length = zs.length := by
 unfold chM
 split
 ·exact List.length_map _
 ·rfl
theorem chM_take {tz : List Int} {lv : Int} {zs : List Int} {m : Nat} (hm : m < zs.length) : (chM tz lv zs).take (m + 1) = (chM tz lv zs).take m ++ [if lv = 1 then tz.getD (zs[m]).toNat 0 else zs[m]] := by
 rw [List.take_succ_eq_append_getElem (by rw [chM_len]; exact hm)]
 congr 2
 unfold chM
 split
 ·exact List.getElem_map ..
 ·rfl
theorem chF_len (L k s : Nat) (lv : Int) (zs : List Int) : (chF L k s lv zs).length = zs.length := by
 unfold chF
 split
 ·exact List.length_replicate
 ·rfl
theorem chF_take {L k s : Nat} {lv : Int} {zs : List Int} {m : Nat} (hm : m < zs.length) : (chF L k s lv zs).take (m + 1) = (chF L k s lv zs).take m ++ [if lv = (L : Int) - k then zs.getD s 0 else zs[m]] := by
 rw [List.take_succ_eq_append_getElem (by rw [chF_len]; exact hm)]
 congr 2
 unfold chF
 split
 ·exact List.getElem_replicate ..
 ·rfl
end Go.Proofs.YtojnnfihpiegoaaDoor
