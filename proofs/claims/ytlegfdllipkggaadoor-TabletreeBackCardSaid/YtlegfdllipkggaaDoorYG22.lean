/-
  texts RSameT Samet BackT HoodN First BackL: parts of the proof; conditions stand with each theorem.
-/
import Derived.BigRegion
import Derived.Test.YtlegfdllipkggaaDoorYG5
import Derived.Test.YtlegfdllipkggaaDoorYG9
import Derived.Test.YtlegfdllipkggaaDoorYG14
import Derived.Test.YtlegfdllipkggaaDoorYTable
import Derived.Test.YtlegfdllipkggaaDoorYDecide
import Derived.Test.YtlegfdllipkggaaDoorYG17
import Derived.Test.YtlegfdllipkggaaDoorYG21
namespace Go.Proofs.YtlegfdllipkggaaDoor
open Go.RowKit
set_option maxRecDepth 100000
set_option linter.unusedVariables false
set_option linter.unusedSimpArgs false

set_option maxHeartbeats 16000000 in
theorem rsamet_any (s1 s2 : Int) (A1 : Option Addr) (c1 : Nat) (p1 : List (Int × Int)) (B1 : Option Addr) (d1 : Nat) (h1 : List Hd) (A2 : Option Addr) (c2 : Nat) (p2 : List (Int × Int)) (B2 : Option Addr) (d2 : Nat) (h2 : List Hd) (w : World)
  (hp1 : Pts w A1 p1) (hn1 : Nds w B1 h1) (hp2 : Pts w A2 p2) (hn2 : Nds w B2 h2) :
  Calls Tryd.prog 13 #[.agg #[.int .i64 s1, .slice A1 p1.length c1, .slice B1 h1.length d1], .agg #[.int .i64 s2, .slice A2 p2.length c2, .slice B2 h2.length d2]] w
   fun e w' => e = .returned (.bool (sameP ⟨s1, p1, h1.map Hd.nd⟩ ⟨s2, p2, h2.map Hd.nd⟩)) ∧ Below w.heap.size w w' := by
 have l1 := hp1.le; have l2 := hp2.le; have l3 := hn1.le; have l4 := hn2.le; obtain ⟨v1, hv1⟩ : ∃ v1, v1 = w.alloc (.cells #[.int .i64 s1, .slice A1 p1.length c1, .slice B1 h1.length d1] 25) := ⟨_, rfl⟩
 obtain ⟨w0, hw0⟩ : ∃ w0, w0 = v1.alloc (.cells #[.int .i64 s2, .slice A2 p2.length c2, .slice B2 h2.length d2] 25) := ⟨_, rfl⟩
 have b1 : Below w.heap.size w v1 := by rw [hv1]; exact below_new _ _
 have b2 : Below v1.heap.size v1 w0 := by rw [hw0]; exact below_new _ _
 have z1 : v1.heap.size = w.heap.size + 1 := by rw [hv1]; simp
 have q1 : Blk v1 w.heap.size 25 #[.int .i64 s1, .slice A1 p1.length c1, .slice B1 h1.length d1] := by rw [hv1]; exact Blk.new _ _ _
 have q2 : Blk w0 v1.heap.size 25 #[.int .i64 s2, .slice A2 p2.length c2, .slice B2 h2.length d2] := by rw [hw0]; exact Blk.new _ _ _
 have q1' := q1.below b2 q1.lt; rw [z1] at q2; have hb0 := b1.trans (b2.mono b1.size); rw [hv1] at hw0; have HW := Lib.hid hw0; have HB := Lib.hid hb0; have HP1 := Lib.hid (hp1.ext hb0); have HP2 := Lib.hid (hp2.ext hb0); have HN1 := Lib.hid (hn1.ext hb0); have HN2 := Lib.hid (hn2.ext hb0); have HQ1 := Lib.hid q1'; have HQ2 := Lib.hid q2; have x0 := q1'.cell_ 0 (.int .i64 s1) rfl; have x1 := q1'.cell_ 1 (.slice A1 p1.length c1) rfl; have x2 := q1'.cell_ 2 (.slice B1 h1.length d1) rfl; have y0 := q2.cell_ 0 (.int .i64 s2) rfl; have y1 := q2.cell_ 1 (.slice A2 p2.length c2) rfl; have y2 := q2.cell_ 2 (.slice B2 h2.length d2) rfl; clear hv1 hw0 b1 b2 z1 q1 q2 q1' hb0 hp1 hp2 hn1 hn2; by_cases e1 : s1 = s2
 ·have f1 : (s1 != s2) = false := by simp [e1]
  have HE1 := Lib.hid e1; clear e1; by_cases e2 : p1.length = p2.length
  ·have f2 : ((p1.length : Int) != (p2.length : Int)) = false := by simp [e2]
   have HE2 := Lib.hid e2; clear e2; by_cases e3 : h1.length = h2.length
   ·have f3 : ((h1.length : Int) != (h2.length : Int)) = false := by simp [e3]
    have HE3 := Lib.hid e3; clear e3; go_enter Tryd.func13, Tryd.ntmps13; go_upto_region 1 with fail
    rw [← HW.out]; go_wp2; clear f1 f2 f3 x0 y0; go_loopw [5] (fun i wr => ∃ k q : Nat, k ≤ p1.length ∧ i = .int .i64 k ∧ wr = w0.drewN q ∧ Hid (p1.take k = p2.take k)) (fun i _ => p1.length - (intOf i).toNat)
    case atStart => exact ⟨0, 0, Nat.zero_le _, rfl, rfl, Lib.hid rfl⟩
    case round =>
     obtain ⟨k, q, hk, rfl, rfl, HT⟩ := hrel; by_cases hlt : k < p1.length
     ·have hlt2 : k < p2.length := by have := HE2.out; omega
      obtain ⟨b1, o1, rfl, -, hc, hc'⟩ := HP1.out.at_ hlt; obtain ⟨b2, o2, rfl, -, hc2, hc2'⟩ := HP2.out.at_ hlt2; go_wp2; have hst := Tryd.stood_pt; have heg := Tryd.guard_pt; have hnq := neq_pt; go_quiet (fail)
      go_wp2
      ·have hne : ¬ p1[k] = p2[k] := ptNe_true ‹_›; have HF : Hid (sameP ⟨s1, p1, h1.map Hd.nd⟩ ⟨s2, p2, h2.map Hd.nd⟩ = false) := Lib.hid (by
        unfold sameP; rw [show decide (p1 = p2) = false from decide_eq_false (by rintro rfl; exact hne rfl)]
        simp)
       go_ret; exact ⟨ret_bool (by rw [HF.out] <;> rfl), below_drewN (below_drewN HB.out _) _⟩
      ·have he : p1[k] = p2[k] := ptNe_false ‹_›; go_roundw
       case rel => exact ⟨k + 1, _, by omega, by go_num, rfl, Lib.hid (take_eq_snoc HT.out hlt hlt2 he)⟩
       case measure => simp [intOf]; omega
     ·have hk' : k = p1.length := by omega
      have hfin : p1 = p2 := by
       have := HT.out; rwa [hk', List.take_of_length_le (Nat.le_refl _), List.take_of_length_le (by rw [HE2.out]; exact Nat.le_refl _)] at this
      have HF := Lib.hid hfin; clear hfin hk'; go_wp2; clear x1 y1 x2 y2 hlt hk HT; obtain ⟨W, hW⟩ : ∃ W, W = w0.drewN q := ⟨_, rfl⟩
      have HBW : Hid (Below w0.heap.size w0 W) := Lib.hid (by rw [hW]; exact below_drewN (Below.refl _ _) _); rw [← hW]; clear hW; go_loopw [6] (fun i wr => ∃ k : Nat, k ≤ h1.length ∧ i = .int .i64 k ∧ Hid (Below w0.heap.size w0 wr) ∧ Hid ((h1.take k).map Hd.nd = (h2.take k).map Hd.nd)) (fun i _ => h1.length - (intOf i).toNat)
      case atStart => exact ⟨0, Nat.zero_le _, rfl, HBW, Lib.hid rfl⟩
      case round =>
       obtain ⟨k, hk, rfl, HB2, HT⟩ := hrel; have r1 := HQ1.out.below HB2.out HQ1.out.lt; have r2 := HQ2.out.below HB2.out HQ2.out.lt; have x2 := r1.cell_ 2 (.slice B1 h1.length d1) rfl; have y2 := r2.cell_ 2 (.slice B2 h2.length d2) rfl; by_cases hlt : k < h1.length
       ·have hlt2 : k < h2.length := by have := HE3.out; omega
        obtain ⟨b1, o1, eb1, hb1, x0, x1, xi⟩ := (HN1.out.ext HB2.out).at_ hlt; obtain ⟨b2, o2, eb2, hb2, y0, y1, yi⟩ := (HN2.out.ext HB2.out).at_ hlt2; have HTK := Lib.hid (fun (h3 : h1[k].nd = h2[k].nd) => nd_take hlt hlt2 HT.out h3); have HNE : Hid (h1[k].nd ≠ h2[k].nd → sameP ⟨s1, p1, h1.map Hd.nd⟩ ⟨s2, p2, h2.map Hd.nd⟩ = false) := Lib.hid (fun h9 => by
         have : h1.map Hd.nd ≠ h2.map Hd.nd := fun h2' => h9 (by
          have h3 := congrArg (fun l => l[k]?) h2'; simp only [List.getElem?_map, List.getElem?_eq_getElem hlt, List.getElem?_eq_getElem hlt2, Option.map_some, Option.some.injEq] at h3; exact h3)
         unfold sameP; rw [show decide (h1.map Hd.nd = h2.map Hd.nd) = false from decide_eq_false this]
         simp)
        obtain ⟨x, hx⟩ : ∃ x, x = h1[k] := ⟨_, rfl⟩
        obtain ⟨y, hy⟩ : ∃ y, y = h2[k] := ⟨_, rfl⟩
        rw [← hx] at x0 x1 xi HTK HNE; rw [← hy] at y0 y1 yi HTK HNE; obtain ⟨lx, xA, xc, xs⟩ := x; obtain ⟨ly, yA, yc, ys⟩ := y; dsimp only at x0 x1 xi y0 y1 yi; have HXI := Lib.hid xi; have HYI := Lib.hid yi; subst eb1 eb2; have hz1 : w.heap.size < wr.heap.size := r1.lt; have hz2 : w.heap.size + 1 < wr.heap.size := r2.lt; clear hx hy xi yi hk r1 r2; go_wp2; go_region
        ·obtain ⟨u1, hu1⟩ : ∃ u1, u1 = wr.alloc (.cells #[.int .i64 lx, .slice xA xs.length xc] 50) := ⟨_, rfl⟩
         obtain ⟨u2, hu2⟩ : ∃ u2, u2 = u1.alloc (.cells #[.int .i64 ly, .slice yA ys.length yc] 50) := ⟨_, rfl⟩
         have t1 : Below wr.heap.size wr u1 := by rw [hu1]; exact below_new _ _
         have t2 : Below u1.heap.size u1 u2 := by rw [hu2]; exact below_new _ _
         have z1 : u1.heap.size = wr.heap.size + 1 := by rw [hu1]; simp
         have v1 : Blk u1 wr.heap.size 50 #[.int .i64 lx, .slice xA xs.length xc] := by rw [hu1]; exact Blk.new _ _ _
         have v2 : Blk u2 u1.heap.size 50 #[.int .i64 ly, .slice yA ys.length yc] := by rw [hu2]; exact Blk.new _ _ _
         have v1' := v1.below t2 v1.lt; rw [z1] at v2; have t3 := t1.trans (t2.mono t1.size); rw [hu1] at hu2; rw [← hu2]; obtain ⟨u3, hu3⟩ : ∃ u3, u3 = u2.drew := ⟨_, rfl⟩
         rw [← hu3]; have t3 : Below wr.heap.size wr u3 := by rw [hu3]; exact t3.drew
         have v1' : Blk u3 wr.heap.size 50 #[.int .i64 lx, .slice xA xs.length xc] := by rw [hu3]; exact v1'
         have v2 : Blk u3 (wr.heap.size + 1) 50 #[.int .i64 ly, .slice yA ys.length yc] := by rw [hu3]; exact v2
         have HU := Lib.hid ((HB2.out.trans (t3.mono HB2.out.size))); have HXU := Lib.hid (HXI.out.ext t3); have HYU := Lib.hid (HYI.out.ext t3); have m0 := v1'.cell_ 0 (.int .i64 lx) rfl; have m1 := v1'.cell_ 1 (.slice xA xs.length xc) rfl; have n0 := v2.cell_ 0 (.int .i64 ly) rfl; have n1 := v2.cell_ 1 (.slice yA ys.length yc) rfl; clear t1 t2 v1 v2 v1' t3 hu1 hu2 hu3 z1 x0 x1 y0 y1 x2 y2 hz1 hz2 hb1 hb2; by_cases e1 : lx = ly
         ·have f1 : (lx != ly) = false := by simp [e1]
          have HE4 := Lib.hid e1; clear e1; by_cases e2 : xs.length = ys.length
          ·have f2 : ((xs.length : Int) != (ys.length : Int)) = false := by simp [e2]
           have HE5 := Lib.hid e2; have lx1 := HXU.out.le; have ly1 := HYU.out.le; clear e2; have HLT := Lib.hid hlt; have HL3 := Lib.hid l3; clear hlt hlt2 l1 l2 l3 l4; go_wp2; clear f1 f2; go_loopw [9] (fun i wi => ∃ m q : Nat, m ≤ xs.length ∧ i = .int .i64 m ∧ wi = u3.drewN q ∧ Hid (xs.take m = ys.take m)) (fun i _ => xs.length - (intOf i).toNat)
           case atStart => exact ⟨0, 0, Nat.zero_le _, rfl, rfl, Lib.hid rfl⟩
           case round =>
            obtain ⟨m, qd, hm, rfl, rfl, HTI⟩ := hrel; by_cases hml : m < xs.length
            ·have hml2 : m < ys.length := by have := HE5.out; omega
             obtain ⟨bx, ox, rfl, -, hc⟩ := HXU.out.at_ hml; obtain ⟨bz, oz, rfl, -, hc2⟩ := HYU.out.at_ hml2; go_wp2; go_quiet (fail)
             go_wp2
             ·have hne : ¬ xs[m] = ys[m] := by simpa using ‹(xs[m] != ys[m]) = true›
              have HF2 := Lib.hid (HNE.out (fun h => hne (by
               have h5 : xs = ys := congrArg Prod.snd h; subst h5; rfl)))
              go_ret; exact ⟨ret_bool (by rw [HF2.out] <;> rfl), below_drewN (below_drewN (HB.out.trans (HU.out.mono HB.out.size)) _) _⟩
             ·have he : xs[m] = ys[m] := by simpa using ‹(xs[m] != ys[m]) = false›
              go_roundw
              case rel => exact ⟨m + 1, _, by omega, by go_num, rfl, Lib.hid (take_eq_snoc HTI.out hml hml2 he)⟩
              case measure => simp [intOf]; omega
            ·have hk' : m = xs.length := by omega
             have hfin : xs = ys := by
              have := HTI.out; rwa [hk', List.take_of_length_le (Nat.le_refl _), List.take_of_length_le (by rw [HE5.out]; exact Nat.le_refl _)] at this
             have HNX := Lib.hid (HTK.out (by
              have h4 := HE4.out; subst h4 hfin; rfl))
             clear hfin hk'; have hw1 : wrap64 ((k : Int) + 1) = (k : Int) + 1 := by have := HLT.out; have := HL3.out; unfold wrap64; omega
             go_wp2; go_roundw
             case rel => exact ⟨k + 1, HLT.out, (by rw [hw1]; rfl), Lib.hid (below_drewN HU.out _), HNX⟩
             case measure => rw [hw1]; have := HLT.out; simp [intOf]; omega
          ·have f2 : ((xs.length : Int) != (ys.length : Int)) = true := by simp; omega
           have HF2 := Lib.hid (HNE.out (fun h => e2 (by
            have h5 : xs = ys := congrArg Prod.snd h; rw [h5])))
           clear e2; go_wp2; go_ret; exact ⟨ret_bool (by rw [HF2.out] <;> rfl), HB.out.trans (HU.out.mono HB.out.size)⟩
         ·have f1 : (lx != ly) = true := by simp [e1]
          have HF2 := Lib.hid (HNE.out (fun h => e1 (congrArg Prod.fst h))); clear e1; go_wp2; go_ret; exact ⟨ret_bool (by rw [HF2.out] <;> rfl), HB.out.trans (HU.out.mono HB.out.size)⟩
        ·obtain ⟨u1, hu1⟩ : ∃ u1, u1 = wr.alloc (.cells #[.int .i64 ly, .slice yA ys.length yc] 50) := ⟨_, rfl⟩
         obtain ⟨u2, hu2⟩ : ∃ u2, u2 = u1.alloc (.cells #[.int .i64 lx, .slice xA xs.length xc] 50) := ⟨_, rfl⟩
         have t1 : Below wr.heap.size wr u1 := by rw [hu1]; exact below_new _ _
         have t2 : Below u1.heap.size u1 u2 := by rw [hu2]; exact below_new _ _
         have z1 : u1.heap.size = wr.heap.size + 1 := by rw [hu1]; simp
         have v1 : Blk u1 wr.heap.size 50 #[.int .i64 ly, .slice yA ys.length yc] := by rw [hu1]; exact Blk.new _ _ _
         have v2 : Blk u2 u1.heap.size 50 #[.int .i64 lx, .slice xA xs.length xc] := by rw [hu2]; exact Blk.new _ _ _
         have v1' := v1.below t2 v1.lt; rw [z1] at v2; have t3 := t1.trans (t2.mono t1.size); rw [hu1] at hu2; rw [← hu2]; obtain ⟨u3, hu3⟩ : ∃ u3, u3 = u2.drew := ⟨_, rfl⟩
         rw [← hu3]; have t3 : Below wr.heap.size wr u3 := by rw [hu3]; exact t3.drew
         have v1' : Blk u3 wr.heap.size 50 #[.int .i64 ly, .slice yA ys.length yc] := by rw [hu3]; exact v1'
         have v2 : Blk u3 (wr.heap.size + 1) 50 #[.int .i64 lx, .slice xA xs.length xc] := by rw [hu3]; exact v2
         have HU := Lib.hid ((HB2.out.trans (t3.mono HB2.out.size))); have HXU := Lib.hid (HXI.out.ext t3); have HYU := Lib.hid (HYI.out.ext t3); have m0 := v2.cell_ 0 (.int .i64 lx) rfl; have m1 := v2.cell_ 1 (.slice xA xs.length xc) rfl; have n0 := v1'.cell_ 0 (.int .i64 ly) rfl; have n1 := v1'.cell_ 1 (.slice yA ys.length yc) rfl; clear t1 t2 v1 v2 v1' t3 hu1 hu2 hu3 z1 x0 x1 y0 y1 x2 y2 hz1 hz2 hb1 hb2; by_cases e1 : lx = ly
         ·have f1 : (lx != ly) = false := by simp [e1]
          have HE4 := Lib.hid e1; clear e1; by_cases e2 : xs.length = ys.length
          ·have f2 : ((xs.length : Int) != (ys.length : Int)) = false := by simp [e2]
           have HE5 := Lib.hid e2; have lx1 := HXU.out.le; have ly1 := HYU.out.le; clear e2; have HLT := Lib.hid hlt; have HL3 := Lib.hid l3; clear hlt hlt2 l1 l2 l3 l4; go_wp2; clear f1 f2; go_loopw [9] (fun i wi => ∃ m q : Nat, m ≤ xs.length ∧ i = .int .i64 m ∧ wi = u3.drewN q ∧ Hid (xs.take m = ys.take m)) (fun i _ => xs.length - (intOf i).toNat)
           case atStart => exact ⟨0, 0, Nat.zero_le _, rfl, rfl, Lib.hid rfl⟩
           case round =>
            obtain ⟨m, qd, hm, rfl, rfl, HTI⟩ := hrel; by_cases hml : m < xs.length
            ·have hml2 : m < ys.length := by have := HE5.out; omega
             obtain ⟨bx, ox, rfl, -, hc⟩ := HXU.out.at_ hml; obtain ⟨bz, oz, rfl, -, hc2⟩ := HYU.out.at_ hml2; go_wp2; go_quiet (fail)
             go_wp2
             ·have hne : ¬ xs[m] = ys[m] := by simpa using ‹(xs[m] != ys[m]) = true›
              have HF2 := Lib.hid (HNE.out (fun h => hne (by
               have h5 : xs = ys := congrArg Prod.snd h; subst h5; rfl)))
              go_ret; exact ⟨ret_bool (by rw [HF2.out] <;> rfl), below_drewN (below_drewN (HB.out.trans (HU.out.mono HB.out.size)) _) _⟩
             ·have he : xs[m] = ys[m] := by simpa using ‹(xs[m] != ys[m]) = false›
              go_roundw
              case rel => exact ⟨m + 1, _, by omega, by go_num, rfl, Lib.hid (take_eq_snoc HTI.out hml hml2 he)⟩
              case measure => simp [intOf]; omega
            ·have hk' : m = xs.length := by omega
             have hfin : xs = ys := by
              have := HTI.out; rwa [hk', List.take_of_length_le (Nat.le_refl _), List.take_of_length_le (by rw [HE5.out]; exact Nat.le_refl _)] at this
             have HNX := Lib.hid (HTK.out (by
              have h4 := HE4.out; subst h4 hfin; rfl))
             clear hfin hk'; have hw1 : wrap64 ((k : Int) + 1) = (k : Int) + 1 := by have := HLT.out; have := HL3.out; unfold wrap64; omega
             go_wp2; go_roundw
             case rel => exact ⟨k + 1, HLT.out, (by rw [hw1]; rfl), Lib.hid (below_drewN HU.out _), HNX⟩
             case measure => rw [hw1]; have := HLT.out; simp [intOf]; omega
          ·have f2 : ((xs.length : Int) != (ys.length : Int)) = true := by simp; omega
           have HF2 := Lib.hid (HNE.out (fun h => e2 (by
            have h5 : xs = ys := congrArg Prod.snd h; rw [h5])))
           clear e2; go_wp2; go_ret; exact ⟨ret_bool (by rw [HF2.out] <;> rfl), HB.out.trans (HU.out.mono HB.out.size)⟩
         ·have f1 : (lx != ly) = true := by simp [e1]
          have HF2 := Lib.hid (HNE.out (fun h => e1 (congrArg Prod.fst h))); clear e1; go_wp2; go_ret; exact ⟨ret_bool (by rw [HF2.out] <;> rfl), HB.out.trans (HU.out.mono HB.out.size)⟩
       ·have hk' : k = h1.length := by omega
        have HF2 : Hid (sameP ⟨s1, p1, h1.map Hd.nd⟩ ⟨s2, p2, h2.map Hd.nd⟩ = true) := Lib.hid (by
         have h7 := HT.out; rw [hk', List.take_of_length_le (Nat.le_refl _), List.take_of_length_le (by rw [HE3.out]; exact Nat.le_refl _)] at h7; unfold sameP; dsimp only; rw [decide_eq_true HE1.out, decide_eq_true HF.out, decide_eq_true h7]; rfl)
        clear hk' r1 r2; go_wp2; go_ret; exact ⟨ret_bool (by rw [HF2.out] <;> rfl), HB.out.trans (HB2.out.mono HB.out.size)⟩
   ·have f3 : ((h1.length : Int) != (h2.length : Int)) = true := by simp; omega
    have HF : Hid (sameP ⟨s1, p1, h1.map Hd.nd⟩ ⟨s2, p2, h2.map Hd.nd⟩ = false) := Lib.hid (by
     unfold sameP; rw [show decide (h1.map Hd.nd = h2.map Hd.nd) = false from decide_eq_false (fun h => e3 (by simpa using congrArg List.length h))]
     simp)
    clear e3; go_enter Tryd.func13, Tryd.ntmps13; go_upto_region 1 with fail
    rw [← HW.out]; go_wp2; go_ret; exact ⟨ret_bool (by rw [HF.out] <;> rfl), HB.out⟩
  ·have f2 : ((p1.length : Int) != (p2.length : Int)) = true := by simp; omega
   have HF : Hid (sameP ⟨s1, p1, h1.map Hd.nd⟩ ⟨s2, p2, h2.map Hd.nd⟩ = false) := Lib.hid (by
    unfold sameP; rw [show decide (p1 = p2) = false from decide_eq_false (fun h => e2 (by rw [h]))]
    simp)
   clear e2; go_enter Tryd.func13, Tryd.ntmps13; go_upto_region 1 with fail
   rw [← HW.out]; go_wp2; go_ret; exact ⟨ret_bool (by rw [HF.out] <;> rfl), HB.out⟩
 ·have f1 : (s1 != s2) = true := by simp [e1]
  have HF : Hid (sameP ⟨s1, p1, h1.map Hd.nd⟩ ⟨s2, p2, h2.map Hd.nd⟩ = false) := Lib.hid (by
   unfold sameP; rw [show decide (s1 = s2) = false from decide_eq_false e1]
   simp)
  clear e1; go_enter Tryd.func13, Tryd.ntmps13; go_upto_region 1 with fail
  rw [← HW.out]; go_wp2; go_ret; exact ⟨ret_bool (by rw [HF.out] <;> rfl), HB.out⟩

theorem rsamet_at {t u : PT} {v x : Value} {w : World} (h : TreeAt w v t) (k : TreeAt w x u) : Calls Tryd.prog 13 #[v, x] w fun e w' => e = .returned (.bool (sameP t u)) ∧ Below w.heap.size w w' := by
 obtain ⟨A, c, B, d, os, rfl, h2, h3, h4⟩ := h; obtain ⟨A', c', B', d', os', rfl, k2, k3, k4⟩ := k; have := rsamet_any t.st u.st A c t.ps B d os A' c' u.ps B' d' os' w h2 h3 k2 k3; rw [h4, k4] at this; exact this
theorem equalP_eq (a b : PT) : equalP a b = (a.right && b.right && sameP (redT a) (redT b)) := by
 unfold equalP; cases ha : a.right with
 | false => simp
 | true =>
  cases hb : b.right with
  | false => simp
  | true =>
   simp only [Bool.true_and]; have e1 : redT a = ⟨a.st, a.ps, redN chR a.ns⟩ := by unfold redT; rw [ha]; rfl
   have e2 : redT b = ⟨b.st, b.ps, redN chR b.ns⟩ := by unfold redT; rw [hb]; rfl
   rw [e1, e2]; unfold sameP; dsimp only; cases decide (a.st = b.st) <;> cases decide (a.ps = b.ps) <;> simp
end Go.Proofs.YtlegfdllipkggaaDoor
namespace Go.Proofs.YtlegfdllipkggaaDoor
set_option linter.unusedVariables false
set_option linter.unusedSimpArgs false
set_option maxRecDepth 100000
def Shp (ins : List Int) : Prop := ∀ i (h : i < ins.length), ins[i] = -1 - (i : Int) ∨ 0 ≤ ins[i]
theorem getD_range15 {q L i : Nat} (hi : i < L) : (List.replicate L ((List.range q).map fun (s : Nat) => (s : Int))).getD i [] = (List.range q).map fun (s : Nat) => (s : Int) := by
 rw [List.getD_eq_getElem?_getD, List.getElem?_replicate, if_pos hi]; rfl
theorem bind_shape {q L : Nat} {ins inn : List Int} (hs : Shp ins) (h40 : ins.length ≤ 40) (hL : ins.length ≤ L) (hlen : inn.length = ins.length) (hin : ∀ s ∈ inn, 0 ≤ s ∧ s < (q : Int)) :
  ∀ (n i : Nat) (bs : List Int), n + i = ins.length → bs.length = 40 → (∀ j, i ≤ j → j < 40 → bs.getD j 0 = -1) →
   ((bindAll (List.replicate L ((List.range q).map fun (s : Nat) => (s : Int))) (ins.drop i) (inn.drop i) bs).isSome = true ↔ ∀ j, i ≤ j → j < ins.length → 0 ≤ ins.getD j 0 → ins.getD j 0 = inn.getD j 0)
 | 0, i, bs, hn, hb, hf => by
  rw [List.drop_of_length_le (by omega)]; exact ⟨fun _ j h1 h2 => absurd h2 (by omega), fun _ => rfl⟩
 | n + 1, i, bs, hn, hb, hf => by
  have h1 : i < ins.length := by omega
  have h2 : i < inn.length := by omega
  have ei : ins.getD i 0 = ins[i] := by rw [List.getD_eq_getElem?_getD, List.getElem?_eq_getElem h1]; rfl
  have en : inn.getD i 0 = inn[i] := by rw [List.getD_eq_getElem?_getD, List.getElem?_eq_getElem h2]; rfl
  have hr := hin inn[i] (List.getElem_mem h2); rw [bindAll_step h1 h2]; by_cases h0 : 0 ≤ ins[i]
  ·have ea : acceptP (List.replicate L ((List.range q).map fun (s : Nat) => (s : Int))) bs ins[i] inn[i] = (ins[i] == inn[i], false, bs) := by unfold acceptP; rw [if_pos h0]
   rw [ea]; by_cases e : ins[i] = inn[i]
   ·rw [if_pos (by simpa using e)]; rw [bind_shape hs h40 hL hlen hin n (i + 1) bs (by omega) hb (fun j hj => hf j (by omega))]; refine ⟨fun h j h3 h4 => ?_, fun h j h3 h4 => h j (by omega) h4⟩; rcases Nat.lt_or_ge i j with h5 | h5
    ·exact h j h5 h4
    ·obtain rfl : j = i := by omega
     intro _; rw [ei, en, e]
   ·rw [if_neg (by simpa using e)]; refine ⟨fun h => by simp at h, fun h => ?_⟩; have := h i (Nat.le_refl _) h1 (by rw [ei]; exact h0); rw [ei, en] at this; exact absurd this e
  ·have e : ins[i] = -1 - (i : Int) := by
    rcases hs i h1 with h3 | h3
    ·exact h3
    ·exact absurd h3 h0
   have ek : (-1 - ins[i]).toNat = i := by rw [e]; omega
   have ea : acceptP (List.replicate L ((List.range q).map fun (s : Nat) => (s : Int))) bs ins[i] inn[i] = (true, true, bs.set i inn[i]) := by
    unfold acceptP; rw [if_neg h0, ek, if_neg (by rw [hf i (Nat.le_refl _) (by omega)]; decide), getD_range15 (by omega), if_pos]; rw [List.mem_map]; exact ⟨inn[i].toNat, List.mem_range.2 (by omega), by omega⟩
   rw [ea, if_pos rfl]; rw [bind_shape hs h40 hL hlen hin n (i + 1) (bs.set i inn[i]) (by omega) (by rw [List.length_set]; exact hb) (fun j hj hj2 => by
    have := hf j (by omega) hj2; rw [List.getD_eq_getElem?_getD] at this ⊢; rw [List.getElem?_set_ne (by omega)]; exact this)]
   refine ⟨fun h j h3 h4 => ?_, fun h j h3 h4 => h j (by omega) h4⟩; rcases Nat.lt_or_ge i j with h5 | h5
   ·exact h j h5 h4
   ·obtain rfl : j = i := by omega
    intro h6; rw [ei] at h6; exact absurd h6 h0
def Mt (ins inn : List Int) : Prop := ∀ j, j < ins.length → 0 ≤ ins.getD j 0 → ins.getD j 0 = inn.getD j 0
theorem plain_shape {q L : Nat} {ins inn : List Int} {out : Int} (hs : Shp ins) (h40 : ins.length ≤ 40) (hL : ins.length ≤ L) (hlen : inn.length = ins.length) (hin : ∀ s ∈ inn, 0 ≤ s ∧ s < (q : Int)) (ho : 0 ≤ out) :
  (Mt ins inn → plainP (List.replicate L ((List.range q).map fun (s : Nat) => (s : Int))) ins out inn = (out, true)) ∧ (¬ Mt ins inn → plainP (List.replicate L ((List.range q).map fun (s : Nat) => (s : Int))) ins out inn = (0, false)) := by
 have hb := bind_shape (L := L) hs h40 hL hlen hin ins.length 0 negL rfl (by decide) (fun j _ hj => by
  unfold negL; rw [List.getD_eq_getElem?_getD, List.getElem?_replicate, if_pos hj]; rfl)
 rw [List.drop_zero, List.drop_zero] at hb; refine ⟨fun h => ?_, fun h => ?_⟩
 ·have h1 := hb.2 (fun j _ h2 => h j h2); obtain ⟨bs, hbs⟩ := Option.isSome_iff_exists.1 h1; rw [plainP_some hbs]; unfold outP; rw [if_pos ho]
 ·cases hx : bindAll (List.replicate L ((List.range q).map fun (s : Nat) => (s : Int))) ins inn negL with
  | none => exact plainP_none hx
  | some bs =>
   exfalso; refine h (fun j h2 h3 => ?_); exact (hb.1 (by rw [hx]; rfl)) j (Nat.zero_le _) h2 h3
end Go.Proofs.YtlegfdllipkggaaDoor
namespace Go.Proofs.YtlegfdllipkggaaDoor
open Go.RowKit
set_option linter.unusedVariables false
set_option linter.unusedSimpArgs false
set_option maxRecDepth 100000
def gtB (a b : Int × Int) : Bool := decide (0 < ordP a.1 a.2 b.1 b.2)
theorem gtB_iff (a b : Int × Int) : gtB a b = true ↔ b.2 < a.2 ∨ (b.2 = a.2 ∧ b.1 < a.1) := by
 unfold gtB ordP Lib.compareInt; rw [decide_eq_true_iff]; by_cases h1 : a.2 < b.2
 ·simp [h1]; omega
 ·by_cases h2 : b.2 < a.2
  ·simp [h1, h2]
  ·have h3 : b.2 = a.2 := by omega
   by_cases h4 : a.1 < b.1
   ·simp [h3, h4]; omega
   ·by_cases h5 : b.1 < a.1
    ·simp [h3, h4, h5]
    ·simp [h3, h4, h5]
theorem chainH_pw : ∀ (l : List (Int × Int)) (q : Option (Int × Int)), chainH q l = true → l.Pairwise (fun a b => gtB b a = true) ∧ ∀ a, q = some a → ∀ b ∈ l, gtB b a = true
 | [], _, _ => ⟨.nil, fun _ _ _ h => absurd h (by simp)⟩
 | p :: l, q, h => by
  simp only [chainH, Bool.and_eq_true] at h; obtain ⟨h1, h2⟩ := chainH_pw l (some p) h.2; have h3 := h2 p rfl; refine ⟨List.pairwise_cons.2 ⟨h3, h1⟩, fun a e b hb => ?_⟩; subst e; have h4 : gtB p a = true := by
   have := h.1; simp only [okH, Bool.and_eq_true, decide_eq_true_eq] at this; have := this.2; rw [gtB_iff]; unfold ordP Lib.compareInt at this; by_cases c1 : a.2 < p.2
   ·exact .inl c1
   ·by_cases c2 : p.2 < a.2
    ·simp [c1, c2] at this
    ·have c3 : a.2 = p.2 := by omega
     by_cases c4 : a.1 < p.1
     ·exact .inr ⟨c3, c4⟩
     ·exfalso; by_cases c5 : p.1 < a.1
      ·simp [c3, c4, c5] at this
      ·simp [c3, c4, c5] at this
  rcases List.mem_cons.1 hb with e | hb
  ·subst e; exact h4
  ·have := h3 b hb; rw [gtB_iff] at *; omega
theorem hood_nodup {ps : List (Int × Int)} (h : hoodB ps = true) : ps.Nodup := by
 unfold hoodB at h; rw [Bool.and_eq_true] at h; have := (chainH_pw ps none h.2).1; refine this.imp fun {a b} h e => ?_; subst e; rw [gtB_iff] at h; omega
theorem idxF_at {ps : List (Int × Int)} (hn : ps.Nodup) {i : Nat} (hi : i < ps.length) : idxF ps[i] 0 ps = (i : Int) := by
 have key : ∀ (n k : Nat), n + k = i → k ≤ i → idxF ps[i] k (ps.drop k) = (i : Int) := by
  intro n; induction n with
  | zero =>
   intro k hk _; obtain rfl : k = i := by omega
   rw [idxF_step hi, if_pos rfl]
  | succ n ih =>
   intro k hk hki; have hkl : k < ps.length := by omega
   rw [idxF_step hkl, if_neg (fun e => by
    have := (List.getElem_inj hn).1 e; omega)]
   exact ih (k + 1) (by omega) (by omega)
 have := key i 0 (by omega) (Nat.zero_le _); rwa [List.drop_zero] at this
theorem turned0 {ps : List (Int × Int)} (h : hoodB ps = true) {inn : List Int} (hl : inn.length = ps.length) : turnedP ps 0 inn = inn := by
 unfold turnedP; refine List.ext_getElem (by rw [List.length_map, hl]) fun i h1 h2 => ?_; rw [List.length_map] at h1; rw [List.getElem_map, symP_0, idxF_at (hood_nodup h) h1, Int.toNat_natCast, List.getD_eq_getElem?_getD, List.getElem?_eq_getElem h2]; rfl
theorem row_shape {x : TabL} (h0 : x.sym = 0) (hh : hoodB x.hood = true) {q : Nat} (hv : x.vars = List.replicate x.hood.length ((List.range q).map fun (s : Nat) => (s : Int))) {ins inn : List Int} {out : Int}
  (hs : Shp ins) (hl : ins.length = x.hood.length) (hlen : inn.length = x.hood.length) (hin : ∀ s ∈ inn, 0 ≤ s ∧ s < (q : Int)) (ho : 0 ≤ out) :
  (Mt ins inn → rowD x inn (ins, out) = (out, true)) ∧ (¬ Mt ins inn → (rowD x inn (ins, out)).2 = false) := by
 have h25 := (hoodB_len hh).2; obtain ⟨p1, p2⟩ := plain_shape (q := q) (L := x.hood.length) (out := out) hs (by omega) (by omega) (by omega) hin ho; have e1 : rowD x inn (ins, out) = if (plainP x.vars ins out inn).2 = true then better (0, false) (plainP x.vars ins out inn).1 else (0, false) := by
  unfold rowD decideP; rw [h0, if_neg (by decide)]; show decTo x.hood x.vars ins out inn 1 = _; simp only [decTo]; rw [show ((0 : Nat) : Int) = 0 from rfl, turned0 hh hlen]
 rw [e1, hv]; refine ⟨fun h => ?_, fun h => ?_⟩
 ·rw [p1 h, if_pos rfl]; unfold better; rw [if_pos (.inl rfl)]
 ·rw [p2 h]; rfl
theorem firstD_app (x : TabL) (inn : List Int) : ∀ (a b : List Rw), firstD x inn (a ++ b) = (firstD x inn a).or (firstD x inn b)
 | [], b => rfl
 | r :: a, b => by
  rw [List.cons_append]; simp only [firstD]; by_cases h : (rowD x inn r).2 = true
  ·rw [if_pos h, if_pos h]; rfl
  ·rw [if_neg h, if_neg h]; exact firstD_app x inn a b
def NdL (q : Nat) (ns : List Nd) (k : Int) : Nat → Prop
 | 0 => 0 ≤ k ∧ k < (q : Int)
 | L + 1 => 0 ≤ k ∧ k.toNat < ns.length ∧ (ndAt ns k.toNat).1 = ((L + 1 : Nat) : Int)
theorem NdL.kid {q L : Nat} {ns : List Nd} {k z : Int} (hV : VNd q ns) (h : NdL q ns k (L + 1)) (hz : z ∈ (ndAt ns k.toNat).2) : NdL q ns z L := by
 obtain ⟨h1, h2, h3⟩ := h; cases L with
 | zero => exact hV.low _ h2 (by rw [h3]; rfl) z hz
 | succ L =>
  obtain ⟨a1, a2, a3⟩ := hV.lev.kids _ h2 (by rw [h3]; omega) z hz; exact ⟨a1, a2, by rw [a3, h3]; omega⟩
def OkV (c : Int) (inn : List Int) (o : Option Int) (v : Int) : Prop := o = some v ∨ (o = none ∧ if c < 0 then v = 0 else inn.getD c.toNat 0 = v)
theorem getD_intsN (l : List Nat) (i : Nat) : (intsN l).getD i 0 = ((l.getD i 0 : Nat) : Int) := by
 unfold intsN; rw [List.getD_eq_getElem?_getD, List.getElem?_map, List.getD_eq_getElem?_getD]; cases l[i]? <;> rfl
theorem Shp.snoc {ins : List Int} (h : Shp ins) {e : Int} (he : e = -1 - (ins.length : Int) ∨ 0 ≤ e) : Shp (ins ++ [e]) := fun i hi => by
 rw [List.length_append, List.length_singleton] at hi; rcases Nat.lt_or_ge i ins.length with h1 | h1
 ·rw [List.getElem_append_left h1]; exact h i h1
 ·obtain rfl : i = ins.length := by omega
  rw [List.getElem_append_right (Nat.le_refl _)]; simpa using he
theorem Mt.snoc {ins inn : List Int} {e : Int} : Mt (ins ++ [e]) inn ↔ Mt ins inn ∧ (0 ≤ e → e = inn.getD ins.length 0) := by
 have g1 : ∀ j, j < ins.length → (ins ++ [e]).getD j 0 = ins.getD j 0 := fun j hj => by
  rw [List.getD_eq_getElem?_getD, List.getElem?_append_left hj, List.getD_eq_getElem?_getD]
 have g2 : (ins ++ [e]).getD ins.length 0 = e := by
  rw [List.getD_eq_getElem?_getD, List.getElem?_append_right (Nat.le_refl _), Nat.sub_self]; rfl
 refine ⟨fun h => ⟨fun j hj => ?_, ?_⟩, fun h j hj => ?_⟩
 ·have := h j (by rw [List.length_append]; omega); rw [g1 j hj] at this; exact this
 ·have := h ins.length (by simp); rw [g2] at this; exact this
 ·rw [List.length_append, List.length_singleton] at hj; rcases Nat.lt_or_ge j ins.length with h1 | h1
  ·rw [g1 j h1]; exact h.1 j h1
  ·obtain rfl : j = ins.length := by omega
   rw [g2]; exact h.2
theorem sameL_get {l : List Int} (h : sameL l = true) {s : Nat} (hs : s < l.length) : l.getD s 0 = l.headD 0 := by
 unfold sameL at h; rw [List.all_eq_true] at h; rw [List.getD_eq_getElem?_getD, List.getElem?_eq_getElem hs]; simpa using h l[s] (List.getElem_mem hs)
theorem first_rows {x : TabL} (h0 : x.sym = 0) (hh : hoodB x.hood = true) {q : Nat} (hv : x.vars = List.replicate x.hood.length ((List.range q).map fun (s : Nat) => (s : Int))) {ns : List Nd} (hV : VNd q ns) (c : Int) :
  ∀ (L : Nat) (ins : List Int) (k : Int) (pre rest : List Nat), Shp ins → NdL q ns k L → pre.length = ins.length → rest.length = L → ins.length + L = x.hood.length → (∀ s ∈ pre ++ rest, s < q) →
   (¬ Mt ins (intsN (pre ++ rest)) → firstD x (intsN (pre ++ rest)) (rowsT ns c L ins k) = none) ∧ (Mt ins (intsN (pre ++ rest)) → OkV c (intsN (pre ++ rest)) (firstD x (intsN (pre ++ rest)) (rowsT ns c L ins k)) (val ns k rest))
 | 0, ins, k, pre, rest, hs, hk, hp, hr, hl, hq => by
  obtain rfl : rest = [] := List.length_eq_zero_iff.1 hr; rw [List.append_nil] at hq ⊢; have hlen : (intsN pre).length = x.hood.length := by rw [intsN_len]; omega
  have hin : ∀ s ∈ intsN pre, 0 ≤ s ∧ s < (q : Int) := fun s h => by
   unfold intsN at h; obtain ⟨y, hy, rfl⟩ := List.mem_map.1 h; have := hq y hy; omega
  show (_ → firstD x (intsN pre) (if skipR c ins k = true then [] else [(ins, k)]) = none) ∧ (_ → OkV c (intsN pre) (firstD x (intsN pre) (if skipR c ins k = true then [] else [(ins, k)])) k)
  obtain ⟨r1, r2⟩ := row_shape h0 hh hv hs (by omega) hlen hin hk.1; by_cases hsk : skipR c ins k = true
  ·rw [if_pos hsk]; refine ⟨fun _ => rfl, fun hm => .inr ⟨rfl, ?_⟩⟩; unfold skipR at hsk; by_cases hc : c < 0
   ·rw [if_pos hc] at hsk ⊢; simpa using hsk
   ·rw [if_neg hc] at hsk ⊢; have e : ins.getD c.toNat 0 = k := by simpa using hsk
    rcases Nat.lt_or_ge c.toNat ins.length with h1 | h1
    ·have := hm c.toNat h1 (by rw [e]; exact hk.1); rw [← this, e]
    ·rw [List.getD_eq_getElem?_getD, List.getElem?_eq_none h1] at e; rw [List.getD_eq_getElem?_getD, List.getElem?_eq_none (by rw [intsN_len]; omega)]; exact e
  ·rw [if_neg hsk]; refine ⟨fun hm => ?_, fun hm => .inl ?_⟩
   ·simp only [firstD]; rw [if_neg (by rw [r2 hm]; simp)]
   ·simp only [firstD]; rw [r1 hm, if_pos rfl]
 | L + 1, ins, k, pre, rest, hs, hk, hp, hr, hl, hq => by
  obtain ⟨s, r, rfl⟩ : ∃ s r, rest = s :: r := by
   cases rest with
   | nil => simp at hr
   | cons s r => exact ⟨s, r, rfl⟩
  have hsq : s < q := hq s (by simp); have hzl : (ndAt ns k.toNat).2.length = q := hV.lev.len _ hk.2.1; have hap : pre ++ s :: r = (pre ++ [s]) ++ r := by simp
  have hgs : (intsN (pre ++ s :: r)).getD ins.length 0 = (s : Int) := by
   rw [getD_intsN, List.getD_eq_getElem?_getD, List.getElem?_append_right (by omega), show ins.length - pre.length = 0 by omega]; rfl
  have hkid : ∀ t, t < q → NdL q ns ((ndAt ns k.toNat).2.getD t 0) L := fun t ht => hk.kid hV (by
   rw [List.getD_eq_getElem?_getD, List.getElem?_eq_getElem (by omega)]; exact List.getElem_mem _)
  have ih : ∀ (e z : Int), (e = -1 - (ins.length : Int) ∨ 0 ≤ e) → NdL q ns z L → (¬ Mt (ins ++ [e]) (intsN (pre ++ s :: r)) → firstD x (intsN (pre ++ s :: r)) (rowsT ns c L (ins ++ [e]) z) = none) ∧ (Mt (ins ++ [e]) (intsN (pre ++ s :: r)) → OkV c (intsN (pre ++ s :: r)) (firstD x (intsN (pre ++ s :: r)) (rowsT ns c L (ins ++ [e]) z)) (val ns z r)) := fun e z he hz => by
   rw [hap]; rw [hap] at hq; exact first_rows h0 hh hv hV c L (ins ++ [e]) z (pre ++ [s]) r (hs.snoc he) hz (by simp [hp]) (by simpa using hr) (by simp; omega) hq
  show _ ∧ (_ → OkV _ _ _ (val ns ((ndAt ns k.toNat).2.getD s 0) r))
  cases hsm : sameL (ndAt ns k.toNat).2 with
  | true =>
   rw [rowsT_all hsm, sameL_get hsm (by omega)]; obtain ⟨i1, i2⟩ := ih (-1 - (ins.length : Int)) ((ndAt ns k.toNat).2.headD 0) (.inl rfl) (by rw [← sameL_get hsm (s := s) (by omega)]; exact hkid s hsq); have hmt : Mt (ins ++ [-1 - (ins.length : Int)]) (intsN (pre ++ s :: r)) ↔ Mt ins (intsN (pre ++ s :: r)) := by
    rw [Mt.snoc]; exact ⟨fun h => h.1, fun h => ⟨h, fun h2 => by omega⟩⟩
   rw [hmt] at i1 i2; exact ⟨i1, i2⟩
  | false =>
   rw [rowsT_each hsm, hzl]; have step : ∀ j, j ≤ q → (¬ Mt ins (intsN (pre ++ s :: r)) → firstD x (intsN (pre ++ s :: r)) (rowsK ns c L ins (ndAt ns k.toNat).2 j) = none) ∧
     (Mt ins (intsN (pre ++ s :: r)) → (j ≤ s → firstD x (intsN (pre ++ s :: r)) (rowsK ns c L ins (ndAt ns k.toNat).2 j) = none) ∧ (s < j → OkV c (intsN (pre ++ s :: r)) (firstD x (intsN (pre ++ s :: r)) (rowsK ns c L ins (ndAt ns k.toNat).2 j)) (val ns ((ndAt ns k.toNat).2.getD s 0) r))) := by
    intro j; induction j with
    | zero => exact fun _ => ⟨fun _ => rfl, fun _ => ⟨fun _ => rfl, fun h => absurd h (by omega)⟩⟩
    | succ j ihj =>
     intro hj; obtain ⟨j1, j2⟩ := ihj (by omega); obtain ⟨i1, i2⟩ := ih (j : Int) ((ndAt ns k.toNat).2.getD j 0) (.inr (by omega)) (hkid j (by omega)); have hmt : Mt (ins ++ [(j : Int)]) (intsN (pre ++ s :: r)) ↔ Mt ins (intsN (pre ++ s :: r)) ∧ j = s := by
      rw [Mt.snoc, hgs]; exact ⟨fun h => ⟨h.1, by have := h.2 (by omega); omega⟩, fun h => ⟨h.1, fun _ => by rw [h.2]⟩⟩
     rw [hmt] at i1 i2; rw [rowsK_step, firstD_app]; refine ⟨fun hm => ?_, fun hm => ⟨fun hjs => ?_, fun hjs => ?_⟩⟩
     ·rw [j1 hm, i1 (fun h => hm h.1)]; rfl
     ·rw [(j2 hm).1 (by omega), i1 (fun h => by omega)]; rfl
     ·rcases Nat.lt_or_ge s j with h5 | h5
      ·rw [i1 (fun h => by omega), Option.or_none]; exact (j2 hm).2 h5
      ·obtain rfl : j = s := by omega
       rw [(j2 hm).1 (Nat.le_refl _), Option.none_or]; exact i2 ⟨hm, rfl⟩
   obtain ⟨s1, s2⟩ := step q (Nat.le_refl _); exact ⟨s1, fun hm => (s2 hm).2 hsq⟩
theorem okVar_range {q : Nat} (h2 : 2 ≤ q) (h8 : q ≤ 8) : okVar (q : Int) ((List.range q).map fun (s : Nat) => (s : Int)) = true := by
 obtain rfl | rfl | rfl | rfl | rfl | rfl | rfl : q = 2 ∨ q = 3 ∨ q = 4 ∨ q = 5 ∨ q = 6 ∨ q = 7 ∨ q = 8 := by omega
 all_goals decide
theorem rows_ok {q N : Nat} {ns : List Nd} (hq1 : 1 ≤ q) (hV : VNd q ns) (c : Int) : ∀ (L : Nat) (ins : List Int) (k : Int), NdL q ns k L → ins.length + L = N → (∀ e ∈ ins, elB (q : Int) N e = true) → ∀ r ∈ rowsT ns c L ins k, okRow (q : Int) N N r = true
 | 0, ins, k, hk, hl, he, r, hr => by
  have hr2 : r = (ins, k) := by
   have : r ∈ (if skipR c ins k = true then [] else [(ins, k)]) := hr; by_cases h : skipR c ins k = true
   ·rw [if_pos h] at this; simp at this
   ·rw [if_neg h] at this; simpa using this
  subst hr2; obtain ⟨k1, k2⟩ := hk; unfold okRow; dsimp only; rw [decide_eq_true (by omega : ins.length = N), decide_eq_true k1, show elB (q : Int) N k = true by unfold elB; rw [decide_eq_true k2, decide_eq_true (by omega)]; rfl, List.all_eq_true.2 he]; rfl
 | L + 1, ins, k, hk, hl, he, r, hr => by
  have hzl : (ndAt ns k.toNat).2.length = q := hV.lev.len _ hk.2.1; have hkid : ∀ t, t < q → NdL q ns ((ndAt ns k.toNat).2.getD t 0) L := fun t ht => hk.kid hV (by
   rw [List.getD_eq_getElem?_getD, List.getElem?_eq_getElem (by omega)]; exact List.getElem_mem _)
  have ih : ∀ (e z : Int), elB (q : Int) N e = true → NdL q ns z L → ∀ r ∈ rowsT ns c L (ins ++ [e]) z, okRow (q : Int) N N r = true := fun e z h1 h2 => rows_ok hq1 hV c L (ins ++ [e]) z h2 (by simp; omega) (fun y hy => by
   rcases List.mem_append.1 hy with hy | hy
   ·exact he y hy
   ·rw [List.mem_singleton.1 hy]; exact h1)
  cases hsm : sameL (ndAt ns k.toNat).2 with
  | true =>
   rw [rowsT_all hsm] at hr; refine ih _ _ ?_ (by rw [← sameL_get hsm (s := 0) (by omega)]; exact hkid 0 (by omega)) r hr; unfold elB; rw [decide_eq_true (by omega), decide_eq_true (by omega)]; rfl
  | false =>
   rw [rowsT_each hsm, hzl] at hr; unfold rowsK at hr; obtain ⟨s, hs, hrs⟩ := List.mem_flatMap.1 hr; rw [List.mem_range] at hs; refine ih _ _ ?_ (hkid s hs) r hrs; unfold elB; rw [decide_eq_true (by omega), decide_eq_true (by omega)]; rfl
theorem tableP_eq {t : PT} (hr : t.right = true) (h4 : (rowsOf t).length ≤ 400) : tableP t = (⟨t.st, 0, t.ps, List.replicate t.ps.length ((List.range t.st.toNat).map fun (s : Nat) => (s : Int)), rowsOf t⟩, 0) := by
 unfold tableP; rw [if_neg (by rw [hr]; simp), if_neg (by omega)]
theorem back_law {t : PT} (hr : t.right = true) (h4 : (rowsOf t).length ≤ 400) (ht : tinyB (tableP t).1 = true) : treeT (tableP t).1 = (redT t, 0) := by
 obtain ⟨a1, a2, a3, a4, a5, a6, a7, a8, a9⟩ := rightN_parts hr; have hc := red_canT hr; obtain ⟨-, -, -, heq, -, est, eps⟩ := redT_ok hr; obtain ⟨x, hx⟩ : ∃ x, x = (tableP t).1 := ⟨_, rfl⟩
 rw [← hx] at ht ⊢; rw [tableP_eq hr h4] at hx; obtain ⟨q, hq⟩ : ∃ q : Nat, t.st = (q : Int) := ⟨t.st.toNat, by omega⟩
 have hqn : t.st.toNat = q := by rw [hq]; rfl
 rw [hqn] at hx hc; obtain ⟨L, hL⟩ : ∃ L, L = t.ps.length := ⟨_, rfl⟩
 have hL1 : 1 ≤ L := by rw [hL]; exact (hoodB_len a3).1
 have hroot : NdL q (redT t).ns (((redT t).ns.length - 1 : Nat) : Int) L := by
  obtain ⟨L', rfl⟩ : ∃ L', L = L' + 1 := ⟨L - 1, by omega⟩
  refine ⟨by omega, by rw [Int.toNat_natCast]; have := hc.pos; omega, ?_⟩; rw [Int.toNat_natCast, hc.root, ← hL]
 have xh : x.hood = t.ps := by rw [hx]
 have xs : x.sym = 0 := by rw [hx]
 have xt : x.st = (q : Int) := by rw [hx, hq]
 have xv : x.vars = List.replicate x.hood.length ((List.range q).map fun (s : Nat) => (s : Int)) := by rw [hx]
 have xr : x.rows = rowsT (redT t).ns (ctrP x.hood) L [] (((redT t).ns.length - 1 : Nat) : Int) := by rw [xh, hL, hx]; rfl
 have xl : x.hood.length = L := by rw [xh, hL]
 have hrt : rightTab x = true := by
  unfold rightTab headTab; have e1 : x.vars.all (okVar x.st) = true := List.all_eq_true.2 (fun l hl => by
   rw [xv] at hl; rw [List.eq_of_mem_replicate hl, xt]; exact okVar_range (by omega) (by omega))
  have e2 : x.rows.all (okRow x.st x.vars.length x.hood.length) = true := List.all_eq_true.2 (fun r hr => by
   rw [xr] at hr; rw [xt, xv, List.length_replicate, xl]; exact rows_ok (by omega) hc.v _ L [] _ hroot (by simp) (fun e he => absurd he (by simp)) r hr)
  rw [e1, e2, xt, xh, xs, decide_eq_true (by omega : (2 : Int) ≤ (q : Int)), decide_eq_true (by omega : (q : Int) ≤ 8), a3, decide_eq_true (by rw [xv, List.length_replicate, xl]; omega : x.vars.length ≤ 40), decide_eq_true (by rw [hx]; exact h4 : x.rows.length ≤ 400)]; rfl
 have hval : ∀ l : List Nat, l.length = L → (∀ s ∈ l, s < q) → valT x (intsN l) = val (redT t).ns (((redT t).ns.length - 1 : Nat) : Int) l := fun l hl hs => by
  obtain ⟨-, f2⟩ := first_rows xs (by rw [xh]; exact a3) xv hc.v (ctrP x.hood) L [] _ [] l (fun i hi => absurd hi (by simp)) hroot rfl hl (by simp [xl]) (by simpa using hs); have f3 := f2 (fun j hj => absurd hj (by simp)); rw [List.nil_append, ← xr] at f3; unfold valT; rcases f3 with f3 | ⟨f3, f4⟩
  ·rw [f3]
  ·rw [f3]; by_cases h : ctrP x.hood < 0
   ·rw [if_pos h] at f4; dsimp only; rw [if_neg (by omega), f4]
   ·rw [if_neg h] at f4; dsimp only; rw [if_pos (by omega), f4]
 have hpow : q ^ L ≤ 1024 := by
  unfold tinyB at ht; rw [Bool.and_eq_true] at ht; have h1 := of_decide_eq_true ht.1; rw [xl, xt, show tinyM (q : Int) = q by unfold tinyM; omega] at h1; exact h1
 have hrng : ∀ l : List Nat, l.length = L → (∀ s ∈ l, s < q) → 0 ≤ valT x (intsN l) ∧ valT x (intsN l) < (q : Int) := fun l hl hs => by
  have := val_rng (t := x) (inn := intsN l) hrt (.inl (by rw [xs]; decide)) (fun s h => by
   unfold intsN at h; obtain ⟨y, hy, rfl⟩ := List.mem_map.1 h; have := hs y hy; rw [xt]; omega) (by rw [intsN_len, hl, xl])
  rw [xt] at this; exact this
 obtain ⟨g1, g2⟩ := grow_can (q := q) (f := fun l => valT x (intsN l)) (N := L) hrng hL1 (by omega); have gs := (grow_ok (q := q) (f := fun l => valT x (intsN l)) (N := L) hrng L [] [] (by simp) (fun t ht => absurd ht (by simp)) (NV.nil q)).sz; have hu : (growP q (fun l => valT x (intsN l)) L [] []).2 = (redT t).ns := Can.uniq g1 (by rw [hL]; exact hc) (by omega) (fun l hl hs => by rw [g2 l hl hs]; exact hval l hl hs); have hcs := cap_small (q := q) (by omega) L; rw [treeT_yes hrt xt]; unfold madeP; rw [xl, if_neg (by unfold smallP; rw [decide_eq_true (by omega)]; simp), if_neg (by simp at gs; omega), hu, xh]; have e : redT t = ⟨t.st, t.ps, (redT t).ns⟩ := by
  rw [← est, ← eps]
 rw [e, hq]
end Go.Proofs.YtlegfdllipkggaaDoor
