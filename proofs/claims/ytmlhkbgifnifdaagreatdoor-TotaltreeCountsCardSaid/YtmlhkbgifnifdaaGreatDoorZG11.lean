/-
  cellularref12.Same. No condition.
  cellularref12.Same over trees; reduce.Equal in terms of the reduced trees. No condition.
  The reference's classes: a node's class is the first node that reads alike when the elements are replaced by their classes; the walk over the classes is the walk of the rebuilt nodes. No condition.
-/
import Derived.BigRegion
import Derived.Test.YtmlhkbgifnifdaaGreatDoorZG9
namespace Go.Proofs.YtmlhkbgifnifdaaGreatDoor
open Go.RowKit
set_option maxRecDepth 100000
set_option linter.unusedVariables false
set_option linter.unusedSimpArgs false

set_option maxHeartbeats 16000000 in
theorem rsamet_any (s1 s2 : Int) (A1 : Option Addr) (c1 : Nat) (p1 : List (Int × Int)) (B1 : Option Addr) (d1 : Nat) (h1 : List Hd) (A2 : Option Addr) (c2 : Nat) (p2 : List (Int × Int)) (B2 : Option Addr) (d2 : Nat) (h2 : List Hd) (w : World)
    (hp1 : Pts w A1 p1) (hn1 : Nds w B1 h1) (hp2 : Pts w A2 p2) (hn2 : Nds w B2 h2) :
    Calls Tryz.prog 11 #[.agg #[.int .i64 s1, .slice A1 p1.length c1, .slice B1 h1.length d1], .agg #[.int .i64 s2, .slice A2 p2.length c2, .slice B2 h2.length d2]] w
      fun e w' => e = .returned (.bool (sameP ⟨s1, p1, h1.map Hd.nd⟩ ⟨s2, p2, h2.map Hd.nd⟩)) ∧ Below w.heap.size w w' := by
  have l1 := hp1.le
  have l2 := hp2.le
  have l3 := hn1.le
  have l4 := hn2.le
  obtain ⟨v1, hv1⟩ : ∃ v1, v1 = w.alloc (.cells #[.int .i64 s1, .slice A1 p1.length c1, .slice B1 h1.length d1] 25) := ⟨_, rfl⟩
  obtain ⟨w0, hw0⟩ : ∃ w0, w0 = v1.alloc (.cells #[.int .i64 s2, .slice A2 p2.length c2, .slice B2 h2.length d2] 25) := ⟨_, rfl⟩
  have b1 : Below w.heap.size w v1 := by rw [hv1]; exact below_new _ _
  have b2 : Below v1.heap.size v1 w0 := by rw [hw0]; exact below_new _ _
  have z1 : v1.heap.size = w.heap.size + 1 := by rw [hv1]; simp
  have q1 : Blk v1 w.heap.size 25 #[.int .i64 s1, .slice A1 p1.length c1, .slice B1 h1.length d1] := by rw [hv1]; exact Blk.new _ _ _
  have q2 : Blk w0 v1.heap.size 25 #[.int .i64 s2, .slice A2 p2.length c2, .slice B2 h2.length d2] := by rw [hw0]; exact Blk.new _ _ _
  have q1' := q1.below b2 q1.lt
  rw [z1] at q2
  have hb0 := b1.trans (b2.mono b1.size)
  rw [hv1] at hw0
  have HW := Lib.hid hw0
  have HB := Lib.hid hb0
  have HP1 := Lib.hid (hp1.ext hb0)
  have HP2 := Lib.hid (hp2.ext hb0)
  have HN1 := Lib.hid (hn1.ext hb0)
  have HN2 := Lib.hid (hn2.ext hb0)
  have HQ1 := Lib.hid q1'
  have HQ2 := Lib.hid q2
  have x0 := q1'.cell_ 0 (.int .i64 s1) rfl
  have x1 := q1'.cell_ 1 (.slice A1 p1.length c1) rfl
  have x2 := q1'.cell_ 2 (.slice B1 h1.length d1) rfl
  have y0 := q2.cell_ 0 (.int .i64 s2) rfl
  have y1 := q2.cell_ 1 (.slice A2 p2.length c2) rfl
  have y2 := q2.cell_ 2 (.slice B2 h2.length d2) rfl
  clear hv1 hw0 b1 b2 z1 q1 q2 q1' hb0 hp1 hp2 hn1 hn2
  by_cases e1 : s1 = s2
  · have f1 : (s1 != s2) = false := by simp [e1]
    have HE1 := Lib.hid e1
    clear e1
    by_cases e2 : p1.length = p2.length
    · have f2 : ((p1.length : Int) != (p2.length : Int)) = false := by simp [e2]
      have HE2 := Lib.hid e2
      clear e2
      by_cases e3 : h1.length = h2.length
      · have f3 : ((h1.length : Int) != (h2.length : Int)) = false := by simp [e3]
        have HE3 := Lib.hid e3
        clear e3
        go_enter Tryz.func11, Tryz.ntmps11
        go_upto_region 1 with fail
        rw [← HW.out]
        go_wp2
        clear f1 f2 f3 x0 y0
        go_loopw [5] (fun i wr => ∃ k q : Nat, k ≤ p1.length ∧ i = .int .i64 k ∧ wr = w0.drewN q ∧ Hid (p1.take k = p2.take k)) (fun i _ => p1.length - (intOf i).toNat)
        case atStart => exact ⟨0, 0, Nat.zero_le _, rfl, rfl, Lib.hid rfl⟩
        case round =>
          obtain ⟨k, q, hk, rfl, rfl, HT⟩ := hrel
          by_cases hlt : k < p1.length
          · have hlt2 : k < p2.length := by have := HE2.out; omega
            obtain ⟨b1, o1, rfl, -, hc, hc'⟩ := HP1.out.at_ hlt
            obtain ⟨b2, o2, rfl, -, hc2, hc2'⟩ := HP2.out.at_ hlt2
            go_wp2
            have hst := Tryz.stood_pt
            have heg := Tryz.guard_pt
            have hnq := neq_pt
            go_quiet (fail)
            go_wp2
            · have hne : ¬ p1[k] = p2[k] := ptNe_true ‹_›
              have HF : Hid (sameP ⟨s1, p1, h1.map Hd.nd⟩ ⟨s2, p2, h2.map Hd.nd⟩ = false) := Lib.hid (by
                unfold sameP
                rw [show decide (p1 = p2) = false from decide_eq_false (by rintro rfl; exact hne rfl)]
                simp)
              go_ret
              exact ⟨ret_bool (by rw [HF.out] <;> rfl), below_drewN (below_drewN HB.out _) _⟩
            · have he : p1[k] = p2[k] := ptNe_false ‹_›
              go_roundw
              case rel => exact ⟨k + 1, _, by omega, by go_num, rfl, Lib.hid (take_eq_snoc HT.out hlt hlt2 he)⟩
              case measure => simp [intOf]; omega
          · have hk' : k = p1.length := by omega
            have hfin : p1 = p2 := by
              have := HT.out
              rwa [hk', List.take_of_length_le (Nat.le_refl _), List.take_of_length_le (by rw [HE2.out]; exact Nat.le_refl _)] at this
            have HF := Lib.hid hfin
            clear hfin hk'
            go_wp2
            clear x1 y1 x2 y2 hlt hk HT
            obtain ⟨W, hW⟩ : ∃ W, W = w0.drewN q := ⟨_, rfl⟩
            have HBW : Hid (Below w0.heap.size w0 W) := Lib.hid (by rw [hW]; exact below_drewN (Below.refl _ _) _)
            rw [← hW]
            clear hW
            go_loopw [6] (fun i wr => ∃ k : Nat, k ≤ h1.length ∧ i = .int .i64 k ∧ Hid (Below w0.heap.size w0 wr) ∧ Hid ((h1.take k).map Hd.nd = (h2.take k).map Hd.nd)) (fun i _ => h1.length - (intOf i).toNat)
            case atStart => exact ⟨0, Nat.zero_le _, rfl, HBW, Lib.hid rfl⟩
            case round =>
              obtain ⟨k, hk, rfl, HB2, HT⟩ := hrel
              have r1 := HQ1.out.below HB2.out HQ1.out.lt
              have r2 := HQ2.out.below HB2.out HQ2.out.lt
              have x2 := r1.cell_ 2 (.slice B1 h1.length d1) rfl
              have y2 := r2.cell_ 2 (.slice B2 h2.length d2) rfl
              by_cases hlt : k < h1.length
              · have hlt2 : k < h2.length := by have := HE3.out; omega
                obtain ⟨b1, o1, eb1, hb1, x0, x1, xi⟩ := (HN1.out.ext HB2.out).at_ hlt
                obtain ⟨b2, o2, eb2, hb2, y0, y1, yi⟩ := (HN2.out.ext HB2.out).at_ hlt2
                have HTK := Lib.hid (fun (h3 : h1[k].nd = h2[k].nd) => nd_take hlt hlt2 HT.out h3)
                have HNE : Hid (h1[k].nd ≠ h2[k].nd → sameP ⟨s1, p1, h1.map Hd.nd⟩ ⟨s2, p2, h2.map Hd.nd⟩ = false) := Lib.hid (fun h9 => by
                  have : h1.map Hd.nd ≠ h2.map Hd.nd := fun h2' => h9 (by
                    have h3 := congrArg (fun l => l[k]?) h2'
                    simp only [List.getElem?_map, List.getElem?_eq_getElem hlt, List.getElem?_eq_getElem hlt2, Option.map_some, Option.some.injEq] at h3
                    exact h3)
                  unfold sameP
                  rw [show decide (h1.map Hd.nd = h2.map Hd.nd) = false from decide_eq_false this]
                  simp)
                obtain ⟨x, hx⟩ : ∃ x, x = h1[k] := ⟨_, rfl⟩
                obtain ⟨y, hy⟩ : ∃ y, y = h2[k] := ⟨_, rfl⟩
                rw [← hx] at x0 x1 xi HTK HNE
                rw [← hy] at y0 y1 yi HTK HNE
                obtain ⟨lx, xA, xc, xs⟩ := x
                obtain ⟨ly, yA, yc, ys⟩ := y
                dsimp only at x0 x1 xi y0 y1 yi
                have HXI := Lib.hid xi
                have HYI := Lib.hid yi
                subst eb1 eb2
                have hz1 : w.heap.size < wr.heap.size := r1.lt
                have hz2 : w.heap.size + 1 < wr.heap.size := r2.lt
                clear hx hy xi yi hk r1 r2
                go_wp2
                go_region
                · obtain ⟨u1, hu1⟩ : ∃ u1, u1 = wr.alloc (.cells #[.int .i64 lx, .slice xA xs.length xc] 42) := ⟨_, rfl⟩
                  obtain ⟨u2, hu2⟩ : ∃ u2, u2 = u1.alloc (.cells #[.int .i64 ly, .slice yA ys.length yc] 42) := ⟨_, rfl⟩
                  have t1 : Below wr.heap.size wr u1 := by rw [hu1]; exact below_new _ _
                  have t2 : Below u1.heap.size u1 u2 := by rw [hu2]; exact below_new _ _
                  have z1 : u1.heap.size = wr.heap.size + 1 := by rw [hu1]; simp
                  have v1 : Blk u1 wr.heap.size 42 #[.int .i64 lx, .slice xA xs.length xc] := by rw [hu1]; exact Blk.new _ _ _
                  have v2 : Blk u2 u1.heap.size 42 #[.int .i64 ly, .slice yA ys.length yc] := by rw [hu2]; exact Blk.new _ _ _
                  have v1' := v1.below t2 v1.lt
                  rw [z1] at v2
                  have t3 := t1.trans (t2.mono t1.size)
                  rw [hu1] at hu2
                  rw [← hu2]
                  obtain ⟨u3, hu3⟩ : ∃ u3, u3 = u2.drew := ⟨_, rfl⟩
                  rw [← hu3]
                  have t3 : Below wr.heap.size wr u3 := by rw [hu3]; exact t3.drew
                  have v1' : Blk u3 wr.heap.size 42 #[.int .i64 lx, .slice xA xs.length xc] := by rw [hu3]; exact v1'
                  have v2 : Blk u3 (wr.heap.size + 1) 42 #[.int .i64 ly, .slice yA ys.length yc] := by rw [hu3]; exact v2
                  have HU := Lib.hid ((HB2.out.trans (t3.mono HB2.out.size)))
                  have HXU := Lib.hid (HXI.out.ext t3)
                  have HYU := Lib.hid (HYI.out.ext t3)
                  have m0 := v1'.cell_ 0 (.int .i64 lx) rfl
                  have m1 := v1'.cell_ 1 (.slice xA xs.length xc) rfl
                  have n0 := v2.cell_ 0 (.int .i64 ly) rfl
                  have n1 := v2.cell_ 1 (.slice yA ys.length yc) rfl
                  clear t1 t2 v1 v2 v1' t3 hu1 hu2 hu3 z1 x0 x1 y0 y1 x2 y2 hz1 hz2 hb1 hb2
                  by_cases e1 : lx = ly
                  · have f1 : (lx != ly) = false := by simp [e1]
                    have HE4 := Lib.hid e1
                    clear e1
                    by_cases e2 : xs.length = ys.length
                    · have f2 : ((xs.length : Int) != (ys.length : Int)) = false := by simp [e2]
                      have HE5 := Lib.hid e2
                      have lx1 := HXU.out.le
                      have ly1 := HYU.out.le
                      clear e2
                      have HLT := Lib.hid hlt
                      have HL3 := Lib.hid l3
                      clear hlt hlt2 l1 l2 l3 l4
                      go_wp2
                      clear f1 f2
                      go_loopw [9] (fun i wi => ∃ m q : Nat, m ≤ xs.length ∧ i = .int .i64 m ∧ wi = u3.drewN q ∧ Hid (xs.take m = ys.take m)) (fun i _ => xs.length - (intOf i).toNat)
                      case atStart => exact ⟨0, 0, Nat.zero_le _, rfl, rfl, Lib.hid rfl⟩
                      case round =>
                        obtain ⟨m, qd, hm, rfl, rfl, HTI⟩ := hrel
                        by_cases hml : m < xs.length
                        · have hml2 : m < ys.length := by have := HE5.out; omega
                          obtain ⟨bx, ox, rfl, -, hc⟩ := HXU.out.at_ hml
                          obtain ⟨bz, oz, rfl, -, hc2⟩ := HYU.out.at_ hml2
                          go_wp2
                          go_quiet (fail)
                          go_wp2
                          · have hne : ¬ xs[m] = ys[m] := by simpa using ‹(xs[m] != ys[m]) = true›
                            have HF2 := Lib.hid (HNE.out (fun h => hne (by
                              have h5 : xs = ys := congrArg Prod.snd h
                              subst h5
                              rfl)))
                            go_ret
                            exact ⟨ret_bool (by rw [HF2.out] <;> rfl), below_drewN (below_drewN (HB.out.trans (HU.out.mono HB.out.size)) _) _⟩
                          · have he : xs[m] = ys[m] := by simpa using ‹(xs[m] != ys[m]) = false›
                            go_roundw
                            case rel => exact ⟨m + 1, _, by omega, by go_num, rfl, Lib.hid (take_eq_snoc HTI.out hml hml2 he)⟩
                            case measure => simp [intOf]; omega
                        · have hk' : m = xs.length := by omega
                          have hfin : xs = ys := by
                            have := HTI.out
                            rwa [hk', List.take_of_length_le (Nat.le_refl _), List.take_of_length_le (by rw [HE5.out]; exact Nat.le_refl _)] at this
                          have HNX := Lib.hid (HTK.out (by
                            have h4 := HE4.out
                            subst h4 hfin
                            rfl))
                          clear hfin hk'
                          have hw1 : wrap64 ((k : Int) + 1) = (k : Int) + 1 := by have := HLT.out; have := HL3.out; unfold wrap64; omega
                          go_wp2
                          go_roundw
                          case rel => exact ⟨k + 1, HLT.out, (by rw [hw1]; rfl), Lib.hid (below_drewN HU.out _), HNX⟩
                          case measure => rw [hw1]; have := HLT.out; simp [intOf]; omega
                    · have f2 : ((xs.length : Int) != (ys.length : Int)) = true := by simp; omega
                      have HF2 := Lib.hid (HNE.out (fun h => e2 (by
                        have h5 : xs = ys := congrArg Prod.snd h
                        rw [h5])))
                      clear e2
                      go_wp2
                      go_ret
                      exact ⟨ret_bool (by rw [HF2.out] <;> rfl), HB.out.trans (HU.out.mono HB.out.size)⟩
                  · have f1 : (lx != ly) = true := by simp [e1]
                    have HF2 := Lib.hid (HNE.out (fun h => e1 (congrArg Prod.fst h)))
                    clear e1
                    go_wp2
                    go_ret
                    exact ⟨ret_bool (by rw [HF2.out] <;> rfl), HB.out.trans (HU.out.mono HB.out.size)⟩
                · obtain ⟨u1, hu1⟩ : ∃ u1, u1 = wr.alloc (.cells #[.int .i64 ly, .slice yA ys.length yc] 42) := ⟨_, rfl⟩
                  obtain ⟨u2, hu2⟩ : ∃ u2, u2 = u1.alloc (.cells #[.int .i64 lx, .slice xA xs.length xc] 42) := ⟨_, rfl⟩
                  have t1 : Below wr.heap.size wr u1 := by rw [hu1]; exact below_new _ _
                  have t2 : Below u1.heap.size u1 u2 := by rw [hu2]; exact below_new _ _
                  have z1 : u1.heap.size = wr.heap.size + 1 := by rw [hu1]; simp
                  have v1 : Blk u1 wr.heap.size 42 #[.int .i64 ly, .slice yA ys.length yc] := by rw [hu1]; exact Blk.new _ _ _
                  have v2 : Blk u2 u1.heap.size 42 #[.int .i64 lx, .slice xA xs.length xc] := by rw [hu2]; exact Blk.new _ _ _
                  have v1' := v1.below t2 v1.lt
                  rw [z1] at v2
                  have t3 := t1.trans (t2.mono t1.size)
                  rw [hu1] at hu2
                  rw [← hu2]
                  obtain ⟨u3, hu3⟩ : ∃ u3, u3 = u2.drew := ⟨_, rfl⟩
                  rw [← hu3]
                  have t3 : Below wr.heap.size wr u3 := by rw [hu3]; exact t3.drew
                  have v1' : Blk u3 wr.heap.size 42 #[.int .i64 ly, .slice yA ys.length yc] := by rw [hu3]; exact v1'
                  have v2 : Blk u3 (wr.heap.size + 1) 42 #[.int .i64 lx, .slice xA xs.length xc] := by rw [hu3]; exact v2
                  have HU := Lib.hid ((HB2.out.trans (t3.mono HB2.out.size)))
                  have HXU := Lib.hid (HXI.out.ext t3)
                  have HYU := Lib.hid (HYI.out.ext t3)
                  have m0 := v2.cell_ 0 (.int .i64 lx) rfl
                  have m1 := v2.cell_ 1 (.slice xA xs.length xc) rfl
                  have n0 := v1'.cell_ 0 (.int .i64 ly) rfl
                  have n1 := v1'.cell_ 1 (.slice yA ys.length yc) rfl
                  clear t1 t2 v1 v2 v1' t3 hu1 hu2 hu3 z1 x0 x1 y0 y1 x2 y2 hz1 hz2 hb1 hb2
                  by_cases e1 : lx = ly
                  · have f1 : (lx != ly) = false := by simp [e1]
                    have HE4 := Lib.hid e1
                    clear e1
                    by_cases e2 : xs.length = ys.length
                    · have f2 : ((xs.length : Int) != (ys.length : Int)) = false := by simp [e2]
                      have HE5 := Lib.hid e2
                      have lx1 := HXU.out.le
                      have ly1 := HYU.out.le
                      clear e2
                      have HLT := Lib.hid hlt
                      have HL3 := Lib.hid l3
                      clear hlt hlt2 l1 l2 l3 l4
                      go_wp2
                      clear f1 f2
                      go_loopw [9] (fun i wi => ∃ m q : Nat, m ≤ xs.length ∧ i = .int .i64 m ∧ wi = u3.drewN q ∧ Hid (xs.take m = ys.take m)) (fun i _ => xs.length - (intOf i).toNat)
                      case atStart => exact ⟨0, 0, Nat.zero_le _, rfl, rfl, Lib.hid rfl⟩
                      case round =>
                        obtain ⟨m, qd, hm, rfl, rfl, HTI⟩ := hrel
                        by_cases hml : m < xs.length
                        · have hml2 : m < ys.length := by have := HE5.out; omega
                          obtain ⟨bx, ox, rfl, -, hc⟩ := HXU.out.at_ hml
                          obtain ⟨bz, oz, rfl, -, hc2⟩ := HYU.out.at_ hml2
                          go_wp2
                          go_quiet (fail)
                          go_wp2
                          · have hne : ¬ xs[m] = ys[m] := by simpa using ‹(xs[m] != ys[m]) = true›
                            have HF2 := Lib.hid (HNE.out (fun h => hne (by
                              have h5 : xs = ys := congrArg Prod.snd h
                              subst h5
                              rfl)))
                            go_ret
                            exact ⟨ret_bool (by rw [HF2.out] <;> rfl), below_drewN (below_drewN (HB.out.trans (HU.out.mono HB.out.size)) _) _⟩
                          · have he : xs[m] = ys[m] := by simpa using ‹(xs[m] != ys[m]) = false›
                            go_roundw
                            case rel => exact ⟨m + 1, _, by omega, by go_num, rfl, Lib.hid (take_eq_snoc HTI.out hml hml2 he)⟩
                            case measure => simp [intOf]; omega
                        · have hk' : m = xs.length := by omega
                          have hfin : xs = ys := by
                            have := HTI.out
                            rwa [hk', List.take_of_length_le (Nat.le_refl _), List.take_of_length_le (by rw [HE5.out]; exact Nat.le_refl _)] at this
                          have HNX := Lib.hid (HTK.out (by
                            have h4 := HE4.out
                            subst h4 hfin
                            rfl))
                          clear hfin hk'
                          have hw1 : wrap64 ((k : Int) + 1) = (k : Int) + 1 := by have := HLT.out; have := HL3.out; unfold wrap64; omega
                          go_wp2
                          go_roundw
                          case rel => exact ⟨k + 1, HLT.out, (by rw [hw1]; rfl), Lib.hid (below_drewN HU.out _), HNX⟩
                          case measure => rw [hw1]; have := HLT.out; simp [intOf]; omega
                    · have f2 : ((xs.length : Int) != (ys.length : Int)) = true := by simp; omega
                      have HF2 := Lib.hid (HNE.out (fun h => e2 (by
                        have h5 : xs = ys := congrArg Prod.snd h
                        rw [h5])))
                      clear e2
                      go_wp2
                      go_ret
                      exact ⟨ret_bool (by rw [HF2.out] <;> rfl), HB.out.trans (HU.out.mono HB.out.size)⟩
                  · have f1 : (lx != ly) = true := by simp [e1]
                    have HF2 := Lib.hid (HNE.out (fun h => e1 (congrArg Prod.fst h)))
                    clear e1
                    go_wp2
                    go_ret
                    exact ⟨ret_bool (by rw [HF2.out] <;> rfl), HB.out.trans (HU.out.mono HB.out.size)⟩
              · have hk' : k = h1.length := by omega
                have HF2 : Hid (sameP ⟨s1, p1, h1.map Hd.nd⟩ ⟨s2, p2, h2.map Hd.nd⟩ = true) := Lib.hid (by
                  have h7 := HT.out
                  rw [hk', List.take_of_length_le (Nat.le_refl _), List.take_of_length_le (by rw [HE3.out]; exact Nat.le_refl _)] at h7
                  unfold sameP
                  dsimp only
                  rw [decide_eq_true HE1.out, decide_eq_true HF.out, decide_eq_true h7]
                  rfl)
                clear hk' r1 r2
                go_wp2
                go_ret
                exact ⟨ret_bool (by rw [HF2.out] <;> rfl), HB.out.trans (HB2.out.mono HB.out.size)⟩
      · have f3 : ((h1.length : Int) != (h2.length : Int)) = true := by simp; omega
        have HF : Hid (sameP ⟨s1, p1, h1.map Hd.nd⟩ ⟨s2, p2, h2.map Hd.nd⟩ = false) := Lib.hid (by
          unfold sameP
          rw [show decide (h1.map Hd.nd = h2.map Hd.nd) = false from decide_eq_false (fun h => e3 (by simpa using congrArg List.length h))]
          simp)
        clear e3
        go_enter Tryz.func11, Tryz.ntmps11
        go_upto_region 1 with fail
        rw [← HW.out]
        go_wp2
        go_ret
        exact ⟨ret_bool (by rw [HF.out] <;> rfl), HB.out⟩
    · have f2 : ((p1.length : Int) != (p2.length : Int)) = true := by simp; omega
      have HF : Hid (sameP ⟨s1, p1, h1.map Hd.nd⟩ ⟨s2, p2, h2.map Hd.nd⟩ = false) := Lib.hid (by
        unfold sameP
        rw [show decide (p1 = p2) = false from decide_eq_false (fun h => e2 (by rw [h]))]
        simp)
      clear e2
      go_enter Tryz.func11, Tryz.ntmps11
      go_upto_region 1 with fail
      rw [← HW.out]
      go_wp2
      go_ret
      exact ⟨ret_bool (by rw [HF.out] <;> rfl), HB.out⟩
  · have f1 : (s1 != s2) = true := by simp [e1]
    have HF : Hid (sameP ⟨s1, p1, h1.map Hd.nd⟩ ⟨s2, p2, h2.map Hd.nd⟩ = false) := Lib.hid (by
      unfold sameP
      rw [show decide (s1 = s2) = false from decide_eq_false e1]
      simp)
    clear e1
    go_enter Tryz.func11, Tryz.ntmps11
    go_upto_region 1 with fail
    rw [← HW.out]
    go_wp2
    go_ret
    exact ⟨ret_bool (by rw [HF.out] <;> rfl), HB.out⟩
end Go.Proofs.YtmlhkbgifnifdaaGreatDoor
namespace Go.Proofs.YtmlhkbgifnifdaaGreatDoor
open Go.RowKit
set_option maxRecDepth 100000
set_option linter.unusedVariables false
set_option linter.unusedSimpArgs false

theorem rsamet_at {t u : PT} {v x : Value} {w : World} (h : TreeAt w v t) (k : TreeAt w x u) : Calls Tryz.prog 11 #[v, x] w fun e w' => e = .returned (.bool (sameP t u)) ∧ Below w.heap.size w w' := by
  obtain ⟨A, c, B, d, os, rfl, h2, h3, h4⟩ := h
  obtain ⟨A', c', B', d', os', rfl, k2, k3, k4⟩ := k
  have := rsamet_any t.st u.st A c t.ps B d os A' c' u.ps B' d' os' w h2 h3 k2 k3
  rw [h4, k4] at this
  exact this
theorem equalP_eq (a b : PT) : equalP a b = (a.right && b.right && sameP (redT a) (redT b)) := by
  unfold equalP
  cases ha : a.right with
  | false => simp
  | true =>
    cases hb : b.right with
    | false => simp
    | true =>
      simp only [Bool.true_and]
      have e1 : redT a = ⟨a.st, a.ps, redN chR a.ns⟩ := by unfold redT; rw [ha]; rfl
      have e2 : redT b = ⟨b.st, b.ps, redN chR b.ns⟩ := by unfold redT; rw [hb]; rfl
      rw [e1, e2]
      unfold sameP
      dsimp only
      cases decide (a.st = b.st) <;> cases decide (a.ps = b.ps) <;> simp
end Go.Proofs.YtmlhkbgifnifdaaGreatDoor
namespace Go.Proofs.YtmlhkbgifnifdaaGreatDoor
set_option linter.unusedSimpArgs false
set_option linter.unusedVariables false

def clsStep (st : List Nd × List Int) (x : Nd) : List Nd × List Int := (st.1 ++ [(x.1, nxOf st.2 x)], st.2 ++ [(((posOf st.1 (x.1, nxOf st.2 x)).getD st.1.length : Nat) : Int)])
def clsTo (l : List Nd) (k : Nat) : List Nd × List Int := (l.take k).foldl clsStep ([], [])
theorem clsTo_succ (l : List Nd) {k : Nat} (hk : k < l.length) : clsTo l (k + 1) = clsStep (clsTo l k) (ndAt l k) := by
  unfold clsTo
  rw [List.take_succ_eq_append_getElem hk, List.foldl_append, ndAt_get l hk]
  rfl
theorem clsTo_len (l : List Nd) : ∀ k, k ≤ l.length → (clsTo l k).1.length = k ∧ (clsTo l k).2.length = k
  | 0, _ => ⟨rfl, rfl⟩
  | k + 1, hk => by
    obtain ⟨a, b⟩ := clsTo_len l k (by omega)
    rw [clsTo_succ l (by omega)]
    unfold clsStep
    simp [a, b]
theorem posOf_app {ns : List Nd} {x : Nd} {c : Nat} (h : posOf ns x = some c) (y : Nd) : posOf (ns ++ [y]) x = some c := by
  rw [posOf_snoc, h]; rfl
theorem posOf_in : ∀ {ns : List Nd} {x : Nd}, x ∈ ns → ∃ c, posOf ns x = some c := by
  intro ns x hx
  cases h : posOf ns x with
  | some c => exact ⟨c, rfl⟩
  | none => exact absurd hx (posOf_none h)
/-- what holds behind k nodes -/
structure ClI (q : Nat) (l : List Nd) (k : Nat) (st : List Nd × List Int) : Prop where
  nl : st.1.length = k
  tl : st.2.length = k
  lev : Lev q st.1 (· < st.1.length)
  cl : ∀ i, i < k → ∃ c : Nat, st.2.getD i 0 = (c : Int) ∧ c ≤ i ∧ posOf st.1 (ndAt st.1 i) = some c
  kid : ∀ i, i < k → 1 < (ndAt st.1 i).1 → ∀ z ∈ (ndAt st.1 i).2, z < (i : Int) ∧ st.2.getD z.toNat 0 = z
  eqv : ∀ i, i < k → Eqv q st.1 i l i
section
variable {q : Nat} {l : List Nd}
theorem ClI.cc {k : Nat} {st : List Nd × List Int} (h : ClI q l k st) {i : Nat} (hi : i < k) : ∃ c : Nat, st.2.getD i 0 = (c : Int) ∧ c ≤ i ∧ st.2.getD c 0 = (c : Int) ∧ ndAt st.1 c = ndAt st.1 i := by
  obtain ⟨c, e1, e2, e3⟩ := h.cl i hi
  obtain ⟨p1, p2⟩ := posOf_some e3
  obtain ⟨d, f1, f2, f3⟩ := h.cl c (by omega)
  rw [p2, e3] at f3
  injection f3 with f3
  subst f3
  exact ⟨c, e1, e2, f1, p2⟩
theorem ClI.start (q : Nat) (l : List Nd) : ClI q l 0 (clsTo l 0) := by
  refine ⟨rfl, rfl, ⟨fun i h => h, ?_, ?_, ?_⟩, ?_, ?_, ?_⟩
  all_goals intro i h
  all_goals first | exact absurd h (Nat.not_lt_zero _) | (intro h2; exact absurd h2 (Nat.not_lt_zero _))
theorem ClI.step (h : VNd q l) {k : Nat} (hi : ClI q l k (clsTo l k)) (hk : k < l.length) : ClI q l (k + 1) (clsTo l (k + 1)) := by
  rw [clsTo_succ l hk]
  obtain ⟨st, hst⟩ : ∃ st, st = clsTo l k := ⟨_, rfl⟩
  rw [← hst] at hi ⊢
  clear hst
  have hlv1 := h.lev.one k hk
  have hlq := h.lev.len k hk
  obtain ⟨x', hx'⟩ : ∃ x', x' = ((ndAt l k).1, nxOf st.2 (ndAt l k)) := ⟨_, rfl⟩
  obtain ⟨cN, hcN⟩ : ∃ cN, cN = (posOf st.1 x').getD st.1.length := ⟨_, rfl⟩
  have hs : clsStep st (ndAt l k) = (st.1 ++ [x'], st.2 ++ [(cN : Int)]) := by rw [hcN, hx']; rfl
  rw [hs]
  have hnl := hi.nl
  have htl := hi.tl
  have ex1 : x'.1 = (ndAt l k).1 := by rw [hx']
  have hxq : x'.2.length = q := by
    rw [hx']
    dsimp only
    unfold nxOf
    split
    · rw [List.length_map]; exact hlq
    · exact hlq
  have hto : ∀ (v : Int) (i : Nat), i < k → (st.2 ++ [v]).getD i 0 = st.2.getD i 0 := fun v i hik => by
    rw [List.getD_eq_getElem?_getD, List.getElem?_append_left (by omega), ← List.getD_eq_getElem?_getD]
  have htk : ∀ (v : Int), (st.2 ++ [v]).getD k 0 = v := fun v => by
    rw [List.getD_eq_getElem?_getD, List.getElem?_append_right (by omega), htl, Nat.sub_self]
    rfl
  have hnd : ∀ i, i < k → ndAt (st.1 ++ [x']) i = ndAt st.1 i := fun i hik => ndAt_app_lt (by omega) _
  have hnk : ndAt (st.1 ++ [x']) k = x' := by rw [← hnl]; exact ndAt_app_len _ _
  -- the elements
  have hkid : 1 < x'.1 → ∀ z ∈ x'.2, 0 ≤ z ∧ z < (k : Int) ∧ st.2.getD z.toNat 0 = z ∧ (ndAt st.1 z.toNat).1 = x'.1 - 1 := by
    intro hl z hz
    rw [hx'] at hl hz ⊢
    dsimp only at hl hz ⊢
    unfold nxOf at hz
    rw [if_pos hl] at hz
    obtain ⟨y, hy, rfl⟩ := List.mem_map.1 hz
    obtain ⟨p1, p2, p3⟩ := h.lev.kids k hk hl y hy
    have p4 := h.ordk k hk hl y hy
    obtain ⟨c, e1, e2, e3, e4⟩ := hi.cc (i := y.toNat) (by omega)
    rw [e1]
    refine ⟨by omega, by omega, by rw [Int.toNat_natCast]; exact e3, ?_⟩
    rw [Int.toNat_natCast, e4, (hi.eqv y.toNat (by omega)).1]
    exact p3
  have hlen : (st.1 ++ [x']).length = k + 1 := by simp [hnl]
  have hcase : ∀ i, i < k + 1 → (i < k ∧ ndAt (st.1 ++ [x']) i = ndAt st.1 i) ∨ (i = k ∧ ndAt (st.1 ++ [x']) i = x') := by
    intro i hi'
    rcases Nat.lt_or_ge i k with h1 | h1
    · exact .inl ⟨h1, hnd i h1⟩
    · obtain rfl : i = k := by omega
      exact .inr ⟨rfl, hnk⟩
  have hposk : posOf (st.1 ++ [x']) x' = some cN ∧ cN ≤ k := by
    rw [posOf_snoc, hcN]
    cases hp : posOf st.1 x' with
    | some c => exact ⟨rfl, by have := (posOf_some hp).1; show c ≤ k; omega⟩
    | none => exact ⟨by simp, by simp [hnl]⟩
  refine ⟨hlen, by simp [htl], ⟨fun i hi => hi, fun i hi' => ?_, fun i hi' => ?_, fun i hi' hl z hz => ?_⟩, fun i hi' => ?_, fun i hi' hl z hz => ?_, fun i hi' => ?_⟩
  · rcases hcase i (by rw [hlen] at hi'; exact hi') with ⟨h1, e⟩ | ⟨h1, e⟩ <;> dsimp only <;> rw [e]
    · exact hi.lev.len i (by omega)
    · exact hxq
  · rcases hcase i (by rw [hlen] at hi'; exact hi') with ⟨h1, e⟩ | ⟨h1, e⟩ <;> dsimp only <;> rw [e]
    · exact hi.lev.one i (by omega)
    · rw [ex1]; exact hlv1
  · rcases hcase i (by rw [hlen] at hi'; exact hi') with ⟨h1, e⟩ | ⟨h1, e⟩ <;> dsimp only at * <;> rw [e] at hl hz ⊢
    · obtain ⟨p1, p2, p3⟩ := hi.lev.kids i (by omega) hl z hz
      exact ⟨p1, by rw [hlen]; omega, by rw [hnd _ (by omega)]; exact p3⟩
    · obtain ⟨p1, p2, -, p3⟩ := hkid hl z hz
      exact ⟨p1, by rw [hlen]; omega, by rw [hnd _ (by omega)]; exact p3⟩
  · dsimp only
    rcases hcase i hi' with ⟨h1, e⟩ | ⟨h1, e⟩
    · rw [e, hto _ _ h1]
      obtain ⟨c, e1, e2, e3⟩ := hi.cl i h1
      exact ⟨c, e1, e2, posOf_app e3 _⟩
    · rw [e, h1, htk]
      exact ⟨cN, rfl, hposk.2, hposk.1⟩
  · dsimp only at *
    rcases hcase i hi' with ⟨h1, e⟩ | ⟨h1, e⟩ <;> rw [e] at hl hz
    · obtain ⟨p1, p2⟩ := hi.kid i h1 hl z hz
      have p3 := (hi.lev.kids i (by omega) hl z hz).1
      exact ⟨p1, by rw [hto _ _ (by omega)]; exact p2⟩
    · obtain ⟨p1, p2, p3, -⟩ := hkid hl z hz
      exact ⟨by omega, by rw [hto _ _ (by omega)]; exact p3⟩
  · dsimp only
    rcases Nat.lt_or_ge i k with h1 | h1
    · exact (Eqv.app hi.lev [x'] (ndAt st.1 i).1.toNat i (by have := hi.lev.one i (by omega); omega) (by omega)).trans (hi.eqv i h1)
    · obtain rfl : i = k := by omega
      refine ⟨by rw [hnk]; exact ex1, fun ins hl hq => ?_⟩
      rw [hnk] at hl
      cases ins with
      | nil => simp at hl; omega
      | cons s r =>
        have hsq : s < q := hq s (by simp)
        simp only [val, Int.toNat_natCast, hnk]
        by_cases hlv : 1 < (ndAt l i).1
        · have hx2 : x'.2 = (ndAt l i).2.map (fun z => st.2.getD z.toNat 0) := by
            rw [hx']
            dsimp only
            unfold nxOf
            rw [if_pos hlv]
          have hg : x'.2.getD s 0 = st.2.getD ((ndAt l i).2.getD s 0).toNat 0 := by
            rw [hx2, List.getD_eq_getElem?_getD, List.getElem?_map, List.getElem?_eq_getElem (by omega : s < (ndAt l i).2.length)]
            rw [List.getD_eq_getElem?_getD (l := (ndAt l i).2), List.getElem?_eq_getElem (by omega : s < (ndAt l i).2.length)]
            rfl
          have hm := getD_mem (l := (ndAt l i).2) (s := s) (by omega)
          obtain ⟨z, hz⟩ : ∃ z, z = (ndAt l i).2.getD s 0 := ⟨_, rfl⟩
          rw [← hz] at hg hm ⊢
          obtain ⟨p1, p2, p3⟩ := h.lev.kids i hk hlv z hm
          have p4 := h.ordk i hk hlv z hm
          obtain ⟨c, e1, e2, e3, e4⟩ := hi.cc (i := z.toNat) (by omega)
          rw [hg, e1]
          have E : Eqv q (st.1 ++ [x']) c l z.toNat :=
            ((Eqv.app hi.lev [x'] (ndAt st.1 c).1.toNat c (by have := hi.lev.one c (by omega); omega) (by omega)).trans (Eqv.node e4 (hi.lev.one c (by omega)))).trans (hi.eqv z.toNat (by omega))
          have := E.2 r (by rw [E.1, p3, ← ex1]; simp at hl; omega) (fun u hu => hq u (by simp [hu]))
          rw [toNat_cast p1] at this
          exact this
        · have hr : r = [] := by
            cases r with
            | nil => rfl
            | cons _ _ => rw [ex1] at hl; simp at hl; omega
          subst hr
          rw [hx']
          simp only [val, nxOf]
          rw [if_neg hlv]
theorem ClI.all (h : VNd q l) : ∀ k, k ≤ l.length → ClI q l k (clsTo l k)
  | 0, _ => ClI.start q l
  | k + 1, hk => (ClI.all h k (by omega)).step h (by omega)
/-- the nodes that stand for their class -/
def reps (l : List Nd) (i : Nat) : Prop := i < l.length ∧ (clsTo l l.length).2.getD i 0 = (i : Int)
theorem ClI.lev' (h : VNd q l) : Lev q (clsTo l l.length).1 (reps l) := by
  have hi := ClI.all h _ (Nat.le_refl _)
  have hnl := hi.nl
  refine ⟨fun i hp => by rw [hnl]; exact hp.1, fun i hp => hi.lev.len i (by rw [hnl]; exact hp.1), fun i hp => hi.lev.one i (by rw [hnl]; exact hp.1), fun i hp hl z hz => ?_⟩
  obtain ⟨p1, p2, p3⟩ := hi.lev.kids i (by rw [hnl]; exact hp.1) hl z hz
  obtain ⟨k1, k2⟩ := hi.kid i hp.1 hl z hz
  exact ⟨p1, ⟨by omega, by rw [toNat_cast p1]; exact k2⟩, p3⟩
theorem ClI.dis' (h : VNd q l) : Dis (clsTo l l.length).1 (reps l) := by
  have hi := ClI.all h _ (Nat.le_refl _)
  intro i j hpi hpj he
  obtain ⟨c, e1, -, e3⟩ := hi.cl i hpi.1
  obtain ⟨d, f1, -, f3⟩ := hi.cl j hpj.1
  rw [he, f3] at e3
  injection e3 with e3
  have := hpi.2
  have := hpj.2
  omega
/-- the root's class -/
def clsRoot (l : List Nd) : Nat := ((clsTo l l.length).2.getD (l.length - 1) 0).toNat
theorem clsRoot_ok (h : VNd q l) (hp : 0 < l.length) : reps l (clsRoot l) ∧ Eqv q (clsTo l l.length).1 (clsRoot l) l (l.length - 1) ∧ (clsTo l l.length).2.getD (l.length - 1) 0 = (clsRoot l : Int) := by
  have hi := ClI.all h _ (Nat.le_refl _)
  obtain ⟨c, e1, e2, e3, e4⟩ := hi.cc (i := l.length - 1) (by omega)
  have hr : clsRoot l = c := by unfold clsRoot; rw [e1]; rfl
  rw [hr]
  exact ⟨⟨by omega, e3⟩, (Eqv.node e4 (hi.lev.one c (by rw [hi.nl]; omega))).trans (hi.eqv _ (by omega)), e1⟩
/-- the nodes of the reference -/
def ordR (l : List Nd) : List Nd := ord (clsTo l l.length).1 100 (clsRoot l)
theorem ordR_eq (h : VNd q l) (hp : 0 < l.length) (hl : (ndAt l (l.length - 1)).1 ≤ 100) : ordR l = redN chR l := by
  obtain ⟨r1, r2, -⟩ := clsRoot_ok h hp
  have hR := RbI.all h (chR_chg q) _ (Nat.le_refl _)
  obtain ⟨g1, g2, g3⟩ := hR.eqv (l.length - 1) (by omega)
  have hch : chgL chR l = l := by unfold chgL chR; simp
  rw [hch] at g3
  exact ord_eq (ClI.lev' h) hR.v.lev (ClI.dis' h) hR.dis (by rw [r2.1]; omega) (by rw [r2.1]; omega) r1 g2 (r2.trans g3.symm)
/-- to rebuild the changed nodes is to rebuild with the change -/
theorem redN_chg {ch : Int → List Int → List Int} (h : VNd q l) (hc : Chg q ch) (hp : 0 < l.length) (hl : (ndAt l (l.length - 1)).1 ≤ 100) : redN chR (chgL ch l) = redN ch l := by
  have hv := h.chg hc
  have hlen := chg_len ch l
  have hR := RbI.all hv (chR_chg q) _ (Nat.le_refl _)
  have hS := RbI.all h hc _ (Nat.le_refl _)
  obtain ⟨g1, g2, g3⟩ := hR.eqv (l.length - 1) (by omega)
  obtain ⟨k1, k2, k3⟩ := hS.eqv (l.length - 1) (by omega)
  have hch : chgL chR (chgL ch l) = chgL ch l := by unfold chgL chR; simp
  rw [hch] at g3
  have hlv : (ndAt (chgL ch l) (l.length - 1)).1 = (ndAt l (l.length - 1)).1 := by rw [chg_at ch (by omega)]
  unfold redN
  rw [hlen] at hR g1 g2 g3 ⊢
  exact ord_eq hR.v.lev hS.v.lev hR.dis hS.dis (by rw [g3.1, hlv]; omega) (by rw [g3.1, hlv]; omega) g2 k2 (g3.trans k3.symm)
end
end Go.Proofs.YtmlhkbgifnifdaaGreatDoor
