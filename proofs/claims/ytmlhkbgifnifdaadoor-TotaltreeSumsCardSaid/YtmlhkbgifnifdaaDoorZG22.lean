/-
  cellularref14.Value. No condition but that the rule's neighbourhood is one of the known ones, and that the states are states.
  cellularref14.Same. No condition but the reach.
  Trees that are built from the leaves on, in plain lists; the tree of a rule of rows. No condition.
-/
import Derived.Test.YtmlhkbgifnifdaaDoorZG21
import Derived.Test.YtmlhkbgifnifdaaDoorZG20
import Derived.Test.YtmlhkbgifnifdaaDoorZG5
import Derived.Test.YtmlhkbgifnifdaaDoorZG17
import Derived.Test.YtmlhkbgifnifdaaDoorZG14
namespace Go.Proofs.YtmlhkbgifnifdaaDoor
open Go.RowKit
set_option maxRecDepth 100000
set_option linter.unusedVariables false
set_option linter.unusedSimpArgs false

/-- how many of the first i places but c hold 1 -/
def cntTo (c : Nat) (zs : List Int) : Nat → Nat
  | 0 => 0
  | i + 1 => if i ≠ c ∧ zs.getD i 0 = 1 then cntTo c zs i + 1 else cntTo c zs i
theorem cntTo_le (c : Nat) (zs : List Int) : ∀ i, cntTo c zs i ≤ i
  | 0 => Nat.le_refl _
  | i + 1 => by
    unfold cntTo
    have := cntTo_le c zs i
    split <;> omega
def valP (x : TotL) (zs : List Int) : Int := nextT x ((cntTo (ctrP x.hood).toNat zs zs.length : Nat), zs.getD (ctrP x.hood).toNat 0)
structure RvJ (W : World) (xv : Value) (sv : Value) (bq : Nat) (oq : Nat) (cn : Nat) (zc : Int) (ct : Nat) (r : Int) (b0 b1 b2 b3 b4 b5 b6 b7 : Bool) (v30 v31 v32 v33 v34 v35 v36 v4 : Value) (w : World) : Prop where
  h0 : b0 = true → v30 = xv
  h1 : b1 = true → v31 = sv
  h2 : b2 = true → v32 = .int .i64 (cn : Int)
  h3 : b3 = true → v33 = .pointer (some ⟨bq, oq + cn, none⟩)
  h4 : b4 = true → v34 = .int .i64 zc
  h5 : b5 = true → v35 = .int .i64 (ct : Int)
  h6 : b6 = true → v36 = .int .i64 r
  h7 : b7 = true → v4 = .int .i64 r
  below : Below W.heap.size W w
section
variable {W : World} {xv : Value} {sv : Value} {bq : Nat} {oq : Nat} {cn : Nat} {zc : Int} {ct : Nat} {r : Int} {b0 b1 b2 b3 b4 b5 b6 b7 : Bool} {v30 v31 v32 v33 v34 v35 v36 v4 : Value} {w w' : World}
theorem RvJ.world (H : RvJ W xv sv bq oq cn zc ct r b0 b1 b2 b3 b4 b5 b6 b7 v30 v31 v32 v33 v34 v35 v36 v4 w) (hb : Below w.heap.size w w') : RvJ W xv sv bq oq cn zc ct r b0 b1 b2 b3 b4 b5 b6 b7 v30 v31 v32 v33 v34 v35 v36 v4 w' :=
  ⟨H.h0, H.h1, H.h2, H.h3, H.h4, H.h5, H.h6, H.h7, H.below.trans (hb.mono H.below.size)⟩
end

set_option maxHeartbeats 8000000 in
theorem rvalue_any (x : TotL) (A B C : Option Addr) (a b c : Nat) (Av : Option Addr) (cv : Nat) (zs : List Int) (w : World) (ht : TotR w A B C x) (hz : Ints w Av zs) (hl : zs.length = x.hood.length) (hk : knownB x.hood = true) (hq : 2 ≤ x.states) (hr : ∀ z ∈ zs, 0 ≤ z ∧ z ≤ 100) :
    Calls Tryd.prog 11 #[totV A a B b C c x, .slice Av zs.length cv] w fun e w' => e = .returned (.int .i64 (valP x zs)) ∧ Below w.heap.size w w' := by
  obtain ⟨cn, hc1, hc2, hc3⟩ := known_ctr hk
  obtain ⟨hl1, hl9⟩ := known_len hk
  obtain ⟨w0, hw0⟩ : ∃ w0, w0 = w.alloc (.cells #[.slice A x.hood.length a, .int .i64 x.states, .slice B x.birth.length b, .slice C x.survive.length c] 25) := ⟨_, rfl⟩
  have hb0 : Below w.heap.size w w0 := by rw [hw0]; exact below_new _ _
  have q0 : Blk w0 w.heap.size 25 #[.slice A x.hood.length a, .int .i64 x.states, .slice B x.birth.length b, .slice C x.survive.length c] := by rw [hw0]; exact Blk.new _ _ _
  have d0 := q0.cell_ 0 (.slice A x.hood.length a) rfl
  have hix := ridx_any A x.hood a 0 0 w0 (ht.hood.ext hb0)
  rw [hc3] at hix
  have hcz : cn < zs.length := by rw [hl]; exact hc2
  obtain ⟨zc, hzc⟩ : ∃ zc, zc = zs.getD cn 0 := ⟨_, rfl⟩
  have hzm : 0 ≤ zc ∧ zc ≤ 100 := by rw [hzc]; exact hr _ (getD_mem hcz)
  obtain ⟨ct, hct⟩ : ∃ ct, ct = cntTo cn zs zs.length := ⟨_, rfl⟩
  obtain ⟨r, hre⟩ : ∃ r, r = nextT x ((ct : Int), zc) := ⟨_, rfl⟩
  have hval : valP x zs = r := by unfold valP; rw [hc1, Int.toNat_natCast, hre, hzc, hct]
  have hnx := fun W (hW : Below w0.heap.size w0 W) => rnext_any x A B C a b c (ct : Int) zc W ((ht.ext hb0).ext hW) hzm.1 hzm.2 hq
  rw [← hre] at hnx
  unfold totV at hnx
  have hn := ht.hood.le
  have hm := hz.le
  have HIX := Lib.hid hix
  have HNX := Lib.hid hnx
  have HB := Lib.hid hb0
  have HW := Lib.hid hw0
  have HQX := Lib.hid q0
  have HZ0 := Lib.hid (hz.ext hb0)
  have HCT := Lib.hid hct
  have HZC := Lib.hid hzc
  have HL : Hid (zs.length ≤ 9) := Lib.hid (by omega)
  have HCZ := Lib.hid hcz
  rw [hval]
  unfold totV
  clear hb0 hw0 q0 hix hnx hct hzc hzm hre hval ht hz hl hk hq hr hc1 hc2 hc3 hl1 hl9 hcz
  go_enter Tryd.func11, Tryd.ntmps11
  go_upto_region 1 with fail
  rw [← HW.out]
  go_wp2_with (go_at_call 12; refine HIX.out.mono ?_; rintro e w1 ⟨rfl, hb1⟩; refine Hid.out ?_)
  refine Lib.hid ?_
  have HB1 := Lib.hid hb1
  have HZ1 := Lib.hid (HZ0.out.ext hb1)
  clear hb1 d0 HIX
  go_wp2
  go_loop [6, 7] (fun cv iv => ∃ i : Nat, i ≤ zs.length ∧ iv = .int .i64 i ∧ cv = .int .i64 (cntTo cn zs i : Nat)) (fun _ iv => zs.length - (intOf iv).toNat)
  case atStart => exact ⟨0, Nat.zero_le _, rfl, rfl⟩
  case round =>
    obtain ⟨i, hi, rfl, rfl⟩ := hrel
    have hwi : wrap64 ((i : Int) + 1) = (i : Int) + 1 := by have := HL.out; unfold wrap64; omega
    by_cases hil : i < zs.length
    · have HIL := Lib.hid hil
      have hd9 : decide ((i : Int) < (zs.length : Int)) = true := decide_eq_true (by omega)
      have hle := cntTo_le cn zs i
      obtain ⟨k, hkk⟩ : ∃ k, k = cntTo cn zs i := ⟨_, rfl⟩
      rw [← hkk] at hle ⊢
      have HKK := Lib.hid hkk
      have hwk : wrap64 ((k : Int) + 1) = ((k + 1 : Nat) : Int) := by have := HL.out; unfold wrap64; omega
      obtain ⟨bq, oq, rfl, -, hc⟩ := HZ1.out.at_ hil
      obtain ⟨z, hz⟩ : ∃ z, z = zs[i]'hil := ⟨_, rfl⟩
      have hzd : zs.getD i 0 = z := by rw [List.getD_eq_getElem?_getD, List.getElem?_eq_getElem hil, hz]; rfl
      rw [← hz] at hc
      have HZD := Lib.hid hzd
      by_cases hic : i = cn
      · have HN : Hid (cntTo cn zs (i + 1) = cntTo cn zs i) := Lib.hid (by rw [cntTo]; exact if_neg (fun h => h.1 hic))
        have hd := (by simp [hic] : ((i : Int) != (cn : Int)) = false)
        clear hi hil hic hle hz hzd hkk hc
        go_wp2
        go_round
        case rel => exact ⟨i + 1, HIL.out, (by first | rfl | (rw [hwi]; rfl)), (by rw [HN.out, ← HKK.out])⟩
        case measure => (try rw [hwi]); exact meas_step HIL.out
      · have hd : ((i : Int) != (cn : Int)) = true := by simp; omega
        by_cases h1 : z = 1
        · have HN : Hid (cntTo cn zs (i + 1) = cntTo cn zs i + 1) := Lib.hid (by rw [cntTo]; exact if_pos ⟨hic, by rw [hzd, h1]⟩)
          have hd1 : (z == 1) = true := by simp [h1]
          clear hi hic hle hz hzd hkk h1
          go_wp2
          go_round
          case rel => exact ⟨i + 1, HIL.out, (by first | rfl | (rw [hwi]; rfl)), (by rw [HN.out, ← HKK.out]; first | rfl | (rw [hwk]))⟩
          case measure => (try rw [hwi]); exact meas_step HIL.out
        · have HN : Hid (cntTo cn zs (i + 1) = cntTo cn zs i) := Lib.hid (by rw [cntTo]; exact if_neg (fun h => h1 (by rw [← hzd]; exact h.2)))
          have hd1 : (z == 1) = false := by simp [h1]
          clear hi hic hle hz hzd hkk h1
          go_wp2
          go_round
          case rel => exact ⟨i + 1, HIL.out, (by first | rfl | (rw [hwi]; rfl)), (by rw [HN.out, ← HKK.out])⟩
          case measure => (try rw [hwi]); exact meas_step HIL.out
    · obtain rfl : i = zs.length := Nat.le_antisymm hi (Nat.le_of_not_lt hil)
      rw [← HCT.out]
      obtain ⟨bq, oq, eA, hbl, hcc⟩ := HZ1.out.at_ HCZ.out
      have hzd : zs[cn]'HCZ.out = zc := by rw [HZC.out, List.getD_eq_getElem?_getD, List.getElem?_eq_getElem HCZ.out]; rfl
      rw [hzd] at hcc
      subst eA
      have HCC := Lib.hid (And.intro hbl hcc)
      have HCZ' := Lib.hid HCZ.out
      obtain ⟨nz, hnz⟩ : ∃ nz, nz = zs.length := ⟨_, rfl⟩
      have hcz : cn < nz := by rw [hnz]; exact HCZ.out
      have hm9 : nz ≤ 9 := by rw [hnz]; exact HL.out
      clear hi hil hzd hcc hbl
      rw [← hnz]
      clear hnz
      go_wp2
      refine wp_region_J (by kernel_rfl) (fun listed act w' => ∃ b0 b1 b2 b3 b4 b5 b6 b7 v30 v31 v32 v33 v34 v35 v36 v4, listed = #[b0, b1, b2, b3, b4, b5, b6, b7] ∧ act = Act.mk #[.agg #[.slice A x.hood.length a, .int .i64 x.states, .slice B x.birth.length b, .slice C x.survive.length c], .slice (some ⟨bq, oq, none⟩) nz cv, .pointer (some ⟨w.heap.size, 0, none⟩), undef, v4, .int .i64 cn, .int .i64 ct, .int .i64 nz, .pointer (some ⟨w.heap.size, 0, none⟩), .slice A x.hood.length a, .agg #[.int .i64 0, .int .i64 0], .int .i64 cn, .int .i64 nz, .slice (some ⟨bq, oq, none⟩) nz cv, .int .i64 nz, .bool false, u16, u17, u18, u19, u20, u21, u22, u23, u24, u25, u26, u27, u28, u29, v30, v31, v32, v33, v34, v35, v36] [] ∧ RvJ w1 (.agg #[.slice A x.hood.length a, .int .i64 x.states, .slice B x.birth.length b, .slice C x.survive.length c]) (.slice (some ⟨bq, oq, none⟩) nz cv) bq oq cn zc ct r b0 b1 b2 b3 b4 b5 b6 b7 v30 v31 v32 v33 v34 v35 v36 v4 w') ?_ ?_ ?_
      · exact ⟨_, _, _, _, _, _, _, _, _, _, _, _, _, _, _, _, rfl, rfl, ⟨(by simp), (by simp), (by simp), (by simp), (by simp), (by simp), (by simp), (by simp), (Below.refl _ w1).drew⟩⟩
      · rintro i listed act w' hi ⟨b0, b1, b2, b3, b4, b5, b6, b7, v30, v31, v32, v33, v34, v35, v36, v4, rfl, rfl, H⟩
        have hi16 : i < 8 := by
          obtain ⟨-, o, ho, -⟩ := mem_ready.1 hi
          exact (Array.getElem?_eq_some_iff.1 ho).1
        obtain rfl | rfl | rfl | rfl | rfl | rfl | rfl | rfl : i = 0 ∨ i = 1 ∨ i = 2 ∨ i = 3 ∨ i = 4 ∨ i = 5 ∨ i = 6 ∨ i = 7 := by omega
        all_goals simp [mem_ready, Region.binds] at hi
        · have pw := HQX.out.below (HB1.out.trans (H.below.mono HB1.out.size)) HQX.out.lt
          have c0 := pw.cell_ 0 (.slice A x.hood.length a) rfl
          have c1 := pw.cell_ 1 (.int .i64 x.states) rfl
          have c2 := pw.cell_ 2 (.slice B x.birth.length b) rfl
          have c3 := pw.cell_ 3 (.slice C x.survive.length c) rfl
          clear pw
          refine wpOp_hidden rfl fun K hK => ?_
          go_wp2
          refine OnlyN.mk (hK.out _ _ ⟨true, _, _, _, _, _, _, _, .agg #[.slice A x.hood.length a, .int .i64 x.states, .slice B x.birth.length b, .slice C x.survive.length c], _, _, _, _, _, _, _, rfl, rfl, ⟨fun _ => rfl, H.h1, H.h2, H.h3, H.h4, H.h5, H.h6, H.h7, H.below⟩⟩)
        · refine wpOp_hidden rfl fun K hK => ?_
          go_wp2
          refine OnlyN.mk (hK.out _ _ ⟨_, true, _, _, _, _, _, _, _, .slice (some ⟨bq, oq, none⟩) nz cv, _, _, _, _, _, _, rfl, rfl, ⟨H.h0, fun _ => rfl, H.h2, H.h3, H.h4, H.h5, H.h6, H.h7, H.below⟩⟩)
        · refine wpOp_hidden rfl fun K hK => ?_
          go_wp2
          refine OnlyN.mk (hK.out _ _ ⟨_, _, true, _, _, _, _, _, _, _, .int .i64 cn, _, _, _, _, _, rfl, rfl, ⟨H.h0, H.h1, fun _ => rfl, H.h3, H.h4, H.h5, H.h6, H.h7, H.below⟩⟩)
        · obtain rfl := H.h1 (by simp [hi])
          obtain rfl := H.h2 (by simp [hi])
          refine wpOp_hidden rfl fun K hK => ?_
          go_wp2
          refine OnlyN.mk (hK.out _ _ ⟨_, _, _, true, _, _, _, _, _, _, _, .pointer (some ⟨bq, oq + cn, none⟩), _, _, _, _, rfl, rfl, ⟨H.h0, H.h1, H.h2, fun _ => rfl, H.h4, H.h5, H.h6, H.h7, H.below⟩⟩)
        · have hcw := (H.below.cell (p := ⟨bq, oq + cn, none⟩) HCC.out.1).trans HCC.out.2
          obtain rfl := H.h3 (by simp [hi])
          refine wpOp_hidden rfl fun K hK => ?_
          go_wp2
          refine OnlyN.mk (hK.out _ _ ⟨_, _, _, _, true, _, _, _, _, _, _, _, .int .i64 zc, _, _, _, rfl, rfl, ⟨H.h0, H.h1, H.h2, H.h3, fun _ => rfl, H.h5, H.h6, H.h7, H.below⟩⟩)
        · refine wpOp_hidden rfl fun K hK => ?_
          go_wp2
          refine OnlyN.mk (hK.out _ _ ⟨_, _, _, _, _, true, _, _, _, _, _, _, _, .int .i64 ct, _, _, rfl, rfl, ⟨H.h0, H.h1, H.h2, H.h3, H.h4, fun _ => rfl, H.h6, H.h7, H.below⟩⟩)
        · obtain rfl := H.h0 (by simp [hi])
          obtain rfl := H.h4 (by simp [hi])
          obtain rfl := H.h5 (by simp [hi])
          have HB0 := Lib.hid (H.below)
          have hcall := HNX.out w' (HB1.out.trans (HB0.out.mono HB1.out.size))
          have HCALL := Lib.hid hcall
          clear hcall
          refine wpOp_hidden rfl fun K hK => ?_
          go_wp2_with (go_at_call 38; refine HCALL.out.mono ?_; intro e w9 hx; obtain ⟨rfl, hb9⟩ := hx; refine Hid.out ?_)
          refine Lib.hid ?_
          have HB9 := Lib.hid hb9
          clear hb9 HCALL
          go_wp2
          refine OnlyN.mk (hK.out _ _ ⟨_, _, _, _, _, _, true, _, _, _, _, _, _, _, .int .i64 r, _, rfl, rfl, ⟨(H.world HB9.out).h0, (H.world HB9.out).h1, (H.world HB9.out).h2, (H.world HB9.out).h3, (H.world HB9.out).h4, (H.world HB9.out).h5, fun _ => rfl, (H.world HB9.out).h7, (H.world HB9.out).below⟩⟩)
        · obtain rfl := H.h6 (by simp [hi])
          refine wpOp_hidden rfl fun K hK => ?_
          go_wp2
          refine OnlyN.mk (hK.out _ _ ⟨_, _, _, _, _, _, _, true, _, _, _, _, _, _, _, .int .i64 r, rfl, rfl, ⟨H.h0, H.h1, H.h2, H.h3, H.h4, H.h5, H.h6, fun _ => rfl, H.below⟩⟩)
      · rintro listed act w' hr ⟨b0, b1, b2, b3, b4, b5, b6, b7, v30, v31, v32, v33, v34, v35, v36, v4, rfl, rfl, H⟩
        have hn := List.eq_nil_iff_forall_not_mem.1 hr
        have r0 := hn 0
        simp [mem_ready, Region.binds] at r0
        subst r0
        have r1 := hn 1
        simp [mem_ready, Region.binds] at r1
        subst r1
        have r2 := hn 2
        simp [mem_ready, Region.binds] at r2
        subst r2
        have r3 := hn 3
        simp [mem_ready, Region.binds] at r3
        subst r3
        have r4 := hn 4
        simp [mem_ready, Region.binds] at r4
        subst r4
        have r5 := hn 5
        simp [mem_ready, Region.binds] at r5
        subst r5
        have r6 := hn 6
        simp [mem_ready, Region.binds] at r6
        subst r6
        have r7 := hn 7
        simp [mem_ready, Region.binds] at r7
        subst r7
        try dsimp only
        obtain rfl := H.h7 rfl
        have HBF := Lib.hid ((HB.out.trans (HB1.out.mono HB.out.size)).trans (H.below.mono (Nat.le_trans HB.out.size HB1.out.size)))
        clear H hr hn
        go_wp2
        go_ret
        exact ⟨rfl, HBF.out⟩
end Go.Proofs.YtmlhkbgifnifdaaDoor
namespace Go.Proofs.YtmlhkbgifnifdaaDoor
open Go.RowKit
set_option maxRecDepth 100000
set_option linter.unusedVariables false
set_option linter.unusedSimpArgs false

def sameTot (x y : TotL) : Bool := decide (x.states = y.states) && decide (x.hood = y.hood) && decide (x.birth = y.birth) && decide (x.survive = y.survive)
set_option maxHeartbeats 16000000 in
theorem rtsame_any (x y : TotL) (A B C : Option Addr) (a b c : Nat) (A' B' C' : Option Addr) (a' b' c' : Nat) (w : World) (hx : TotR w A B C x) (hy : TotR w A' B' C' y) :
    Calls Tryd.prog 26 #[totV A a B b C c x, totV A' a' B' b' C' c' y] w fun e w' => e = .returned (.bool (sameTot x y)) ∧ Below w.heap.size w w' := by
  unfold totV
  obtain ⟨w0, hw0⟩ : ∃ w0, w0 = (w.alloc (.cells #[.slice A x.hood.length a, .int .i64 x.states, .slice B x.birth.length b, .slice C x.survive.length c] 25)).alloc (.cells #[.slice A' y.hood.length a', .int .i64 y.states, .slice B' y.birth.length b', .slice C' y.survive.length c'] 25) := ⟨_, rfl⟩
  have hb0 : Below w.heap.size w w0 := by rw [hw0]; exact (below_new _ _).alloc (by simp) _
  have p0 : Blk w0 w.heap.size 25 #[.slice A x.hood.length a, .int .i64 x.states, .slice B x.birth.length b, .slice C x.survive.length c] := by rw [hw0]; exact (Blk.new w _ _).alloc _
  have q0 : Blk w0 (w.heap.size + 1) 25 #[.slice A' y.hood.length a', .int .i64 y.states, .slice B' y.birth.length b', .slice C' y.survive.length c'] := by rw [hw0]; exact blk_two _ _ _ _
  have HC1 := Lib.hid (fun W (hW : Below w0.heap.size w0 W) => samePtsR A A' x.hood y.hood a a' W ((hx.ext hb0).hood.ext hW) ((hy.ext hb0).hood.ext hW))
  have HC2 := Lib.hid (fun W (hW : Below w0.heap.size w0 W) => sameIntsR B B' x.birth y.birth b b' W ((hx.ext hb0).birth.ext hW) ((hy.ext hb0).birth.ext hW))
  have HC3 := Lib.hid (fun W (hW : Below w0.heap.size w0 W) => sameIntsR C C' x.survive y.survive c c' W ((hx.ext hb0).survive.ext hW) ((hy.ext hb0).survive.ext hW))
  have HB := Lib.hid hb0
  have HW := Lib.hid hw0
  have HP := Lib.hid p0
  have HQ := Lib.hid q0
  clear hb0 hw0 p0 q0 hx hy
  unfold sameTot
  cases h1 : decide (x.states = y.states) with
  | false =>
    have hd : (x.states == y.states) = false := by simpa using h1
    have HD := Lib.hid hd
    clear h1 hd
    have x0 := HP.out.cell_ 0 (.slice A x.hood.length a) rfl
    have y0 := HQ.out.cell_ 0 (.slice A' y.hood.length a') rfl
    have x1 := HP.out.cell_ 1 (.int .i64 x.states) rfl
    have y1 := HQ.out.cell_ 1 (.int .i64 y.states) rfl
    have x2 := HP.out.cell_ 2 (.slice B x.birth.length b) rfl
    have y2 := HQ.out.cell_ 2 (.slice B' y.birth.length b') rfl
    have x3 := HP.out.cell_ 3 (.slice C x.survive.length c) rfl
    have y3 := HQ.out.cell_ 3 (.slice C' y.survive.length c') rfl
    go_enter Tryd.func26, Tryd.ntmps26
    go_upto_region 1 with fail
    rw [← HW.out]
    have hdd := HD.out
    go_wp2
    go_ret
    exact ⟨ret_bool (by simp), HB.out⟩
  | true =>
    have hd : (x.states == y.states) = true := by simpa using h1
    have HD := Lib.hid hd
    clear h1 hd
    cases h2 : decide (x.hood = y.hood) with
    | false =>
      rw [h2] at HC1
      clear h2
      have x0 := HP.out.cell_ 0 (.slice A x.hood.length a) rfl
      have y0 := HQ.out.cell_ 0 (.slice A' y.hood.length a') rfl
      have x1 := HP.out.cell_ 1 (.int .i64 x.states) rfl
      have y1 := HQ.out.cell_ 1 (.int .i64 y.states) rfl
      have x2 := HP.out.cell_ 2 (.slice B x.birth.length b) rfl
      have y2 := HQ.out.cell_ 2 (.slice B' y.birth.length b') rfl
      have x3 := HP.out.cell_ 3 (.slice C x.survive.length c) rfl
      have y3 := HQ.out.cell_ 3 (.slice C' y.survive.length c') rfl
      go_enter Tryd.func26, Tryd.ntmps26
      go_upto_region 1 with fail
      rw [← HW.out]
      have hdd := HD.out
      have HB0 : Hid (Below w0.heap.size w0 w0) := Lib.hid (Below.refl _ _)
      have HX0 := Lib.hid (HC1.out _ HB0.out)
      go_wp2_with (go_at_call 48; refine HX0.out.mono ?_; rintro e z1 ⟨rfl, hq⟩; refine Hid.out ?_)
      refine Lib.hid ?_
      have HB1 : Hid (Below w0.heap.size w0 z1) := Lib.hid (HB0.out.trans ((hq.below _).mono HB0.out.size))
      clear hq HX0
      clear x0 y0 x1 y1 x2 y2 x3 y3
      have HP1 := Lib.hid (HP.out.below HB1.out HP.out.lt)
      have HQ1 := Lib.hid (HQ.out.below HB1.out HQ.out.lt)
      have x0 := HP1.out.cell_ 0 (.slice A x.hood.length a) rfl
      have y0 := HQ1.out.cell_ 0 (.slice A' y.hood.length a') rfl
      have x1 := HP1.out.cell_ 1 (.int .i64 x.states) rfl
      have y1 := HQ1.out.cell_ 1 (.int .i64 y.states) rfl
      have x2 := HP1.out.cell_ 2 (.slice B x.birth.length b) rfl
      have y2 := HQ1.out.cell_ 2 (.slice B' y.birth.length b') rfl
      have x3 := HP1.out.cell_ 3 (.slice C x.survive.length c) rfl
      have y3 := HQ1.out.cell_ 3 (.slice C' y.survive.length c') rfl
      go_wp2
      go_ret
      exact ⟨ret_bool (by simp), HB.out.trans (HB1.out.mono HB.out.size)⟩
    | true =>
      rw [h2] at HC1
      clear h2
      cases h3 : decide (x.birth = y.birth) with
      | false =>
        rw [h3] at HC2
        clear h3
        have x0 := HP.out.cell_ 0 (.slice A x.hood.length a) rfl
        have y0 := HQ.out.cell_ 0 (.slice A' y.hood.length a') rfl
        have x1 := HP.out.cell_ 1 (.int .i64 x.states) rfl
        have y1 := HQ.out.cell_ 1 (.int .i64 y.states) rfl
        have x2 := HP.out.cell_ 2 (.slice B x.birth.length b) rfl
        have y2 := HQ.out.cell_ 2 (.slice B' y.birth.length b') rfl
        have x3 := HP.out.cell_ 3 (.slice C x.survive.length c) rfl
        have y3 := HQ.out.cell_ 3 (.slice C' y.survive.length c') rfl
        go_enter Tryd.func26, Tryd.ntmps26
        go_upto_region 1 with fail
        rw [← HW.out]
        have hdd := HD.out
        have HB0 : Hid (Below w0.heap.size w0 w0) := Lib.hid (Below.refl _ _)
        have HX0 := Lib.hid (HC1.out _ HB0.out)
        go_wp2_with (go_at_call 48; refine HX0.out.mono ?_; rintro e z1 ⟨rfl, hq⟩; refine Hid.out ?_)
        refine Lib.hid ?_
        have HB1 : Hid (Below w0.heap.size w0 z1) := Lib.hid (HB0.out.trans ((hq.below _).mono HB0.out.size))
        clear hq HX0
        clear x0 y0 x1 y1 x2 y2 x3 y3
        have HP1 := Lib.hid (HP.out.below HB1.out HP.out.lt)
        have HQ1 := Lib.hid (HQ.out.below HB1.out HQ.out.lt)
        have x0 := HP1.out.cell_ 0 (.slice A x.hood.length a) rfl
        have y0 := HQ1.out.cell_ 0 (.slice A' y.hood.length a') rfl
        have x1 := HP1.out.cell_ 1 (.int .i64 x.states) rfl
        have y1 := HQ1.out.cell_ 1 (.int .i64 y.states) rfl
        have x2 := HP1.out.cell_ 2 (.slice B x.birth.length b) rfl
        have y2 := HQ1.out.cell_ 2 (.slice B' y.birth.length b') rfl
        have x3 := HP1.out.cell_ 3 (.slice C x.survive.length c) rfl
        have y3 := HQ1.out.cell_ 3 (.slice C' y.survive.length c') rfl
        have HX1 := Lib.hid (HC2.out _ HB1.out)
        go_wp2_with (go_at_call 54; refine HX1.out.mono ?_; rintro e z2 ⟨rfl, hq⟩; refine Hid.out ?_)
        refine Lib.hid ?_
        have HB2 : Hid (Below w0.heap.size w0 z2) := Lib.hid (HB1.out.trans ((hq.below _).mono HB1.out.size))
        clear hq HX1
        clear x0 y0 x1 y1 x2 y2 x3 y3
        have HP2 := Lib.hid (HP.out.below HB2.out HP.out.lt)
        have HQ2 := Lib.hid (HQ.out.below HB2.out HQ.out.lt)
        have x0 := HP2.out.cell_ 0 (.slice A x.hood.length a) rfl
        have y0 := HQ2.out.cell_ 0 (.slice A' y.hood.length a') rfl
        have x1 := HP2.out.cell_ 1 (.int .i64 x.states) rfl
        have y1 := HQ2.out.cell_ 1 (.int .i64 y.states) rfl
        have x2 := HP2.out.cell_ 2 (.slice B x.birth.length b) rfl
        have y2 := HQ2.out.cell_ 2 (.slice B' y.birth.length b') rfl
        have x3 := HP2.out.cell_ 3 (.slice C x.survive.length c) rfl
        have y3 := HQ2.out.cell_ 3 (.slice C' y.survive.length c') rfl
        go_wp2
        go_ret
        exact ⟨ret_bool (by simp), HB.out.trans (HB2.out.mono HB.out.size)⟩
      | true =>
        rw [h3] at HC2
        clear h3
        obtain ⟨sb, hsb⟩ : ∃ sb, sb = decide (x.survive = y.survive) := ⟨_, rfl⟩
        rw [← hsb] at HC3 ⊢
        clear hsb
        have x0 := HP.out.cell_ 0 (.slice A x.hood.length a) rfl
        have y0 := HQ.out.cell_ 0 (.slice A' y.hood.length a') rfl
        have x1 := HP.out.cell_ 1 (.int .i64 x.states) rfl
        have y1 := HQ.out.cell_ 1 (.int .i64 y.states) rfl
        have x2 := HP.out.cell_ 2 (.slice B x.birth.length b) rfl
        have y2 := HQ.out.cell_ 2 (.slice B' y.birth.length b') rfl
        have x3 := HP.out.cell_ 3 (.slice C x.survive.length c) rfl
        have y3 := HQ.out.cell_ 3 (.slice C' y.survive.length c') rfl
        go_enter Tryd.func26, Tryd.ntmps26
        go_upto_region 1 with fail
        rw [← HW.out]
        have hdd := HD.out
        have HB0 : Hid (Below w0.heap.size w0 w0) := Lib.hid (Below.refl _ _)
        have HX0 := Lib.hid (HC1.out _ HB0.out)
        go_wp2_with (go_at_call 48; refine HX0.out.mono ?_; rintro e z1 ⟨rfl, hq⟩; refine Hid.out ?_)
        refine Lib.hid ?_
        have HB1 : Hid (Below w0.heap.size w0 z1) := Lib.hid (HB0.out.trans ((hq.below _).mono HB0.out.size))
        clear hq HX0
        clear x0 y0 x1 y1 x2 y2 x3 y3
        have HP1 := Lib.hid (HP.out.below HB1.out HP.out.lt)
        have HQ1 := Lib.hid (HQ.out.below HB1.out HQ.out.lt)
        have x0 := HP1.out.cell_ 0 (.slice A x.hood.length a) rfl
        have y0 := HQ1.out.cell_ 0 (.slice A' y.hood.length a') rfl
        have x1 := HP1.out.cell_ 1 (.int .i64 x.states) rfl
        have y1 := HQ1.out.cell_ 1 (.int .i64 y.states) rfl
        have x2 := HP1.out.cell_ 2 (.slice B x.birth.length b) rfl
        have y2 := HQ1.out.cell_ 2 (.slice B' y.birth.length b') rfl
        have x3 := HP1.out.cell_ 3 (.slice C x.survive.length c) rfl
        have y3 := HQ1.out.cell_ 3 (.slice C' y.survive.length c') rfl
        have HX1 := Lib.hid (HC2.out _ HB1.out)
        go_wp2_with (go_at_call 54; refine HX1.out.mono ?_; rintro e z2 ⟨rfl, hq⟩; refine Hid.out ?_)
        refine Lib.hid ?_
        have HB2 : Hid (Below w0.heap.size w0 z2) := Lib.hid (HB1.out.trans ((hq.below _).mono HB1.out.size))
        clear hq HX1
        clear x0 y0 x1 y1 x2 y2 x3 y3
        have HP2 := Lib.hid (HP.out.below HB2.out HP.out.lt)
        have HQ2 := Lib.hid (HQ.out.below HB2.out HQ.out.lt)
        have x0 := HP2.out.cell_ 0 (.slice A x.hood.length a) rfl
        have y0 := HQ2.out.cell_ 0 (.slice A' y.hood.length a') rfl
        have x1 := HP2.out.cell_ 1 (.int .i64 x.states) rfl
        have y1 := HQ2.out.cell_ 1 (.int .i64 y.states) rfl
        have x2 := HP2.out.cell_ 2 (.slice B x.birth.length b) rfl
        have y2 := HQ2.out.cell_ 2 (.slice B' y.birth.length b') rfl
        have x3 := HP2.out.cell_ 3 (.slice C x.survive.length c) rfl
        have y3 := HQ2.out.cell_ 3 (.slice C' y.survive.length c') rfl
        have HX2 := Lib.hid (HC3.out _ HB2.out)
        go_wp2_with (go_at_call 54; refine HX2.out.mono ?_; rintro e z3 ⟨rfl, hq⟩; refine Hid.out ?_)
        refine Lib.hid ?_
        have HB3 : Hid (Below w0.heap.size w0 z3) := Lib.hid (HB2.out.trans ((hq.below _).mono HB2.out.size))
        clear hq HX2
        clear x0 y0 x1 y1 x2 y2 x3 y3
        have HP3 := Lib.hid (HP.out.below HB3.out HP.out.lt)
        have HQ3 := Lib.hid (HQ.out.below HB3.out HQ.out.lt)
        have x0 := HP3.out.cell_ 0 (.slice A x.hood.length a) rfl
        have y0 := HQ3.out.cell_ 0 (.slice A' y.hood.length a') rfl
        have x1 := HP3.out.cell_ 1 (.int .i64 x.states) rfl
        have y1 := HQ3.out.cell_ 1 (.int .i64 y.states) rfl
        have x2 := HP3.out.cell_ 2 (.slice B x.birth.length b) rfl
        have y2 := HQ3.out.cell_ 2 (.slice B' y.birth.length b') rfl
        have x3 := HP3.out.cell_ 3 (.slice C x.survive.length c) rfl
        have y3 := HQ3.out.cell_ 3 (.slice C' y.survive.length c') rfl
        go_wp2
        go_ret
        exact ⟨ret_bool (by simp), HB.out.trans (HB3.out.mono HB.out.size)⟩
end Go.Proofs.YtmlhkbgifnifdaaDoor
namespace Go.Proofs.YtmlhkbgifnifdaaDoor
set_option linter.unusedVariables false
set_option linter.unusedSimpArgs false

theorem allF_of {f : Nat → Bool} : ∀ (m k : Nat), (∀ i, k ≤ i → i < k + m → f i = true) → allF f m k = true
  | 0, k, _ => rfl
  | m + 1, k, h => by
    simp only [allF, Bool.and_eq_true]
    exact ⟨h k (Nat.le_refl _) (by omega), allF_of m (k + 1) fun i h1 h2 => h i (by omega) (by omega)⟩
theorem rightN_of {st : Int} {ps : List (Int × Int)} {ns : List Nd} (h1 : 2 ≤ st) (h2 : st ≤ 8) (h3 : hoodB ps = true) (h4 : 1 ≤ ns.length) (h5 : ns.length ≤ 4096) (h6 : (ndAt ns (ns.length - 1)).1 = (ps.length : Int)) (h7 : VNd st.toNat ns)
    (h8 : ∀ i, i < ns.length → (ndAt ns i).1 ≤ (ps.length : Int)) : rightN st ps ns = true := by
  unfold rightN headB
  simp only [Bool.and_eq_true, decide_eq_true_eq]
  refine ⟨⟨⟨⟨⟨⟨h1, h2⟩, h3⟩, h4⟩, h5⟩, h6⟩, allF_of _ _ fun i _ hi => ?_⟩
  have hi' : i < ns.length := by omega
  unfold nodeB
  simp only [Bool.and_eq_true, decide_eq_true_eq, List.all_eq_true]
  have hl := h7.lev.len i hi'
  refine ⟨⟨⟨h7.lev.one i hi', h8 i hi'⟩, by omega⟩, fun z hz => ?_⟩
  unfold kidB
  rcases Int.lt_or_le 1 (ndAt ns i).1 with hlv | hlv
  · obtain ⟨p1, p2, p3⟩ := h7.lev.kids i hi' hlv z hz
    have p4 := h7.ordk i hi' hlv z hz
    have hne : ((ndAt ns i).1 == 1) = false := by simp; omega
    rw [decide_eq_true p1, hne, decide_eq_true hlv, decide_eq_true p4, show ((ndAt ns z.toNat).1 == (ndAt ns i).1 - 1) = true by simpa using p3]
    rfl
  · have ho := h7.lev.one i hi'
    have hl1 : (ndAt ns i).1 = 1 := by omega
    obtain ⟨p1, p2⟩ := h7.low i hi' hl1 z hz
    rw [decide_eq_true p1, hl1, decide_eq_true (show z < st by omega)]
    rfl
/-- a node of level L that leads to what g says -/
structure Ld (q L : Nat) (ns : List Nd) (k : Int) (g : List Nat → Int) : Prop where
  h0 : 0 ≤ k
  lt : k.toNat < ns.length
  lv : (ndAt ns k.toNat).1 = (L : Int)
  vl : ∀ ins : List Nat, ins.length = L → (∀ t ∈ ins, t < q) → val ns k ins = g ins
section
variable {q L : Nat} {ns : List Nd} {k : Int} {g : List Nat → Int}
theorem Ld.grow (hv : VNd q ns) (h : Ld q L ns k g) (ys : List Nd) : Ld q L (ns ++ ys) k g :=
  ⟨h.h0, by rw [List.length_append]; have := h.lt; omega, by rw [ndAt_app_lt h.lt]; exact h.lv, fun ins hl hq => by
    rw [← h.vl ins hl hq]
    exact val_growB hv.lev ys (L := L) h.h0 (fun _ => ⟨h.lt, h.lv⟩) hl hq⟩
theorem Ld.leaf (hv : VNd q ns) {zs : List Int} (hl : zs.length = q) (hz : ∀ z ∈ zs, 0 ≤ z ∧ z < (q : Int)) : VNd q (ns ++ [(1, zs)]) ∧ Ld q 1 (ns ++ [(1, zs)]) (ns.length : Int) (fun ins => zs.getD (ins.headD 0) 0) := by
  refine ⟨hv.push (by decide) hl (fun _ => hz) (fun h => absurd h (by decide)), Int.natCast_nonneg _, by rw [Int.toNat_natCast, List.length_append]; simp, by rw [Int.toNat_natCast, ndAt_app_len]; rfl, fun ins h1 h2 => ?_⟩
  match ins, h1 with
  | [t], _ =>
    simp only [val, Int.toNat_natCast, ndAt_app_len]
    rfl
theorem Ld.node (hv : VNd q ns) {ks : List Int} (hl : ks.length = q) {gs : Nat → List Nat → Int} (hL : 1 ≤ L) (hk : ∀ t, t < q → Ld q L ns (ks.getD t 0) (gs t)) :
    VNd q (ns ++ [(((L + 1 : Nat) : Int), ks)]) ∧ Ld q (L + 1) (ns ++ [(((L + 1 : Nat) : Int), ks)]) (ns.length : Int) (fun ins => gs (ins.headD 0) ins.tail) := by
  have hmem : ∀ z ∈ ks, ∃ t, t < q ∧ ks.getD t 0 = z := fun z hz => by
    obtain ⟨t, ht, e⟩ := List.getElem_of_mem hz
    exact ⟨t, by omega, by rw [List.getD_eq_getElem?_getD, List.getElem?_eq_getElem ht, e]; rfl⟩
  refine ⟨hv.push (by omega) hl (fun h => by omega) (fun _ z hz => ?_), Int.natCast_nonneg _, by rw [Int.toNat_natCast, List.length_append]; simp, by rw [Int.toNat_natCast, ndAt_app_len], fun ins h1 h2 => ?_⟩
  · obtain ⟨t, ht, e⟩ := hmem z hz
    have h := hk t ht
    rw [e] at h
    exact ⟨h.h0, h.lt, by rw [h.lv]; omega⟩
  · match ins, h1 with
    | t :: r, h1 =>
      have ht : t < q := h2 t (by simp)
      have hrl : r.length = L := by simpa using h1
      have hrq : ∀ x ∈ r, x < q := fun x hx => h2 x (by simp [hx])
      simp only [val, Int.toNat_natCast, ndAt_app_len]
      exact ((hk t ht).grow hv _).vl r hrl hrq
end
/-- no node of a level above B -/
def LvB (B : Int) (ns : List Nd) : Prop := ∀ i, i < ns.length → (ndAt ns i).1 ≤ B
theorem LvB.nil (B : Int) : LvB B [] := fun i h => absurd h (by simp)
theorem LvB.push {B lv : Int} {ns : List Nd} {zs : List Int} (h : LvB B ns) (hl : lv ≤ B) : LvB B (ns ++ [(lv, zs)]) := fun i hi => by
  rcases Nat.lt_or_ge i ns.length with h2 | h2
  · rw [ndAt_app_lt h2]; exact h i h2
  · rw [List.length_append, List.length_singleton] at hi
    obtain rfl : i = ns.length := by omega
    rw [ndAt_app_len]; exact hl
/-! the tree of a rule of rows -/
section
variable (q : Nat) (f : Nat → Nat → Nat → Int)
def leafL (x y : Nat) : List Int := (List.range q).map (f x y)
def midTo (ns : List Nd) (x : Nat) : Nat → List Nd × List Int
  | 0 => (ns, [])
  | y + 1 => ((midTo ns x y).1 ++ [(1, leafL q f x y)], (midTo ns x y).2 ++ [((midTo ns x y).1.length : Int)])
def rootTo : Nat → List Nd × List Int
  | 0 => ([], [])
  | x + 1 => ((midTo q f (rootTo x).1 x q).1 ++ [(2, (midTo q f (rootTo x).1 x q).2)], (rootTo x).2 ++ [((midTo q f (rootTo x).1 x q).1.length : Int)])
def rowN : List Nd := (rootTo q f q).1 ++ [(3, (rootTo q f q).2)]
end
section
variable {q : Nat} {f : Nat → Nat → Nat → Int}
theorem getD_app_lt {xs : List Int} {z : Int} {t : Nat} (h : t < xs.length) : (xs ++ [z]).getD t 0 = xs.getD t 0 := by
  rw [List.getD_eq_getElem?_getD, List.getElem?_append_left h, ← List.getD_eq_getElem?_getD]
theorem getD_app_len {xs : List Int} {z : Int} : (xs ++ [z]).getD xs.length 0 = z := by
  rw [List.getD_eq_getElem?_getD, List.getElem?_append_right (Nat.le_refl _), Nat.sub_self]; rfl
theorem leaf_get {x y t : Nat} (h : t < q) : (leafL q f x y).getD t 0 = f x y t := by
  unfold leafL
  rw [List.getD_eq_getElem?_getD, List.getElem?_map, List.getElem?_range h]
  rfl
structure MidOk (q : Nat) (f : Nat → Nat → Nat → Int) (ns : List Nd) (x : Nat) (y : Nat) (p : List Nd × List Int) : Prop where
  v : VNd q p.1
  lv : LvB 3 p.1
  len : p.2.length = y
  size : p.1.length = ns.length + y
  ext : ∃ ys, p.1 = ns ++ ys
  kid : ∀ t, t < y → Ld q 1 p.1 (p.2.getD t 0) (fun ins => f x t (ins.headD 0))
theorem mid_ok (hf : ∀ x y z, x < q → y < q → z < q → 0 ≤ f x y z ∧ f x y z < (q : Int)) {ns : List Nd} (hv : VNd q ns) (hl : LvB 3 ns) {x : Nat} (hx : x < q) : ∀ y, y ≤ q → MidOk q f ns x y (midTo q f ns x y)
  | 0, _ => ⟨hv, hl, rfl, rfl, ⟨[], by simp [midTo]⟩, fun t h => absurd h (by omega)⟩
  | y + 1, hy => by
    have h := mid_ok hf hv hl hx y (by omega)
    have hlf : (leafL q f x y).length = q := by simp [leafL]
    obtain ⟨l1, l2⟩ := Ld.leaf h.v hlf (fun z hz => by
      unfold leafL at hz
      obtain ⟨t, ht, rfl⟩ := List.mem_map.1 hz
      exact hf x y t hx (by omega) (List.mem_range.1 ht))
    obtain ⟨ys, ey⟩ := h.ext
    refine ⟨l1, h.lv.push (by decide), by show ((midTo q f ns x y).2 ++ _).length = _; rw [List.length_append, h.len]; rfl, by show ((midTo q f ns x y).1 ++ _).length = _; rw [List.length_append, h.size]; rfl, ⟨ys ++ [(1, leafL q f x y)], by show (midTo q f ns x y).1 ++ _ = _; rw [ey, List.append_assoc]⟩, fun t ht => ?_⟩
    show Ld q 1 ((midTo q f ns x y).1 ++ _) (((midTo q f ns x y).2 ++ _).getD t 0) _
    rcases Nat.lt_or_ge t y with h1 | h1
    · rw [getD_app_lt (by rw [h.len]; exact h1)]
      exact (h.kid t h1).grow h.v _
    · obtain rfl : t = y := by omega
      have e : ((midTo q f ns x t).2 ++ [((midTo q f ns x t).1.length : Int)]).getD t 0 = ((midTo q f ns x t).1.length : Int) := by
        have := getD_app_len (xs := (midTo q f ns x t).2) (z := ((midTo q f ns x t).1.length : Int))
        rwa [h.len] at this
      rw [e]
      refine ⟨l2.h0, l2.lt, l2.lv, fun ins h2 h3 => ?_⟩
      rw [l2.vl ins h2 h3]
      match ins, h2 with
      | [u], _ => exact leaf_get (h3 u (by simp))
structure RootOk (q : Nat) (f : Nat → Nat → Nat → Int) (x : Nat) (p : List Nd × List Int) : Prop where
  v : VNd q p.1
  lv : LvB 3 p.1
  len : p.2.length = x
  size : p.1.length = x * (q + 1)
  kid : ∀ t, t < x → Ld q 2 p.1 (p.2.getD t 0) (fun ins => f t (ins.headD 0) (ins.tail.headD 0))
theorem vnd_nil : VNd q [] := ⟨⟨fun i h => h, fun i h => absurd h (by simp), fun i h => absurd h (by simp), fun i h => absurd h (by simp)⟩, fun i h => absurd h (by simp), fun i h => absurd h (by simp)⟩
theorem root_ok (hf : ∀ x y z, x < q → y < q → z < q → 0 ≤ f x y z ∧ f x y z < (q : Int)) : ∀ x, x ≤ q → RootOk q f x (rootTo q f x)
  | 0, _ => ⟨vnd_nil, LvB.nil _, rfl, by simp [rootTo], fun t h => absurd h (by omega)⟩
  | x + 1, hx => by
    have h := root_ok hf x (by omega)
    have m := mid_ok hf h.v h.lv (x := x) (by omega) q (Nat.le_refl _)
    obtain ⟨l1, l2⟩ := Ld.node (L := 1) m.v m.len (gs := fun t ins => f x t (ins.headD 0)) (Nat.le_refl _) m.kid
    obtain ⟨ys, ey⟩ := m.ext
    refine ⟨l1, m.lv.push (by decide), by show ((rootTo q f x).2 ++ _).length = _; rw [List.length_append, h.len]; rfl, ?_, fun t ht => ?_⟩
    · show ((midTo q f (rootTo q f x).1 x q).1 ++ _).length = _
      rw [List.length_append, m.size, h.size, List.length_singleton, Nat.succ_mul]
      omega
    · show Ld q 2 ((midTo q f (rootTo q f x).1 x q).1 ++ _) (((rootTo q f x).2 ++ _).getD t 0) _
      rcases Nat.lt_or_ge t x with h1 | h1
      · rw [getD_app_lt (by rw [h.len]; exact h1)]
        have h3 := (h.kid t h1).grow h.v ys
        rw [← ey] at h3
        exact h3.grow m.v _
      · obtain rfl : t = x := by omega
        have e : ((rootTo q f t).2 ++ [((midTo q f (rootTo q f t).1 t q).1.length : Int)]).getD t 0 = ((midTo q f (rootTo q f t).1 t q).1.length : Int) := by
          have := getD_app_len (xs := (rootTo q f t).2) (z := ((midTo q f (rootTo q f t).1 t q).1.length : Int))
          rwa [h.len] at this
        rw [e]
        exact l2
theorem rowN_ok (hf : ∀ x y z, x < q → y < q → z < q → 0 ≤ f x y z ∧ f x y z < (q : Int)) : VNd q (rowN q f) ∧ LvB 3 (rowN q f) ∧ (rowN q f).length = q * (q + 1) + 1 ∧ Ld q 3 (rowN q f) ((q * (q + 1) : Nat) : Int) (fun ins => f (ins.headD 0) (ins.tail.headD 0) (ins.tail.tail.headD 0)) := by
  have h := root_ok hf q (Nat.le_refl _)
  obtain ⟨l1, l2⟩ := Ld.node (L := 2) h.v h.len (gs := fun t ins => f t (ins.headD 0) (ins.tail.headD 0)) (by decide) h.kid
  rw [h.size] at l2
  exact ⟨l1, h.lv.push (by decide), by show ((rootTo q f q).1 ++ _).length = _; rw [List.length_append, h.size]; rfl, l2⟩
end
theorem chgR (l : List Nd) : chgL chR l = l := by
  unfold chgL chR
  simp
/-- the reduced tree is any tree of which nothing is left to be reduced, and which leads to the same -/
theorem red_uniq {q L : Nat} {st : Int} {ps : List (Int × Int)} {n0 ns : List Nd} (hr : rightN st ps n0 = true) (hst : st.toNat = q) (hps : ps.length = L) (hc : Can q L ns)
    (hv : ∀ ins : List Nat, ins.length = L → (∀ t ∈ ins, t < q) → val n0 ((n0.length - 1 : Nat) : Int) ins = val ns ((ns.length - 1 : Nat) : Int) ins) : redT ⟨st, ps, n0⟩ = ⟨st, ps, ns⟩ := by
  obtain ⟨a1, a2, a3, a4, a5, a6, a7, a8, a9⟩ := rightN_parts hr
  rw [hst] at a8
  have hL : L ≤ 100 := by omega
  have hlv : (ndAt n0 (n0.length - 1)).1 = (L : Int) := by rw [a6, hps]
  have hcan : Can q L (redN chR n0) := red_can a8 (chR_chg _) (by omega) hL hlv
  obtain ⟨b1, b2, b3, b4, b5⟩ := redN_ok a8 (chR_chg q) (by omega) (by rw [hlv]; omega)
  rw [chgR] at b4
  have hr' : PT.right ⟨st, ps, n0⟩ = true := hr
  unfold redT
  rw [if_pos hr']
  dsimp only
  rw [hcan.uniq hc hL (fun ins hl hs => ?_)]
  rw [← hv ins hl hs]
  exact b4.2 ins (by rw [hcan.root]; omega) hs
section
variable {q : Nat} {f : Nat → Nat → Nat → Int}
/-- the reduced tree of rows is any tree of which nothing is left to be reduced, and which leads to the same -/
theorem row_red (hq : 2 ≤ q) (hq8 : q ≤ 8) (hf : ∀ x y z, x < q → y < q → z < q → 0 ≤ f x y z ∧ f x y z < (q : Int)) {ns : List Nd} (hc : Can q 3 ns) (hv : ∀ a b c, a < q → b < q → c < q → val ns ((ns.length - 1 : Nat) : Int) [a, b, c] = f a b c) :
    redT ⟨(q : Int), rowP, rowN q f⟩ = ⟨(q : Int), rowP, ns⟩ := by
  obtain ⟨r1, r2, r3, r4⟩ := rowN_ok hf
  have hlen : (rowN q f).length - 1 = q * (q + 1) := by omega
  have hsz : q * (q + 1) ≤ 8 * 9 := Nat.mul_le_mul hq8 (by omega)
  have hlv : (ndAt (rowN q f) ((rowN q f).length - 1)).1 = 3 := by
    have := r4.lv
    rw [Int.toNat_natCast] at this
    rw [hlen]; exact this
  have hr : rightN (q : Int) rowP (rowN q f) = true :=
    rightN_of (by omega) (by omega) (by decide) (by omega) (by omega) hlv (by rw [Int.toNat_natCast]; exact r1) r2
  refine red_uniq hr (Int.toNat_natCast q) rfl hc (fun ins hl hs => ?_)
  match ins, hl with
  | [a, b, c], _ =>
    rw [hv a b c (hs a (by simp)) (hs b (by simp)) (hs c (by simp)), hlen]
    exact r4.vl [a, b, c] rfl hs
end
end Go.Proofs.YtmlhkbgifnifdaaDoor
