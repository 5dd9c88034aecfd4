/-
  totaltree.Totals. No condition but that the library's table is there.
  totaltree.numbers. No condition but that the neighbourhood is one of the known ones.
-/
import Derived.Test.YtmlhkbgifnifdaaGreatDoorZG19
import Derived.Test.YtmlhkbgifnifdaaGreatDoorZG15
import Derived.Test.YtmlhkbgifnifdaaGreatDoorZG16
import Derived.Test.YtmlhkbgifnifdaaGreatDoorZG3
import Derived.Test.YtmlhkbgifnifdaaGreatDoorZG14
import Derived.Test.YtmlhkbgifnifdaaGreatDoorZWalk
namespace Go.Proofs.YtmlhkbgifnifdaaGreatDoor
open Go.RowKit
set_option maxRecDepth 100000
set_option linter.unusedVariables false
set_option linter.unusedSimpArgs false

def totT (x : TotL) : PT × Int := if rightT x = true then (⟨x.states, x.hood, (bld (sysT x) x.hood.length (0, 0) ([], [])).2.2⟩, 0) else (PT.zero, 2)
theorem known_len {ps : List (Int × Int)} (h : knownB ps = true) : 1 ≤ ps.length ∧ ps.length ≤ 9 := by
  unfold knownB at h
  simp only [Bool.or_eq_true, decide_eq_true_eq] at h
  rcases h with (h | h) | h <;> subst h <;> decide
theorem rightT_parts {x : TotL} (h : rightT x = true) : knownB x.hood = true ∧ 2 ≤ x.states ∧ x.states ≤ 8 := by
  unfold rightT at h
  simp only [Bool.and_eq_true, decide_eq_true_eq] at h
  exact ⟨h.1.1.1.1, h.1.1.1.2, h.1.1.2⟩
structure TotJ (w0 : World) (Pa : Nat) (Pr : Nat) (Pc : Nat) (st : Int) (A : Option Addr) (ps : List (Int × Int)) (a : Nat) (ns : List Nd) (b0 b1 b2 b3 b4 b5 b6 b7 b8 b9 b10 : Bool) (v16 v17 v18 v19 v20 v21 v22 v23 v24 v3 : Value) (w : World) : Prop where
  h0 : b0 = true → v16 = .pointer (some ⟨Pa, 1, none⟩)
  h1 : b1 = true → v17 = .int .i64 st
  h2 : b2 = true → v18 = .pointer (some ⟨Pa, 0, none⟩)
  h3 : b3 = true → v19 = .slice A ps.length a
  h5 : b5 = true → v21 = .agg #[.int .i64 0, .int .i64 0]
  h6 : b6 = true → v22 = .func (.func 35) #[] #[.pointer (some ⟨Pc, 0, none⟩)]
  h7 : b7 = true → v23 = .func (.func 36) #[] #[.pointer (some ⟨Pa, 0, none⟩)]
  below : b9 = false → Below w0.heap.size w0 w
  hord : b8 = true → b1 = true ∧ b3 = true ∧ b4 = true ∧ b5 = true ∧ b6 = true ∧ b7 = true
  hord9 : b9 = true → b8 = true
  ord4 : b4 = true → b3 = true
  h4 : b4 = true → b8 = false → ∃ B d, v20 = .slice B ps.length d ∧ Pts w B ps ∧ NewA w0.heap.size B
  h8 : b8 = true → b9 = false → ∃ B d O e os, v24 = .agg #[.int .i64 st, .slice B ps.length d, .slice O os.length e] ∧ OwnNA w w0.heap.size (.slice O os.length e) os ∧ os.map Hd.nd = ns ∧ Pts w B ps ∧ NewA w0.heap.size B
  h9 : b9 = true → ∃ B d O e os w5, Below w0.heap.size w0 w5 ∧ OwnNA w5 w0.heap.size (.slice O os.length e) os ∧ os.map Hd.nd = ns ∧ (Pts w5 B ps ∧ NewA w0.heap.size B) ∧ w = ((w5.setCell ⟨Pr, 0, none⟩ (.int .i64 st)).setCell ⟨Pr, 1, none⟩ (.slice B ps.length d)).setCell ⟨Pr, 2, none⟩ (.slice O os.length e)
  hz3 : v3 = .int .i64 0

set_option maxHeartbeats 8000000 in
theorem totals_any (A B C : Option Addr) (a b c : Nat) (x : TotL) (w : World) (ht : TotR w A B C x) (hT : TabB w.heap.size w) :
    Calls Tryz.prog 10 #[totV A a B b C c x] w (RetAE (totT x) w) := by
  obtain ⟨w0, hw0⟩ : ∃ w0, w0 = (w.alloc (.cells (totCells A a B b C c x) 30)).alloc (.cells #[.int .i64 0, .slice none 0 0, .slice none 0 0] 25) := ⟨_, rfl⟩
  have hb1 := below_new w (.cells (totCells A a B b C c x) 30)
  have hb0 : Below w.heap.size w w0 := by rw [hw0]; exact hb1.alloc hb1.size _
  have p0 : Blk w0 w.heap.size 30 (totCells A a B b C c x) := by rw [hw0]; exact (Blk.new w _ _).alloc _
  have q0 : Blk w0 (w.heap.size + 1) 25 #[.int .i64 0, .slice none 0 0, .slice none 0 0] := by rw [hw0]; exact blk_two _ _ _ _
  have HR := Lib.hid (lright_any A B C a b c x w0 (ht.ext hb0))
  have HT0 := Lib.hid (ht.ext hb0)
  have HTW := Lib.hid ht
  have HTB := Lib.hid hT
  have HB0 := Lib.hid hb0
  have HP0 := Lib.hid p0
  have HQ0 := Lib.hid q0
  unfold totCells at hw0
  have HW0 := Lib.hid hw0
  have c0 := p0.cell_ 0 (.slice A x.hood.length a) rfl
  have c1 := p0.cell_ 1 (.int .i64 x.states) rfl
  have c2 := p0.cell_ 2 (.slice B x.birth.length b) rfl
  have c3 := p0.cell_ 3 (.slice C x.survive.length c) rfl
  unfold totV at HR ⊢
  clear hb1 hb0 p0 q0 hw0 ht hT
  cases hr : rightT x with
  | false =>
    have HE : Hid (totT x = (PT.zero, 2)) := Lib.hid (by unfold totT; rw [hr]; rfl)
    rw [hr] at HR
    clear hr
    go_enter Tryz.func10, Tryz.ntmps10
    go_upto_region 1 with fail
    rw [← HW0.out]
    go_wp2_with (go_at_call 23; refine HR.out.mono ?_; rintro e w1 ⟨rfl, hb⟩; refine Hid.out ?_)
    refine Lib.hid ?_
    have q1 := HQ0.out.below hb HQ0.out.lt
    have HQ1 := Lib.hid q1
    have d0 := q1.cell_ 0 (.int .i64 0) rfl
    have d1 := q1.cell_ 1 (.slice none 0 0) rfl
    have d2 := q1.cell_ 2 (.slice none 0 0) rfl
    have f0 := q1.frozen 0
    have f1 := q1.frozen 1
    have f2 := q1.frozen 2
    have HB := Lib.hid (HB0.out.trans (hb.mono HB0.out.size))
    clear q1 hb c0 c1 c2 c3
    go_wp2
    have hq : Blk (((w1.setCell ⟨w.heap.size + 1, 0, none⟩ (.int .i64 0)).setCell ⟨w.heap.size + 1, 1, none⟩ (.slice none 0 0)).setCell ⟨w.heap.size + 1, 2, none⟩ (.slice none 0 0)) (w.heap.size + 1) 25 #[.int .i64 0, .slice none 0 0, .slice none 0 0] := ((HQ1.out.set_ 0 (.int .i64 0)).set_ 1 (.slice none 0 0)).set_ 2 (.slice none 0 0)
    rw [HE.out]
    exact bodyPost_ret (results_ct Tryz.results10 _ _ (w.heap.size + 1) 25 #[.int .i64 0, .slice none 0 0, .slice none 0 0] (0, 0) _ rfl hq Tryz.underlying25 rfl Tryz.sizeTree) rfl
      ⟨0, none, 0, 0, none, 0, 0, rfl, ⟨none, 0, none, 0, [], rfl, Pts.nil, Nds.nil, rfl⟩, ((HB.out.setCell (p := ⟨w.heap.size + 1, 0, none⟩) (by simp) _).setCell (p := ⟨w.heap.size + 1, 1, none⟩) (by simp) _).setCell (p := ⟨w.heap.size + 1, 2, none⟩) (by simp) _⟩
  | true =>
    obtain ⟨st, hst⟩ : ∃ st, st = x.states := ⟨_, rfl⟩
    obtain ⟨ps, hps⟩ : ∃ ps, ps = x.hood := ⟨_, rfl⟩
    obtain ⟨ns, hns⟩ : ∃ ns, ns = (bld (sysT x) x.hood.length (0, 0) ([], [])).2.2 := ⟨_, rfl⟩
    have HE : Hid (totT x = (⟨st, ps, ns⟩, 0)) := Lib.hid (by unfold totT; rw [hr, hst, hps, hns]; rfl)
    obtain ⟨hk1, hk2, hk3⟩ := rightT_parts hr
    obtain ⟨hl1, hl9⟩ := known_len hk1
    rw [hr] at HR
    have HCT := Lib.hid (fun W (hW : Below w0.heap.size w0 W) => centre_any A x.hood a W (HT0.out.hood.ext hW))
    obtain ⟨cv, hcv⟩ : ∃ cv, cv = ctrP x.hood := ⟨_, rfl⟩
    rw [← hcv] at HCT
    have HCV := Lib.hid hcv
    have HK := Lib.hid (And.intro (And.intro hk2 hk3) (And.intro hl1 hl9))
    have HST := Lib.hid (And.intro hst (And.intro hps hns))
    rw [← hps] at c0 HR HCT ⊢
    rw [← hst] at c1 HR ⊢
    have hpl : ps.length ≤ 9223372036854775807 := by rw [hps]; omega
    have HW0' : Hid (w0 = (w.alloc (.cells #[.slice A ps.length a, .int .i64 st, .slice B x.birth.length b, .slice C x.survive.length c] 30)).alloc (.cells #[.int .i64 0, .slice none 0 0, .slice none 0 0] 25)) := Lib.hid (by rw [hps, hst]; exact HW0.out)
    clear hr hk1 hk2 hk3 hl1 hl9 hcv hst hps hns HW0
    go_enter Tryz.func10, Tryz.ntmps10
    go_upto_region 1 with fail
    rw [← HW0'.out]
    go_wp2_with (go_at_call 23; refine HR.out.mono ?_; rintro e w1 ⟨rfl, hb⟩; refine Hid.out ?_)
    refine Lib.hid ?_
    have HBB1 := Lib.hid hb
    have p1 := HP0.out.below hb HP0.out.lt
    have c0' := p1.cell_ 0 (.slice A ps.length a) (by rw [HST.out.2.1]; rfl)
    clear c0 c1 c2 c3 p1 hb
    have HCTX := Lib.hid (HCT.out w1 HBB1.out)
    go_wp2_with (go_at_call 34; refine HCTX.out.mono ?_; rintro e w2 ⟨rfl, hb2⟩; refine Hid.out ?_)
    refine Lib.hid ?_
    obtain ⟨pC, hpC⟩ : ∃ p, p = w2.heap.size := ⟨_, rfl⟩
    have HB2 : Hid (Below w0.heap.size w0 w2) := Lib.hid (HBB1.out.trans (hb2.mono HBB1.out.size))
    clear c0' HCTX HCT hb2 HBB1
    go_upto_region 4 with fail
    obtain ⟨w3, hw3⟩ : ∃ w3, w3 = w2.alloc (.cells #[.int .i64 cv] 3) := ⟨_, rfl⟩
    have HC3 : Hid (Blk w3 pC 3 #[.int .i64 cv]) := Lib.hid (by rw [hw3, hpC]; exact Blk.new _ _ _)
    have HB3 : Hid (Below w0.heap.size w0 w3) := Lib.hid (by rw [hw3]; exact HB2.out.trans ((below_new _ _).mono HB2.out.size))
    rw [← hw3, ← hpC]
    clear hw3 hpC HB2
    have HBw := Lib.hid (HB0.out.trans (HB3.out.mono HB0.out.size))
    have HP1 := Lib.hid (HP0.out.below HB3.out HP0.out.lt)
    have HQ1 := Lib.hid (HQ0.out.below HB3.out HQ0.out.lt)
    have HT3 := Lib.hid (HT0.out.ext HB3.out)
    have HCLO : Hid (∀ W, Below w3.heap.size w3 W → Calls Tryz.prog 24 #[.slice A ps.length a] W fun e w' => ∃ B' d, e = .returned (.slice B' ps.length d) ∧ Pts w' B' ps ∧ NewA w3.heap.size B' ∧ Below W.heap.size W w') := Lib.hid (fun W hW => by
      have h0 := HT3.out.hood.ext hW
      rw [← HST.out.2.1] at h0
      refine (clone_pts A a ps W h0 (by have := HK.out.2.2; rw [← HST.out.2.1] at this; omega)).mono ?_
      rintro e w' ⟨v, rfl, ho, hb⟩
      obtain ⟨B', d, e', hp', hn'⟩ := ho.pts
      subst e'
      exact ⟨B', d, rfl, hp', hn'.mono hW.size, hb⟩)
    have HBLD : Hid (∀ W B' d, Below w3.heap.size w3 W → Pts W B' ps → Calls Tryz.prog 38 #[.int .i64 st, .slice B' ps.length d, .agg #[.int .i64 0, .int .i64 0], .func (.func 35) #[] #[.pointer (some ⟨pC, 0, none⟩)], .func (.func 36) #[] #[.pointer (some ⟨w.heap.size, 0, none⟩)]] W (RetBd st B' d ps ns W)) := Lib.hid (fun W B' d hW hp => by
      obtain ⟨⟨k2, k8⟩, k1, k9⟩ := HK.out
      obtain ⟨est, eps, ens⟩ := HST.out
      have hCW := HC3.out.below hW HC3.out.lt
      have hXW := HP1.out.below hW HP1.out.lt
      have hTW := HT3.out.ext hW
      have hbW : Below w.heap.size w W := HBw.out.trans (hW.mono HBw.out.size)
      rw [HCV.out] at hCW
      have hb := buildT_any (sysT x) (rngT x) (rngT_step x k2) (rngT_fin x k2) (rngT_ok x k9 k8) k1 k9 (show 1 ≤ x.states.toNat by omega) (show x.states.toNat ≤ 8 by omega) W pC w.heap.size (0, 0) ⟨by decide, by decide, by omega, by decide, by show (0 : Int) < _; omega⟩ B' d x.hood (by rw [← eps]; exact hp) rfl ((HTB.out.on hbW).up hbW.size)
        (fun a' s t W' hr ha ht hW' => tot1_any s.1 s.2 a' t (ctrP x.hood) pC W' (hCW.below hW' hCW.lt) hr.1 (by have h2 := hr.2.1; have h3 := hr.2.2.1; omega))
        (fun s W' hr hW' => tot2_any x A B C a b c s.1 s.2 w.heap.size W' (hXW.below hW' hXW.lt) (hTW.ext hW').birth (hTW.ext hW').survive hr.2.2.2.1 (by have := hr.2.2.2.2; omega) k2)
      rw [show (((sysT x).q : Nat) : Int) = st by show ((x.states.toNat : Nat) : Int) = st; rw [est]; omega, show (sysT x).L = x.hood.length from rfl, ← ens, ← eps] at hb
      exact hb)
    clear HCV HK HT0 HR
    go_upto_region 6 with fail
    refine wp_region_J (by kernel_rfl) (fun listed act w' => ∃ b0 b1 b2 b3 b4 b5 b6 b7 b8 b9 b10 v16 v17 v18 v19 v20 v21 v22 v23 v24 v3, listed = #[b0, b1, b2, b3, b4, b5, b6, b7, b8, b9, b10] ∧ act = Act.mk #[.agg #[.slice A ps.length a, .int .i64 st, .slice B x.birth.length b, .slice C x.survive.length c], .pointer (some ⟨w.heap.size, 0, none⟩), .pointer (some ⟨w.heap.size + 1, 0, none⟩), v3, .pointer (some ⟨pC, 0, none⟩), .func (.func 35) #[] #[.pointer (some ⟨pC, 0, none⟩)], .func (.func 36) #[] #[.pointer (some ⟨w.heap.size, 0, none⟩)], .agg #[.slice A ps.length a, .int .i64 st, .slice B x.birth.length b, .slice C x.survive.length c], .bool true, .bool false, undef, .pointer (some ⟨w.heap.size, 0, none⟩), .slice A ps.length a, .int .i64 cv, .func (.func 35) #[] #[.pointer (some ⟨pC, 0, none⟩)], .func (.func 36) #[] #[.pointer (some ⟨w.heap.size, 0, none⟩)], v16, v17, v18, v19, v20, v21, v22, v23, v24] [] ∧ TotJ w3 w.heap.size (w.heap.size + 1) pC st A ps a ns b0 b1 b2 b3 b4 b5 b6 b7 b8 b9 b10 v16 v17 v18 v19 v20 v21 v22 v23 v24 v3 w') ?_ ?_ ?_
    · exact ⟨_, _, _, _, _, _, _, _, _, _, _, _, _, _, _, _, _, _, _, _, _, rfl, rfl, ⟨(by simp), (by simp), (by simp), (by simp), (by simp), (by simp), (by simp), (fun _ => (Below.refl _ w3).drew), (by simp), (by simp), (by simp), (by simp), (by simp), (by simp), rfl⟩⟩
    · rintro i listed act w' hi ⟨b0, b1, b2, b3, b4, b5, b6, b7, b8, b9, b10, v16, v17, v18, v19, v20, v21, v22, v23, v24, v3, rfl, rfl, H⟩
      have hi16 : i < 11 := by
        obtain ⟨-, o, ho, -⟩ := mem_ready.1 hi
        exact (Array.getElem?_eq_some_iff.1 ho).1
      obtain rfl | rfl | rfl | rfl | rfl | rfl | rfl | rfl | rfl | rfl | rfl : i = 0 ∨ i = 1 ∨ i = 2 ∨ i = 3 ∨ i = 4 ∨ i = 5 ∨ i = 6 ∨ i = 7 ∨ i = 8 ∨ i = 9 ∨ i = 10 := by omega
      all_goals simp [mem_ready, Region.binds] at hi
      · refine wpOp_hidden rfl fun K hK => ?_
        go_wp2
        refine OnlyN.mk (hK.out _ _ ⟨true, _, _, _, _, _, _, _, _, _, _, .pointer (some ⟨w.heap.size, 1, none⟩), _, _, _, _, _, _, _, _, _, rfl, rfl, ⟨fun _ => rfl, H.h1, H.h2, H.h3, H.h5, H.h6, H.h7, H.below, H.hord, H.hord9, H.ord4, H.h4, H.h8, H.h9, H.hz3⟩⟩)
      · have b8f : b8 = false := by
          cases hb : b8 with
          | false => rfl
          | true => exact absurd (H.hord hb).1 (by simp [hi])
        have b9f : b9 = false := by
          cases hb : b9 with
          | false => rfl
          | true => exact absurd (H.hord9 hb) (by simp [b8f])
        have cc1 := ((H.below b9f).cell (p := ⟨w.heap.size, 1, none⟩) HP1.out.lt).trans (HP1.out.cell_ 1 (.int .i64 st) (by rw [HST.out.1]; rfl))
        obtain rfl := H.h0 (by simp [hi])
        clear b8f b9f
        refine wpOp_hidden rfl fun K hK => ?_
        go_wp2
        refine OnlyN.mk (hK.out _ _ ⟨_, true, _, _, _, _, _, _, _, _, _, _, .int .i64 st, _, _, _, _, _, _, _, _, rfl, rfl, ⟨H.h0, fun _ => rfl, H.h2, H.h3, H.h5, H.h6, H.h7, H.below, fun h => ⟨rfl, (H.hord h).2.1, (H.hord h).2.2.1, (H.hord h).2.2.2.1, (H.hord h).2.2.2.2.1, (H.hord h).2.2.2.2.2⟩, H.hord9, H.ord4, H.h4, H.h8, H.h9, H.hz3⟩⟩)
      · refine wpOp_hidden rfl fun K hK => ?_
        go_wp2
        refine OnlyN.mk (hK.out _ _ ⟨_, _, true, _, _, _, _, _, _, _, _, _, _, .pointer (some ⟨w.heap.size, 0, none⟩), _, _, _, _, _, _, _, rfl, rfl, ⟨H.h0, H.h1, fun _ => rfl, H.h3, H.h5, H.h6, H.h7, H.below, H.hord, H.hord9, H.ord4, H.h4, H.h8, H.h9, H.hz3⟩⟩)
      · have b8f : b8 = false := by
          cases hb : b8 with
          | false => rfl
          | true => exact absurd (H.hord hb).2.1 (by simp [hi])
        have b9f : b9 = false := by
          cases hb : b9 with
          | false => rfl
          | true => exact absurd (H.hord9 hb) (by simp [b8f])
        have cc0 := ((H.below b9f).cell (p := ⟨w.heap.size, 0, none⟩) HP1.out.lt).trans (HP1.out.cell_ 0 (.slice A ps.length a) (by rw [HST.out.2.1]; rfl))
        obtain rfl := H.h2 (by simp [hi])
        clear b8f b9f
        refine wpOp_hidden rfl fun K hK => ?_
        go_wp2
        refine OnlyN.mk (hK.out _ _ ⟨_, _, _, true, _, _, _, _, _, _, _, _, _, _, .slice A ps.length a, _, _, _, _, _, _, rfl, rfl, ⟨H.h0, H.h1, H.h2, fun _ => rfl, H.h5, H.h6, H.h7, H.below, fun h => ⟨(H.hord h).1, rfl, (H.hord h).2.2.1, (H.hord h).2.2.2.1, (H.hord h).2.2.2.2.1, (H.hord h).2.2.2.2.2⟩, H.hord9, fun _ => rfl, H.h4, H.h8, H.h9, H.hz3⟩⟩)
      · have b8f : b8 = false := by
          cases hb : b8 with
          | false => rfl
          | true => exact absurd (H.hord hb).2.2.1 (by simp [hi])
        have b9f : b9 = false := by
          cases hb : b9 with
          | false => rfl
          | true => exact absurd (H.hord9 hb) (by simp [b8f])
        obtain rfl := H.h3 (by simp [hi])
        have HB0' := Lib.hid (H.below b9f)
        have HCX := Lib.hid (HCLO.out w' HB0'.out)
        clear b8f b9f
        refine wpOp_hidden rfl fun K hK => ?_
        go_wp2_with (go_at_call 24; refine HCX.out.mono ?_)
        rintro e w9 ⟨B9, d9, rfl, hp9, hn9, hb9⟩
        have HP9 := Lib.hid (And.intro hp9 hn9)
        have HB9 := Lib.hid hb9
        clear hp9 hn9 hb9 HCX
        go_wp2
        refine OnlyN.mk (hK.out _ _ ⟨_, _, _, _, true, _, _, _, _, _, _, _, _, _, _, .slice B9 ps.length d9, _, _, _, _, _, rfl, rfl, ⟨H.h0, H.h1, H.h2, H.h3, H.h5, H.h6, H.h7, fun h => (H.below h).trans (HB9.out.mono (H.below h).size), fun h => ⟨(H.hord h).1, (H.hord h).2.1, rfl, (H.hord h).2.2.2.1, (H.hord h).2.2.2.2.1, (H.hord h).2.2.2.2.2⟩, H.hord9, fun _ => (by simp [hi]), fun _ _ => ⟨B9, d9, rfl, HP9.out.1, HP9.out.2⟩, fun h => absurd (H.hord h).2.2.1 (by simp [hi]), fun h => absurd (H.hord (H.hord9 h)).2.2.1 (by simp [hi]), H.hz3⟩⟩)
      · refine wpOp_hidden rfl fun K hK => ?_
        go_wp2
        refine OnlyN.mk (hK.out _ _ ⟨_, _, _, _, _, true, _, _, _, _, _, _, _, _, _, _, .agg #[.int .i64 0, .int .i64 0], _, _, _, _, rfl, rfl, ⟨H.h0, H.h1, H.h2, H.h3, fun _ => rfl, H.h6, H.h7, H.below, fun h => ⟨(H.hord h).1, (H.hord h).2.1, (H.hord h).2.2.1, rfl, (H.hord h).2.2.2.2.1, (H.hord h).2.2.2.2.2⟩, H.hord9, H.ord4, H.h4, H.h8, H.h9, H.hz3⟩⟩)
      · refine wpOp_hidden rfl fun K hK => ?_
        go_wp2
        refine OnlyN.mk (hK.out _ _ ⟨_, _, _, _, _, _, true, _, _, _, _, _, _, _, _, _, _, .func (.func 35) #[] #[.pointer (some ⟨pC, 0, none⟩)], _, _, _, rfl, rfl, ⟨H.h0, H.h1, H.h2, H.h3, H.h5, fun _ => rfl, H.h7, H.below, fun h => ⟨(H.hord h).1, (H.hord h).2.1, (H.hord h).2.2.1, (H.hord h).2.2.2.1, rfl, (H.hord h).2.2.2.2.2⟩, H.hord9, H.ord4, H.h4, H.h8, H.h9, H.hz3⟩⟩)
      · refine wpOp_hidden rfl fun K hK => ?_
        go_wp2
        refine OnlyN.mk (hK.out _ _ ⟨_, _, _, _, _, _, _, true, _, _, _, _, _, _, _, _, _, _, .func (.func 36) #[] #[.pointer (some ⟨w.heap.size, 0, none⟩)], _, _, rfl, rfl, ⟨H.h0, H.h1, H.h2, H.h3, H.h5, H.h6, fun _ => rfl, H.below, fun h => ⟨(H.hord h).1, (H.hord h).2.1, (H.hord h).2.2.1, (H.hord h).2.2.2.1, (H.hord h).2.2.2.2.1, rfl⟩, H.hord9, H.ord4, H.h4, H.h8, H.h9, H.hz3⟩⟩)
      · obtain rfl := H.h1 (by simp [hi])
        obtain rfl := H.h5 (by simp [hi])
        obtain rfl := H.h6 (by simp [hi])
        obtain rfl := H.h7 (by simp [hi])
        have b9f : b9 = false := by
          cases hb : b9 with
          | false => rfl
          | true => exact absurd (H.hord9 hb) (by simp [hi])
        obtain ⟨B9, d9, e20, hp9, hn9⟩ := H.h4 (by simp [hi]) (by simp [hi])
        subst e20
        have HB0' := Lib.hid (H.below b9f)
        have HCX := Lib.hid (HBLD.out w' B9 d9 HB0'.out hp9)
        have HP9 := Lib.hid (And.intro hp9 hn9)
        clear b9f hp9 hn9
        refine wpOp_hidden rfl fun K hK => ?_
        go_wp2_with (go_at_call 38; refine HCX.out.mono ?_)
        rintro e w9 ⟨O9, e9, os9, rfl, ho9, heq9, hb9⟩
        have HO9 := Lib.hid (And.intro (show OwnNA w9 w3.heap.size (.slice O9 os9.length e9) os9 from ⟨own_down ho9.1 HB0'.out.size, fun x hx => (ho9.2 x hx).down HB0'.out.size⟩) heq9)
        have HB9 := Lib.hid hb9
        clear ho9 heq9 hb9 HCX
        go_wp2
        refine OnlyN.mk (hK.out _ _ ⟨_, _, _, _, _, _, _, _, true, _, _, _, _, _, _, _, _, _, _, .agg #[.int .i64 st, .slice B9 ps.length d9, .slice O9 os9.length e9], _, rfl, rfl, ⟨H.h0, H.h1, H.h2, H.h3, H.h5, H.h6, H.h7, fun h => (H.below h).trans (HB9.out.mono (H.below h).size), fun _ => ⟨by simp [hi], H.ord4 (by simp [hi]), by simp [hi], by simp [hi], by simp [hi], by simp [hi]⟩, fun h => rfl, H.ord4, fun _ h => (by cases h), fun _ _ => ⟨B9, d9, O9, e9, os9, rfl, HO9.out.1, HO9.out.2, HP9.out.1.ext HB9.out, HP9.out.2⟩, fun h => absurd (H.hord9 h) (by simp [hi]), H.hz3⟩⟩)
      · obtain ⟨B9, d9, O9, e9, os9, e24, h7, h7e, hp9, hn9⟩ := H.h8 (by simp [hi]) (by simp [hi])
        subst e24
        have HO7 := Lib.hid (And.intro h7 (And.intro h7e (And.intro hp9 hn9)))
        have HBL := Lib.hid (H.below (by simp [hi]))
        have hpw := HQ1.out.below HBL.out HQ1.out.lt
        have cc0 := hpw.cell_ 0 (.int .i64 0) rfl
        have cc1 := hpw.cell_ 1 (.slice none 0 0) rfl
        have cc2 := hpw.cell_ 2 (.slice none 0 0) rfl
        have ff0 := hpw.frozen 0
        have ff1 := hpw.frozen 1
        have ff2 := hpw.frozen 2
        clear h7 h7e hp9 hn9 hpw
        refine wpOp_hidden rfl fun K hK => ?_
        go_wp2
        refine OnlyN.mk (hK.out _ _ ⟨_, _, _, _, _, _, _, _, _, true, _, _, _, _, _, _, _, _, _, _, _, rfl, rfl, ⟨H.h0, H.h1, H.h2, H.h3, H.h5, H.h6, H.h7, fun h => (by cases h), H.hord, fun _ => (by simp [hi]), H.ord4, fun h h2 => absurd hi.2 (by simp [h2]), fun _ h => (by cases h), fun _ => ⟨B9, d9, O9, e9, os9, _, HBL.out, HO7.out.1, HO7.out.2.1, HO7.out.2.2, rfl⟩, H.hz3⟩⟩)
      · refine wpOp_hidden rfl fun K hK => ?_
        go_wp2
        refine OnlyN.mk (hK.out _ _ ⟨_, _, _, _, _, _, _, _, _, _, true, _, _, _, _, _, _, _, _, _, .int .i64 0, rfl, rfl, ⟨H.h0, H.h1, H.h2, H.h3, H.h5, H.h6, H.h7, H.below, H.hord, H.hord9, H.ord4, H.h4, H.h8, H.h9, rfl⟩⟩)
    · rintro listed act w' hr ⟨b0, b1, b2, b3, b4, b5, b6, b7, b8, b9, b10, v16, v17, v18, v19, v20, v21, v22, v23, v24, v3, rfl, rfl, H⟩
      have hn := List.eq_nil_iff_forall_not_mem.1 hr
      have r0 := hn 0
      simp [mem_ready, Region.binds] at r0
      subst r0
      have r1 := hn 1
      simp [mem_ready, Region.binds] at r1
      subst r1
      have r2 := hn 2
      simp [mem_ready, Region.binds] at r2
      subst r2
      have r3 := hn 3
      simp [mem_ready, Region.binds] at r3
      subst r3
      have r4 := hn 4
      simp [mem_ready, Region.binds] at r4
      subst r4
      have r5 := hn 5
      simp [mem_ready, Region.binds] at r5
      subst r5
      have r6 := hn 6
      simp [mem_ready, Region.binds] at r6
      subst r6
      have r7 := hn 7
      simp [mem_ready, Region.binds] at r7
      subst r7
      have r8 := hn 8
      simp [mem_ready, Region.binds] at r8
      subst r8
      have r9 := hn 9
      simp [mem_ready, Region.binds] at r9
      subst r9
      have r10 := hn 10
      simp [mem_ready, Region.binds] at r10
      subst r10
      try dsimp only
      obtain ⟨B9, d9, O9, e9, os9, w5, hb5, h7, h7e, ⟨hp9, hn9⟩, hw5⟩ := H.h9 rfl
      obtain rfl := H.hz3
      have hpw := HQ1.out.below hb5 HQ1.out.lt
      have hp3 : Blk w' (w.heap.size + 1) 25 #[.int .i64 st, .slice B9 ps.length d9, .slice O9 os9.length e9] := by rw [hw5]; exact ((hpw.set_ 0 (.int .i64 st)).set_ 1 (.slice B9 ps.length d9)).set_ 2 (.slice O9 os9.length e9)
      have hk3 : Kept (fun g => g = w.heap.size + 1) w5 w' := by rw [hw5]; exact (((Kept.refl (fun g => g = w.heap.size + 1) w5).setCell (p := ⟨w.heap.size + 1, 0, none⟩) (Or.inl rfl) _).setCell (p := ⟨w.heap.size + 1, 1, none⟩) (Or.inl rfl) _).setCell (p := ⟨w.heap.size + 1, 2, none⟩) (Or.inl rfl) _
      have hlt := HQ1.out.lt
      have ho : OwnNA w' w3.heap.size (.slice O9 os9.length e9) os9 := OwnN.kept h7 hk3 (fun g e e2 => by have := (own_lt' h7.1 e).2; omega) (fun x hx g e e2 => by have := (own_lt' (h7.2 x hx) e).2; omega)
      have hb5' : Below w.heap.size w w' := (HBw.out.trans (hb5.mono HBw.out.size)).trans (hk3.to_below (by have := HBw.out.size; have := hb5.size; omega) (fun g hg e => by omega))
      have hpr3 : w.heap.size + 1 < w3.heap.size := hlt
      have hpt : Pts w' B9 ps := by rw [hw5]; exact ((hp9.set_new (p := ⟨w.heap.size + 1, 0, none⟩) hn9 hpr3 _).set_new (p := ⟨w.heap.size + 1, 1, none⟩) hn9 hpr3 _).set_new (p := ⟨w.heap.size + 1, 2, none⟩) hn9 hpr3 _
      have HFIN := Lib.hid (And.intro hpt (And.intro (OwnN.reads ho) (And.intro h7e hb5')))
      have HP3 := Lib.hid hp3
      clear H hr hn hb5 h7 h7e hp9 hn9 hw5 hpw hk3 ho hb5' hpt hp3
      go_wp2
      rw [HE.out]
      exact bodyPost_ret (results_ct Tryz.results10 _ _ (w.heap.size + 1) 25 #[.int .i64 st, .slice B9 ps.length d9, .slice O9 os9.length e9] (0, 0) _ rfl HP3.out Tryz.underlying25 rfl Tryz.sizeTree) rfl ⟨st, B9, _, d9, O9, _, e9, rfl, ⟨B9, d9, O9, e9, os9, rfl, HFIN.out.1, HFIN.out.2.1, HFIN.out.2.2.1⟩, HFIN.out.2.2.2⟩
end Go.Proofs.YtmlhkbgifnifdaaGreatDoor
namespace Go.Proofs.YtmlhkbgifnifdaaGreatDoor
open Go.RowKit
set_option maxRecDepth 100000
set_option linter.unusedVariables false
set_option linter.unusedSimpArgs false

theorem known_ctr {ps : List (Int × Int)} (h : knownB ps = true) : ∃ c : Nat, ctrP ps = c ∧ c < ps.length ∧ idxF (0, 0) 0 ps = c := by
  unfold knownB at h
  simp only [Bool.or_eq_true, decide_eq_true_eq] at h
  rcases h with (h | h) | h <;> subst h
  · exact ⟨4, by decide, by decide, by decide⟩
  · exact ⟨2, by decide, by decide, by decide⟩
  · exact ⟨3, by decide, by decide, by decide⟩
/-- the first n places but the centre's are set, place by place -/
def fillTo (c L n : Nat) : Nat → List Int × Nat
  | 0 => (List.replicate L 0, n)
  | i + 1 => if i ≠ c ∧ 0 < (fillTo c L n i).2 then ((fillTo c L n i).1.set i 1, (fillTo c L n i).2 - 1) else fillTo c L n i
theorem fillTo_len (c L n : Nat) : ∀ i, (fillTo c L n i).1.length = L
  | 0 => by simp [fillTo]
  | i + 1 => by
    unfold fillTo
    split
    · dsimp only; rw [List.length_set]; exact fillTo_len c L n i
    · exact fillTo_len c L n i
theorem fillTo_le (c L n : Nat) : ∀ i, (fillTo c L n i).2 ≤ n
  | 0 => by simp [fillTo]
  | i + 1 => by
    unfold fillTo
    have := fillTo_le c L n i
    split
    · dsimp only; omega
    · exact this
def inN (t : PT) (n : Nat) (s : Int) : List Int := (fillTo (ctrP t.ps).toNat t.ps.length n t.ps.length).1.set (ctrP t.ps).toNat s
theorem inN_len (t : PT) (n : Nat) (s : Int) : (inN t n s).length = t.ps.length := by unfold inN; rw [List.length_set]; exact fillTo_len _ _ _ _
def hitP (t : PT) (s : Int) (n : Nat) : Bool := decide ((evalP t (inN t n s)).2 = 0) && decide ((evalP t (inN t n s)).1 = 1)
def numsTo (t : PT) (s : Int) (k : Nat) : List Int := ((List.range k).filter (hitP t s)).map (fun (n : Nat) => (n : Int))
def numsP (t : PT) (s : Int) : List Int := numsTo t s t.ps.length
theorem numsTo_yes {t : PT} {s : Int} {k : Nat} (h : hitP t s k = true) : numsTo t s (k + 1) = numsTo t s k ++ [(k : Int)] := by
  unfold numsTo
  rw [List.range_succ, List.filter_append, List.map_append]
  simp [h]
theorem numsTo_no {t : PT} {s : Int} {k : Nat} (h : hitP t s k = false) : numsTo t s (k + 1) = numsTo t s k := by
  unfold numsTo
  rw [List.range_succ, List.filter_append, List.map_append]
  simp [h]
theorem numsTo_len (t : PT) (s : Int) (k : Nat) : (numsTo t s k).length ≤ k := by
  unfold numsTo
  rw [List.length_map]
  refine Nat.le_trans (List.length_filter_le _ _) ?_
  rw [List.length_range]
  exact Nat.le_refl _
set_option maxHeartbeats 8000000 in
theorem numbers_any (st : Int) (A : Option Addr) (c : Nat) (ps : List (Int × Int)) (B : Option Addr) (d : Nat) (hs : List Hd) (s : Int) (w : World) (hp : Pts w A ps) (hN : Nds w B hs) (hk : knownB ps = true) :
    Calls Tryz.prog 25 #[.agg #[.int .i64 st, .slice A ps.length c, .slice B hs.length d], .int .i64 s] w (RetInts (numsP ⟨st, ps, hs.map Hd.nd⟩ s) w) := by
  obtain ⟨cn, hc1, hc2, -⟩ := known_ctr hk
  obtain ⟨hl1, hl9⟩ := known_len hk
  obtain ⟨t, ht⟩ : ∃ t : PT, t = ⟨st, ps, hs.map Hd.nd⟩ := ⟨_, rfl⟩
  have htp : t.ps = ps := by rw [ht]
  rw [← ht]
  obtain ⟨i0, hi0, hz0, hz1, hz2⟩ := info_parts Tryz.infoInt
  obtain ⟨w0, hw0⟩ : ∃ w0, w0 = w.alloc (.cells #[.int .i64 st, .slice A ps.length c, .slice B hs.length d] 25) := ⟨_, rfl⟩
  have hb0 : Below w.heap.size w w0 := by rw [hw0]; exact below_new _ _
  have p0 : Blk w0 w.heap.size 25 #[.int .i64 st, .slice A ps.length c, .slice B hs.length d] := by rw [hw0]; exact Blk.new _ _ _
  have hcen := centre_any A ps c w0 (hp.ext hb0)
  rw [hc1] at hcen
  obtain ⟨L, hL⟩ : ∃ L, L = ps.length := ⟨_, rfl⟩
  have hEV : ∀ W Av cv' zs, Below w0.heap.size w0 W → Ints W Av zs → zs.length = L → Calls Tryz.prog 21 #[.agg #[.int .i64 st, .slice A L c, .slice B hs.length d], .slice Av L cv'] W fun e w' => e = .returned (.tuple #[.int .i64 (evalP t zs).1, .int .i64 (evalP t zs).2]) ∧ Below W.heap.size W w' := fun W Av cv' zs hW hz hzl => by
    have h1 := eval_any st A c ps B d hs Av cv' zs W ((hp.ext hb0).ext hW) ((hN.ext hb0).ext hW) hz
    rw [← ht, hzl, ← hL] at h1
    exact h1
  have hin : ∀ k, inN t k s = (fillTo cn L k L).1.set cn s := fun k => by
    unfold inN
    rw [htp, hc1, ← hL, Int.toNat_natCast]
  have hnp : numsP t s = numsTo t s L := by unfold numsP; rw [htp, hL]
  rw [hnp]
  rw [← hL] at p0 hw0 hcen hc2 hl1 hl9 ⊢
  have HCEN := Lib.hid hcen
  have HEV := Lib.hid hEV
  have HIN := Lib.hid hin
  have HB0 := Lib.hid hb0
  have HP0 := Lib.hid p0
  have HW0 := Lib.hid hw0
  have HL := Lib.hid (And.intro hc2 (And.intro hl1 hl9))
  have hlm : L ≤ 9223372036854775807 := by omega
  have c1 := p0.cell_ 1 (.slice A L c) rfl
  clear hc1 hc2 hl1 hl9 ht htp hb0 p0 hcen hEV hin hnp hp hN hk hw0 hL
  go_enter Tryz.func25, Tryz.ntmps25
  go_upto_region 1 with fail
  rw [← HW0.out]
  go_wp2_with (go_at_call 34; refine HCEN.out.mono ?_; rintro e w1 ⟨rfl, hb1⟩; refine Hid.out ?_)
  refine Lib.hid ?_
  have HB1 := Lib.hid hb1
  have HP1 := Lib.hid (HP0.out.below hb1 HP0.out.lt)
  have c1' := HP1.out.cell_ 1 (.slice A L c) rfl
  clear hb1 c1 HCEN
  go_wp2
  clear c1'
  go_loopw [5, 19] (fun lv iv wr => ∃ k : Nat, k ≤ L ∧ iv = .int .i64 k ∧ Hid (OwnIA wr w1.heap.size lv (numsTo t s k)) ∧ Hid (Below w1.heap.size w1 wr)) (fun _ iv _ => L - (intOf iv).toNat)
  case atStart => exact ⟨0, Nat.zero_le _, rfl, Lib.hid (OwnI.nil _ _ _), Lib.hid (Below.refl _ _)⟩
  case round =>
    obtain ⟨k, hkL, rfl, HO, HBR⟩ := hrel
    have hwk : wrap64 ((k : Int) + 1) = (k : Int) + 1 := by have := HL.out; unfold wrap64; omega
    by_cases hlt : k < L
    · have HLT := Lib.hid hlt
      have hd9 : decide ((k : Int) < (L : Int)) = true := decide_eq_true (by omega)
      have HPR := Lib.hid (HP1.out.below HBR.out HP1.out.lt)
      have c1r := HPR.out.cell_ 1 (.slice A L c) rfl
      obtain ⟨wo, rfl⟩ : ∃ wo : World, wo = wr := ⟨_, rfl⟩
      have hMj : wo.heap.size ≤ wo.heap.size := Nat.le_refl _
      clear hkL
      go_wp2_with (at_make; refine wpList_make_full _ rfl _ _ 28 rfl wo.heap.size 3 i0 _ 1 Tryz.underlying28 hi0 hz0 hz1 .i64 .i64 L L L rfl rfl rfl rfl (by rw [hz2]; have := HL.out; omega) (by have := HL.out; unfold maxLen; omega) hMj ?_)
      intro w2 ho2 hg2
      have hb2 : Below wo.heap.size wo w2 := (Below.refl _ wo).grown hg2 (Nat.le_refl _) (by intro k hk; cases hk)
      have hr2 : OwnIA w2 wo.heap.size (.slice (some ⟨wo.heap.size, 0, none⟩) L L) (List.replicate L 0) := by
        unfold OwnIA OwnI
        rw [List.length_replicate, List.map_replicate]
        rw [toList_madeCells_one] at ho2
        exact ho2
      have HR2 := Lib.hid hr2
      have HB2 := Lib.hid hb2
      have HSZ : Hid (wo.heap.size < w2.heap.size) := Lib.hid (own_lt' hr2 (g := wo.heap.size) rfl).1
      obtain ⟨g, hg⟩ : ∃ g, g = wo.heap.size := ⟨_, rfl⟩
      rw [← hg] at HR2 HB2 HSZ ⊢
      have HG := Lib.hid hg
      clear hb2 hr2 ho2 hg2 hMj c1r hd9 hlt hg
      go_wp2
      go_loopw [9, 29] (fun lf iv wi => ∃ i : Nat, i ≤ L ∧ iv = .int .i64 i ∧ lf = .int .i64 ((fillTo cn L k i).2 : Nat) ∧ Hid (OwnIA wi g (.slice (some ⟨g, 0, none⟩) L L) (fillTo cn L k i).1) ∧ Hid (Below g w2 wi)) (fun _ iv _ => L - (intOf iv).toNat)
      case atStart => exact ⟨0, Nat.zero_le _, rfl, rfl, HR2, Lib.hid (Below.refl _ _)⟩
      case round =>
        clear HR2
        obtain ⟨i, hiL, rfl, rfl, HRI, HBI⟩ := hrel
        have hwi : wrap64 ((i : Int) + 1) = (i : Int) + 1 := by have := HL.out; unfold wrap64; omega
        by_cases hil : i < L
        · have HIL := Lib.hid hil
          have hd9 : decide ((i : Int) < (L : Int)) = true := decide_eq_true (by omega)
          obtain ⟨lf, hlf⟩ : ∃ lf, lf = (fillTo cn L k i).2 := ⟨_, rfl⟩
          have hlk := fillTo_le cn L k i
          rw [← hlf] at hlk ⊢
          have HLF := Lib.hid hlf
          have hrow := HRI.out.cellk (k := i) (by rw [fillTo_len]; exact hil)
          have hfz := hrow.2
          have hci := hrow.1
          have hset := OwnI.set HRI.out (fillTo_len _ _ _ _).symm i 1
          by_cases hic : i = cn
          · have HN : Hid (fillTo cn L k (i + 1) = fillTo cn L k i) := Lib.hid (by rw [fillTo]; exact if_neg (fun h => h.1 hic))
            have hd := (by simp [hic] : ((i : Int) != (cn : Int)) = false)
            clear hiL hil hic hlk hrow hset hci hfz hlf
            go_wp2
            go_roundw
            case rel => exact ⟨i + 1, HIL.out, (by first | rfl | (rw [hwi]; rfl)), (by rw [HN.out, ← HLF.out]), (by rw [HN.out]; exact HRI), HBI⟩
            case measure => (try rw [hwi]); exact meas_step HIL.out
          · have hd : ((i : Int) != (cn : Int)) = true := by simp; omega
            by_cases hlp : 0 < lf
            · have HN : Hid (fillTo cn L k (i + 1) = ((fillTo cn L k i).1.set i 1, (fillTo cn L k i).2 - 1)) := Lib.hid (by rw [fillTo]; exact if_pos ⟨hic, by rw [← hlf]; exact hlp⟩)
              have hd2 : decide ((0 : Int) < (lf : Int)) = true := decide_eq_true (by omega)
              have hd3 : decide (0 < lf) = true := decide_eq_true hlp
              have hwl : wrap64 ((lf : Int) - 1) = ((lf - 1 : Nat) : Int) := by have := HL.out; have := HLT.out; unfold wrap64; omega
              have HSET := Lib.hid hset
              clear hiL hil hic hlk hrow hset hlp hlf
              go_wp2
              go_roundw
              case rel => exact ⟨i + 1, HIL.out, (by first | rfl | (rw [hwi]; rfl)), (by rw [HN.out, ← HLF.out]; first | rfl | (rw [hwl])), (by rw [HN.out]; exact HSET), Lib.hid (HBI.out.setCell (p := ⟨g, i, none⟩) (Nat.le_refl _) _)⟩
              case measure => (try rw [hwi]); exact meas_step HIL.out
            · have HN : Hid (fillTo cn L k (i + 1) = fillTo cn L k i) := Lib.hid (by rw [fillTo]; exact if_neg (fun h => hlp (by rw [hlf]; exact h.2)))
              have hd2 : decide ((0 : Int) < (lf : Int)) = false := decide_eq_false (by omega)
              have hd3 : decide (0 < lf) = false := decide_eq_false hlp
              clear hiL hil hic hlk hrow hset hlp hci hfz hlf
              go_wp2
              go_roundw
              case rel => exact ⟨i + 1, HIL.out, (by first | rfl | (rw [hwi]; rfl)), (by rw [HN.out, ← HLF.out]), (by rw [HN.out]; exact HRI), HBI⟩
              case measure => (try rw [hwi]); exact meas_step HIL.out
        · obtain rfl : L = i := Nat.le_antisymm (Nat.le_of_not_lt hil) hiL
          have hrow := HRI.out.cellk (k := cn) (by rw [fillTo_len]; exact HL.out.1)
          have hfz := hrow.2
          have hci := hrow.1
          have hset := OwnI.set HRI.out (fillTo_len _ _ _ _).symm cn s
          rw [← HIN.out k] at hset
          have hcl := HL.out.1
          obtain ⟨w5, hw5⟩ : ∃ w5, w5 = wr.setCell ⟨g, cn, none⟩ (.int .i64 s) := ⟨_, rfl⟩
          rw [← hw5] at hset
          have hb5 : Below g wr w5 := by rw [hw5]; exact (Below.refl g wr).setCell (p := ⟨g, cn, none⟩) (Nat.le_refl _) _
          have hb5r : Below wo.heap.size wo w5 := by
            have h1 := (HB2.out.trans HBI.out).trans hb5
            rw [HG.out] at h1
            exact h1
          have HB5 : Hid (Below w1.heap.size w1 w5) := Lib.hid (HBR.out.trans (hb5r.mono HBR.out.size))
          have HP5 := Lib.hid (HPR.out.below hb5r HPR.out.lt)
          have HO5 := Lib.hid (HO.out.ext hb5r)
          have HB50 : Hid (Below w0.heap.size w0 w5) := Lib.hid (HB1.out.trans (HB5.out.mono HB1.out.size))
          have HCE := Lib.hid (HEV.out w5 (some ⟨g, 0, none⟩) L (inN t k s) HB50.out hset.reads (by rw [HIN.out k, List.length_set, fillTo_len]))
          have HW5 := Lib.hid hw5
          have d0 := HP5.out.cell_ 0 (.int .i64 st) rfl
          have d1 := HP5.out.cell_ 1 (.slice A L c) rfl
          have d2 := HP5.out.cell_ 2 (.slice B hs.length d) rfl
          clear hiL hil hrow hset hw5 hb5 hb5r
          go_upto_region 16 with fail
          rw [← HW5.out]
          clear hfz hci
          go_wp2_with (go_at_call 21; refine HCE.out.mono ?_; rintro e w6 ⟨rfl, hb6⟩; refine Hid.out ?_)
          refine Lib.hid ?_
          have HB6 : Hid (Below w1.heap.size w1 w6) := Lib.hid (HB5.out.trans (hb6.mono HB5.out.size))
          have HO6 := Lib.hid (HO5.out.ext hb6)
          obtain ⟨ev, hev⟩ : ∃ ev, ev = (evalP t (inN t k s)).1 := ⟨_, rfl⟩
          obtain ⟨ee, hee⟩ : ∃ ee, ee = (evalP t (inN t k s)).2 := ⟨_, rfl⟩
          have hhit : hitP t s k = (decide (ee = 0) && decide (ev = 1)) := by unfold hitP; rw [hev, hee]
          rw [← hev, ← hee]
          clear hev hee hb6 HCE d0 d1 d2
          by_cases h1 : ee = 0
          · have e1 : (ee == 0) = true := by simp [h1]
            by_cases h2 : ev = 1
            · have e2 : (ev == 1) = true := by simp [h2]
              have HN : Hid (numsTo t s (k + 1) = numsTo t s k ++ [(k : Int)]) := Lib.hid (numsTo_yes (by rw [hhit]; simp [h1, h2]))
              have hown := HO6.out
              have hln : (numsTo t s k).length < 1000000000000 := by have := numsTo_len t s k; have := HL.out; have := HLT.out; omega
              have hws := HB6.out.size
              clear hhit h1 h2
              go_wp2_with (at_builtin; refine wpList_pushI rfl _ _ _ rfl w1.heap.size 3 Tryz.underlying28 Tryz.infoInt _ _ rfl hown _ rfl hln hws ?_)
              intro v' w7 ho' hb'
              have HO7 : Hid (OwnIA w7 w1.heap.size v' (numsTo t s (k + 1))) := Lib.hid (by rw [HN.out]; exact ho')
              have HB7 := Lib.hid (HB6.out.trans hb')
              clear ho' hb' hown hln hws
              go_wp2
              go_roundw
              case rel => exact ⟨k + 1, HLT.out, (by first | rfl | (rw [hwk]; rfl)), HO7, HB7⟩
              case measure => (try rw [hwk]); exact meas_step HLT.out
            · have e2 : (ev == 1) = false := by simp [h2]
              have HN : Hid (numsTo t s (k + 1) = numsTo t s k) := Lib.hid (numsTo_no (by rw [hhit]; simp [h2]))
              clear hhit h1 h2
              go_wp2
              go_roundw
              case rel => exact ⟨k + 1, HLT.out, (by first | rfl | (rw [hwk]; rfl)), (by rw [HN.out]; exact HO6), HB6⟩
              case measure => (try rw [hwk]); exact meas_step HLT.out
          · have e1 : (ee == 0) = false := by simp [h1]
            have HN : Hid (numsTo t s (k + 1) = numsTo t s k) := Lib.hid (numsTo_no (by rw [hhit]; simp [h1]))
            clear hhit h1
            go_wp2
            go_roundw
            case rel => exact ⟨k + 1, HLT.out, (by first | rfl | (rw [hwk]; rfl)), (by rw [HN.out]; exact HO6), HB6⟩
            case measure => (try rw [hwk]); exact meas_step HLT.out
    · obtain rfl : L = k := Nat.le_antisymm (Nat.le_of_not_lt hlt) hkL
      obtain ⟨A2, c2, ev, hi2, hn2⟩ := HO.out.ints
      subst ev
      clear hkL hlt
      go_wp2
      go_ret
      exact ⟨A2, c2, rfl, hi2, hn2.mono (Nat.le_trans HB0.out.size HB1.out.size), (HB0.out.trans (HB1.out.mono HB0.out.size)).trans (HBR.out.mono (Nat.le_trans HB0.out.size HB1.out.size))⟩
end Go.Proofs.YtmlhkbgifnifdaaGreatDoor
