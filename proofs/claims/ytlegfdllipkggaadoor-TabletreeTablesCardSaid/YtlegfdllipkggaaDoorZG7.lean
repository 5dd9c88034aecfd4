/-
  cellularref13.reduced, cellularref13.Reduce. No condition.
  The reduced nodes are those of a valid tree, different, not more; they lead to what the changed nodes lead to. No condition.
  The first place where a test holds. No condition.
  A row of new blocks. No condition.
  A tree variable in memory, the contracts over trees. No condition.
  What totaltree.build makes of steps, in plain lists: nothing is left to be reduced, and each node leads where the steps lead. No condition.
  Where an element lies in a list: slices.Index, slices.Contains, cellularref07.Index, hood.Centre. No condition but the reach.
-/
import Derived.Test.YtlegfdllipkggaaDoorZG6
import Derived.Test.YtlegfdllipkggaaDoorZG5
import Derived.Test.YtlegfdllipkggaaDoorZG1
import Derived.Test.YtlegfdllipkggaaDoorZG3
import Derived.Test.YtlegfdllipkggaaDoorZG4
namespace Go.Proofs.YtlegfdllipkggaaDoor
open Go.RowKit
set_option maxRecDepth 100000
set_option linter.unusedVariables false
set_option linter.unusedSimpArgs false

set_option maxHeartbeats 8000000 in
theorem reduced_any (B0 : Option Addr) (d : Nat) (hs : List Hd) (w : World) (hN : Nds w B0 hs) (q : Nat) (hv : VNd q (hs.map Hd.nd)) (hq0 : 0 < q) (hq1 : q ≤ 1000) (hp : 0 < hs.length) (hL : hs.length ≤ 900000000000)
  (hlv : (ndAt (hs.map Hd.nd) (hs.length - 1)).1 ≤ 100) :
  Calls Tryd.prog 36 #[.slice B0 hs.length d] w (RetNds (ordR (hs.map Hd.nd)) w) := by
 have hlm : (hs.map Hd.nd).length = hs.length := List.length_map _
 have HC := Lib.hid (classes_any B0 d hs w hN hv hL (by omega))
 have HN := Lib.hid hN
 have HV := Lib.hid hv
 have HQ := Lib.hid (And.intro hq0 hq1)
 have HP := Lib.hid hp
 have HL := Lib.hid hL
 obtain ⟨r1, r2, r3⟩ := clsRoot_ok hv (by omega)
 rw [hlm] at r2 r3
 have hrl := r1.1
 rw [hlm] at hrl
 have HR1 := Lib.hid r1
 have HR2 : Hid ((ndAt (clsTo (hs.map Hd.nd) hs.length).1 (clsRoot (hs.map Hd.nd))).1 ≤ 100) := Lib.hid (by rw [r2.1]; exact hlv)
 have hcll : (clsTo (hs.map Hd.nd) hs.length).2.length = hs.length := (clsTo_len _ _ (by omega)).2
 have HCLL := Lib.hid hcll
 have hr3 : ∀ h : hs.length - 1 < (clsTo (hs.map Hd.nd) hs.length).2.length, (clsTo (hs.map Hd.nd) hs.length).2[hs.length - 1]'h = (clsRoot (hs.map Hd.nd) : Int) := fun h => by
  rw [← r3, List.getD_eq_getElem?_getD, List.getElem?_eq_getElem h]
  rfl
 have hnl : (clsTo (hs.map Hd.nd) hs.length).1.length = hs.length := (clsTo_len _ _ (by omega)).1
 have HNL := Lib.hid hnl
 have HR3 := Lib.hid hr3
 have HLM := Lib.hid hlm
 have hordr : ordR (hs.map Hd.nd) = (dfs (clsTo (hs.map Hd.nd) hs.length).1 100 (clsRoot (hs.map Hd.nd)) (List.replicate hs.length 0, [])).2 := by
  unfold ordR ord
  rw [hlm, hnl]
 have HORD := Lib.hid hordr
 have hwn : wrap64 ((hs.length : Int) - 1) = ((hs.length - 1 : Nat) : Int) := by unfold wrap64; omega
 have hwn2 : hs.length - 1 < hs.length := by omega
 clear hN hv hq0 hq1 hp hlv r1 r2 r3 hr3 hcll hnl hlm hordr hrl
 go_enter Tryd.func36, Tryd.ntmps36
 go_wp2_with (go_at_call 60; refine HC.out.mono ?_; rintro e w1 ⟨cA, cc, rfl, hci, hb1⟩; refine Hid.out ?_)
 refine Lib.hid ?_
 have HCI := Lib.hid hci
 have HB1 := Lib.hid hb1
 clear hci hb1 HC
 go_wp2
 go_loopw [4, 5] (fun dv i wr => ∃ m : Nat, m ≤ hs.length ∧ i = .int .i64 m ∧ Hid (OwnIA wr w1.heap.size dv (List.replicate m (-1))) ∧ Hid (Below w1.heap.size w1 wr)) (fun _ i _ => hs.length - (intOf i).toNat)
 case atStart => exact ⟨0, Nat.zero_le _, rfl, Lib.hid (OwnI.nil _ _ _), Lib.hid (Below.refl _ _)⟩
 case round =>
  obtain ⟨m, hm, rfl, HO, HBI⟩ := hrel
  by_cases hml : m < hs.length
  ·have hwm : wrap64 ((m : Int) + 1) = (m : Int) + 1 := by unfold wrap64; omega
   have hown := HO.out
   have hnl : (List.replicate m (-1 : Int)).length < 1000000000000 := by rw [List.length_replicate]; omega
   have hbs := HBI.out.size
   have HML := Lib.hid hml
   go_wp2_with (at_builtin; refine wpList_pushI rfl _ _ _ rfl _ 3 Tryd.underlying41 Tryd.infoInt _ _ rfl hown _ rfl hnl hbs ?_)
   intro v' w' ho' hb'
   have HO2 : Hid (OwnIA w' w1.heap.size v' (List.replicate (m + 1) (-1))) := Lib.hid (by rw [List.replicate_succ']; exact ho')
   have HB2 := Lib.hid (HBI.out.trans hb')
   clear ho' hb' hown hbs hnl
   go_wp2
   go_roundw
   case rel => exact ⟨m + 1, HML.out, (by first | rfl | (rw [hwm]; rfl)), HO2, HB2⟩
   case measure => (try rw [hwm]); have := HML.out; simp [intOf]; omega
  ·obtain rfl : m = hs.length := by omega
   obtain ⟨gd, cap, hvd, hgd, -⟩ := HO.out.some_ (by rw [List.length_replicate]; exact HP.out)
   rw [List.length_replicate] at hvd
   subst hvd
   obtain ⟨cb, co, ec, -, hcr⟩ := (HCI.out.ext HBI.out).at_ (k := hs.length - 1) (by have := HCLL.out; omega)
   rw [HR3.out] at hcr
   have hS : RkS w1.heap.size gd hs.length cap (.slice none 0 0) (List.replicate hs.length 0, []) [] wr := by
    refine ⟨?_, by simp, OwnN.nil _ _ _ _, rfl, fun x hx => absurd hx (by simp)⟩
    have := HO.out
    rw [List.map_replicate]
    exact this
   have hI : Inv q (clsTo (hs.map Hd.nd) hs.length).1 (reps (hs.map Hd.nd)) (List.replicate hs.length 0, []) := by
    have := Inv.start q (clsTo (hs.map Hd.nd) hs.length).1 (reps (hs.map Hd.nd))
    rw [HNL.out] at this
    exact this
   have HCALL := Lib.hid (rwalk_any w1.heap.size gd cap B0 d hs cA cc w1 (HN.out.ext HB1.out) HCI.out (Nat.le_refl _) q HV.out HQ.out.1 HQ.out.2 (by omega) 100 (clsRoot (hs.map Hd.nd)) _ _ [] wr HR2.out HR1.out hI hS HBI.out HBI.out.size)
   obtain ⟨root, hroot⟩ : ∃ root, root = clsRoot (hs.map Hd.nd) := ⟨_, rfl⟩
   rw [← hroot] at hcr HCALL HORD
   have HGD := Lib.hid hgd
   subst ec
   clear hS hI hroot hml hm hgd
   go_wp2_with (go_at_call 61; refine HCALL.out.mono ?_; rintro e w5 ⟨ov2, os2, rfl, hc5⟩; refine Hid.out ?_)
   refine Lib.hid ?_
   have HFIN : Hid (OwnNA w5 w.heap.size ov2 os2 ∧ os2.map Hd.nd = ordR (hs.map Hd.nd) ∧ Below w.heap.size w w5) := Lib.hid (by
    have ho := hc5.wk.out
    refine ⟨⟨own_down ho.1 HB1.out.size, fun x hx => (ho.2 x hx).down HB1.out.size⟩, by rw [HORD.out]; exact hc5.wk.eq, ?_⟩
    refine HB1.out.trans ((HBI.out.trans (hc5.kp.to_below HBI.out.size (fun g hg e => ?_))).mono HB1.out.size)
    rcases e with e | e
    ·have := HGD.out; omega
    ·simp [Value.ownBlock] at e)
   clear hc5 HCALL hcr
   go_wp2
   go_ret
   exact ⟨ov2, os2, rfl, HFIN.out⟩
/-- it hands back a tree; nothing that was there has turned -/
def RetAt (t : PT) (w : World) (e : Ending) (w' : World) : Prop := ∃ v, e = .returned v ∧ TreeAt w' v t ∧ Below w.heap.size w w'
/-- .. whose neighbourhood is the given slice, whose nodes are its own -/
def RetRR (A : Option Addr) (t : PT) (w : World) (e : Ending) (w' : World) : Prop :=
 ∃ A' c nv os, e = .returned (.agg #[.int .i64 t.st, .slice A' t.ps.length c, nv]) ∧ (A' = A ∨ t.ps = []) ∧ Pts w' A' t.ps ∧ OwnNA w' w.heap.size nv os ∧ os.map Hd.nd = t.ns ∧ Below w.heap.size w w'
theorem RetRR.at_ {A : Option Addr} {t : PT} {w w' : World} {e : Ending} (h : RetRR A t w e w') : RetAt t w e w' := by
 obtain ⟨A', c, nv, os, rfl, -, h2, h3, h4, h5⟩ := h
 obtain ⟨B, d, rfl, h6, -⟩ := h3.nds
 exact ⟨_, rfl, ⟨A', c, B, d, os, rfl, h2, h6, h4⟩, h5⟩
structure RrJ (w0 : World) (Pa : Nat) (Pr : Nat) (st : Int) (A : Option Addr) (ps : List (Int × Int)) (c : Nat) (B : Option Addr) (n : Nat) (d : Nat) (ns : List Nd) (b0 b1 b2 b3 b4 b5 b6 b7 b8 : Bool) (v7 v8 v9 v10 v11 v12 v13 v14 : Value) (w : World) : Prop where
 h0 : b0 = true → v7 = .pointer (some ⟨Pa, 0, none⟩)
 h1 : b1 = true → v8 = .int .i64 st
 h2 : b2 = true → v9 = .pointer (some ⟨Pa, 1, none⟩)
 h3 : b3 = true → v10 = .slice A ps.length c
 h4 : b4 = true → v11 = .pointer (some ⟨Pa, 2, none⟩)
 h5 : b5 = true → v12 = .slice B n d
 below : b8 = false → Below w0.heap.size w0 w
 hord : b8 = true → b1 = true ∧ b3 = true ∧ b5 = true ∧ b6 = true ∧ b7 = true
 h6 : b6 = true → b8 = false → ∃ os, OwnNA w w0.heap.size v13 os ∧ os.map Hd.nd = ns
 h7 : b7 = true → b8 = false → ∃ hv os, v14 = .agg #[.int .i64 st, .slice A ps.length c, hv] ∧ OwnNA w w0.heap.size hv os ∧ os.map Hd.nd = ns
 h8 : b8 = true → ∃ hv os w5, Below w0.heap.size w0 w5 ∧ OwnNA w5 w0.heap.size hv os ∧ os.map Hd.nd = ns ∧ w = ((w5.setCell ⟨Pr, 0, none⟩ (.int .i64 st)).setCell ⟨Pr, 1, none⟩ (.slice A ps.length c)).setCell ⟨Pr, 2, none⟩ hv

set_option maxHeartbeats 8000000 in
theorem rreduce_own (st : Int) (A : Option Addr) (c : Nat) (ps : List (Int × Int)) (B : Option Addr) (d : Nat) (hs : List Hd) (w : World) (hp : Pts w A ps) (hN : Nds w B hs) :
  Calls Tryd.prog 14 #[.agg #[.int .i64 st, .slice A ps.length c, .slice B hs.length d]] w (RetRR A (redT ⟨st, ps, hs.map Hd.nd⟩) w) := by
 obtain ⟨w0, hw0⟩ : ∃ w0, w0 = (w.alloc (.cells #[.int .i64 st, .slice A ps.length c, .slice B hs.length d] 25)).alloc (.cells #[.int .i64 0, .slice none 0 0, .slice none 0 0] 25) := ⟨_, rfl⟩
 have hb1 := below_new w (.cells #[.int .i64 st, .slice A ps.length c, .slice B hs.length d] 25)
 have hb0 : Below w.heap.size w w0 := by rw [hw0]; exact hb1.alloc hb1.size _
 have p0 : Blk w0 w.heap.size 25 #[.int .i64 st, .slice A ps.length c, .slice B hs.length d] := by rw [hw0]; exact (Blk.new w _ _).alloc _
 have q0 : Blk w0 (w.heap.size + 1) 25 #[.int .i64 0, .slice none 0 0, .slice none 0 0] := by
  rw [hw0]
  have := Blk.new (w.alloc (.cells #[.int .i64 st, .slice A ps.length c, .slice B hs.length d] 25)) 25 #[.int .i64 0, .slice none 0 0, .slice none 0 0]
  simpa using this
 have HR := Lib.hid (rright_any st A c ps B d hs w0 (hp.ext hb0) (hN.ext hb0))
 have HP := Lib.hid (hp.ext hb0)
 have HN := Lib.hid (hN.ext hb0)
 have HB0 := Lib.hid hb0
 have HP0 := Lib.hid p0
 have HQ0 := Lib.hid q0
 have HW0 := Lib.hid hw0
 have c0 := p0.cell_ 0 (.int .i64 st) rfl
 have c1 := p0.cell_ 1 (.slice A ps.length c) rfl
 have c2 := p0.cell_ 2 (.slice B hs.length d) rfl
 have hred : redT ⟨st, ps, hs.map Hd.nd⟩ = if rightN st ps (hs.map Hd.nd) then ⟨st, ps, redN chR (hs.map Hd.nd)⟩ else PT.zero := rfl
 rw [hred]
 have HPO := Lib.hid hp
 clear hb1 hb0 p0 q0 hw0 hp hN hred
 cases hr : rightN st ps (hs.map Hd.nd) with
 | false =>
  rw [hr] at HR
  clear hr
  go_enter Tryd.func14, Tryd.ntmps14
  go_upto_region 1 with fail
  rw [← HW0.out]
  go_wp2_with (go_at_call 27; refine HR.out.mono ?_)
  rintro e w1 ⟨rfl, hb⟩
  have q1 := HQ0.out.below hb HQ0.out.lt
  have HQ1 := Lib.hid q1
  have d0 := q1.cell_ 0 (.int .i64 0) rfl
  have d1 := q1.cell_ 1 (.slice none 0 0) rfl
  have d2 := q1.cell_ 2 (.slice none 0 0) rfl
  have f0 := q1.frozen 0
  have f1 := q1.frozen 1
  have f2 := q1.frozen 2
  have HB := Lib.hid (HB0.out.trans (hb.mono HB0.out.size))
  clear q1 hb c0 c1 c2
  go_wp2
  have hq : Blk (((w1.setCell ⟨w.heap.size + 1, 0, none⟩ (.int .i64 0)).setCell ⟨w.heap.size + 1, 1, none⟩ (.slice none 0 0)).setCell ⟨w.heap.size + 1, 2, none⟩ (.slice none 0 0)) (w.heap.size + 1) 25 #[.int .i64 0, .slice none 0 0, .slice none 0 0] := ((HQ1.out.set_ 0 (.int .i64 0)).set_ 1 (.slice none 0 0)).set_ 2 (.slice none 0 0)
  exact bodyPost_ret (results_cell_row Tryd.results14 _ _ (w.heap.size + 1) 25 #[.int .i64 0, .slice none 0 0, .slice none 0 0] (0, 0) _ rfl hq Tryd.underlying25 rfl Tryd.sizeTree) rfl
   ⟨none, 0, _, [], rfl, .inr rfl, Pts.nil, OwnN.nil _ _ _ _, rfl, ((HB.out.setCell (p := ⟨w.heap.size + 1, 0, none⟩) (by simp) _).setCell (p := ⟨w.heap.size + 1, 1, none⟩) (by simp) _).setCell (p := ⟨w.heap.size + 1, 2, none⟩) (by simp) _⟩
 | true =>
  rw [hr] at HR
  have HRR := Lib.hid hr
  clear hr
  go_enter Tryd.func14, Tryd.ntmps14
  go_upto_region 1 with fail
  rw [← HW0.out]
  go_wp2_with (go_at_call 27; refine HR.out.mono ?_)
  rintro e w1 ⟨rfl, hb⟩
  have HQ1 := Lib.hid (HQ0.out.below hb HQ0.out.lt)
  have HP1 := Lib.hid (HP0.out.below hb HP0.out.lt)
  have HBw := Lib.hid (HB0.out.trans (hb.mono HB0.out.size))
  have HPW := Lib.hid (HP.out.ext hb)
  have HCALL : Hid (∀ W, Below w1.heap.size w1 W → Calls Tryd.prog 36 #[.slice B hs.length d] W (RetNds (redN chR (hs.map Hd.nd)) W)) := Lib.hid (fun W hW => by
   obtain ⟨a1, a2, a3, a4, a5, a6, a7, a8, a9⟩ := rightN_parts HRR.out
   rw [List.length_map] at a4 a5
   have h99 := a9 (hs.length - 1) (by rw [List.length_map]; omega)
   have := reduced_any B d hs W ((HN.out.ext hb).ext hW) st.toNat a8 (by omega) (by omega) (by omega) (by omega) (by omega)
   rwa [ordR_eq a8 (by rw [List.length_map]; omega) (by rw [List.length_map]; omega)] at this)
  clear c0 c1 c2 hb
  go_wp2
  obtain ⟨nsR, hnsR⟩ : ∃ nsR, nsR = redN chR (hs.map Hd.nd) := ⟨_, rfl⟩
  rw [← hnsR] at HCALL ⊢
  have HNS := Lib.hid hnsR
  clear hnsR
  refine wp_region_J (by kernel_rfl) (fun listed act w' => ∃ b0 b1 b2 b3 b4 b5 b6 b7 b8 v7 v8 v9 v10 v11 v12 v13 v14, listed = #[b0, b1, b2, b3, b4, b5, b6, b7, b8] ∧ act = Act.mk #[.agg #[.int .i64 st, .slice A ps.length c, .slice B hs.length d], .pointer (some ⟨w.heap.size, 0, none⟩), .pointer (some ⟨w.heap.size + 1, 0, none⟩), .agg #[.int .i64 st, .slice A ps.length c, .slice B hs.length d], .bool true, .bool false, undef, v7, v8, v9, v10, v11, v12, v13, v14] [] ∧ RrJ w1 w.heap.size (w.heap.size + 1) st A ps c B hs.length d nsR b0 b1 b2 b3 b4 b5 b6 b7 b8 v7 v8 v9 v10 v11 v12 v13 v14 w') ?_ ?_ ?_
  ·exact ⟨_, _, _, _, _, _, _, _, _, _, _, _, _, _, _, _, _, rfl, rfl, ⟨(by simp), (by simp), (by simp), (by simp), (by simp), (by simp), (fun _ => (Below.refl _ w1).drew), (by simp), (by simp), (by simp), (by simp)⟩⟩
  ·rintro i listed act w' hi ⟨b0, b1, b2, b3, b4, b5, b6, b7, b8, v7, v8, v9, v10, v11, v12, v13, v14, rfl, rfl, H⟩
   have hi16 : i < 9 := by
    obtain ⟨-, o, ho, -⟩ := mem_ready.1 hi
    exact (Array.getElem?_eq_some_iff.1 ho).1
   obtain rfl | rfl | rfl | rfl | rfl | rfl | rfl | rfl | rfl : i = 0 ∨ i = 1 ∨ i = 2 ∨ i = 3 ∨ i = 4 ∨ i = 5 ∨ i = 6 ∨ i = 7 ∨ i = 8 := by omega
   all_goals simp [mem_ready, Region.binds] at hi
   ·refine wpOp_hidden rfl fun K hK => ?_
    go_wp2
    refine OnlyN.mk (hK.out _ _ ⟨true, _, _, _, _, _, _, _, _, .pointer (some ⟨w.heap.size, 0, none⟩), _, _, _, _, _, _, _, rfl, rfl, ⟨fun _ => rfl, H.h1, H.h2, H.h3, H.h4, H.h5, H.below, H.hord, H.h6, H.h7, H.h8⟩⟩)
   ·have b8f : b8 = false := by
     cases hb : b8 with
     | false => rfl
     | true => exact absurd (H.hord hb).1 (by simp [hi])
    have cc0 := ((H.below b8f).cell (p := ⟨w.heap.size, 0, none⟩) HP1.out.lt).trans (HP1.out.cell_ 0 (.int .i64 st) rfl)
    obtain rfl := H.h0 (by simp [hi])
    clear b8f
    refine wpOp_hidden rfl fun K hK => ?_
    go_wp2
    refine OnlyN.mk (hK.out _ _ ⟨_, true, _, _, _, _, _, _, _, _, .int .i64 st, _, _, _, _, _, _, rfl, rfl, ⟨H.h0, fun _ => rfl, H.h2, H.h3, H.h4, H.h5, H.below, fun h => ⟨rfl, (H.hord h).2.1, (H.hord h).2.2.1, (H.hord h).2.2.2.1, (H.hord h).2.2.2.2⟩, H.h6, H.h7, H.h8⟩⟩)
   ·refine wpOp_hidden rfl fun K hK => ?_
    go_wp2
    refine OnlyN.mk (hK.out _ _ ⟨_, _, true, _, _, _, _, _, _, _, _, .pointer (some ⟨w.heap.size, 1, none⟩), _, _, _, _, _, rfl, rfl, ⟨H.h0, H.h1, fun _ => rfl, H.h3, H.h4, H.h5, H.below, H.hord, H.h6, H.h7, H.h8⟩⟩)
   ·have b8f : b8 = false := by
     cases hb : b8 with
     | false => rfl
     | true => exact absurd (H.hord hb).2.1 (by simp [hi])
    have cc1 := ((H.below b8f).cell (p := ⟨w.heap.size, 1, none⟩) HP1.out.lt).trans (HP1.out.cell_ 1 (.slice A ps.length c) rfl)
    obtain rfl := H.h2 (by simp [hi])
    clear b8f
    refine wpOp_hidden rfl fun K hK => ?_
    go_wp2
    refine OnlyN.mk (hK.out _ _ ⟨_, _, _, true, _, _, _, _, _, _, _, _, .slice A ps.length c, _, _, _, _, rfl, rfl, ⟨H.h0, H.h1, H.h2, fun _ => rfl, H.h4, H.h5, H.below, fun h => ⟨(H.hord h).1, rfl, (H.hord h).2.2.1, (H.hord h).2.2.2.1, (H.hord h).2.2.2.2⟩, H.h6, H.h7, H.h8⟩⟩)
   ·refine wpOp_hidden rfl fun K hK => ?_
    go_wp2
    refine OnlyN.mk (hK.out _ _ ⟨_, _, _, _, true, _, _, _, _, _, _, _, _, .pointer (some ⟨w.heap.size, 2, none⟩), _, _, _, rfl, rfl, ⟨H.h0, H.h1, H.h2, H.h3, fun _ => rfl, H.h5, H.below, H.hord, H.h6, H.h7, H.h8⟩⟩)
   ·have b8f : b8 = false := by
     cases hb : b8 with
     | false => rfl
     | true => exact absurd (H.hord hb).2.2.1 (by simp [hi])
    have cc2 := ((H.below b8f).cell (p := ⟨w.heap.size, 2, none⟩) HP1.out.lt).trans (HP1.out.cell_ 2 (.slice B hs.length d) rfl)
    obtain rfl := H.h4 (by simp [hi])
    clear b8f
    refine wpOp_hidden rfl fun K hK => ?_
    go_wp2
    refine OnlyN.mk (hK.out _ _ ⟨_, _, _, _, _, true, _, _, _, _, _, _, _, _, .slice B hs.length d, _, _, rfl, rfl, ⟨H.h0, H.h1, H.h2, H.h3, H.h4, fun _ => rfl, H.below, fun h => ⟨(H.hord h).1, (H.hord h).2.1, rfl, (H.hord h).2.2.2.1, (H.hord h).2.2.2.2⟩, H.h6, H.h7, H.h8⟩⟩)
   ·have b8f : b8 = false := by
     cases hb : b8 with
     | false => rfl
     | true => exact absurd (H.hord hb).2.2.2.1 (by simp [hi])
    obtain rfl := H.h5 (by simp [hi])
    have HB0' := Lib.hid (H.below b8f)
    have HCX := Lib.hid (HCALL.out w' HB0'.out)
    clear b8f
    refine wpOp_hidden rfl fun K hK => ?_
    go_wp2_with (go_at_call 36; refine HCX.out.mono ?_)
    rintro e w9 ⟨v9, os9, rfl, ho9, he9, hb9⟩
    have HO9 := Lib.hid (And.intro (show OwnNA w9 w1.heap.size v9 os9 from ⟨own_down ho9.1 HB0'.out.size, fun x hx => (ho9.2 x hx).down HB0'.out.size⟩) he9)
    have HB9 := Lib.hid hb9
    clear ho9 he9 hb9 HCX
    go_wp2
    refine OnlyN.mk (hK.out _ _ ⟨_, _, _, _, _, _, true, _, _, _, _, _, _, _, _, v9, _, rfl, rfl, ⟨H.h0, H.h1, H.h2, H.h3, H.h4, H.h5, fun h => (H.below h).trans (HB9.out.mono (H.below h).size), fun h => ⟨(H.hord h).1, (H.hord h).2.1, (H.hord h).2.2.1, rfl, (H.hord h).2.2.2.2⟩, fun _ _ => ⟨os9, HO9.out.1, HO9.out.2⟩, fun h h2 => (by obtain ⟨hv, os, x1, x2, x3⟩ := H.h7 h h2; exact ⟨hv, os, x1, x2.ext HB9.out, x3⟩), fun h => absurd (H.hord h).2.2.2.1 (by simp [hi])⟩⟩)
   ·have b8f : b8 = false := by
     cases hb : b8 with
     | false => rfl
     | true => exact absurd (H.hord hb).2.2.2.2 (by simp [hi])
    obtain rfl := H.h1 (by simp [hi])
    obtain rfl := H.h3 (by simp [hi])
    obtain ⟨os9, h6, h6e⟩ := H.h6 (by simp [hi]) b8f
    obtain ⟨An9, cn9, env, -, -⟩ := h6.nds
    have HO6 := Lib.hid (And.intro h6 h6e)
    clear h6 h6e b8f
    subst env
    refine wpOp_hidden rfl fun K hK => ?_
    go_wp2
    refine OnlyN.mk (hK.out _ _ ⟨_, _, _, _, _, _, _, true, _, _, _, _, _, _, _, _, .agg #[.int .i64 st, .slice A ps.length c, .slice An9 os9.length cn9], rfl, rfl, ⟨H.h0, H.h1, H.h2, H.h3, H.h4, H.h5, H.below, fun h => ⟨(H.hord h).1, (H.hord h).2.1, (H.hord h).2.2.1, (H.hord h).2.2.2.1, rfl⟩, H.h6, fun _ _ => ⟨_, os9, rfl, HO6.out.1, HO6.out.2⟩, fun h => absurd (H.hord h).2.2.2.2 (by simp [hi])⟩⟩)
   ·obtain ⟨hv, os9, hv14, h7, h7e⟩ := H.h7 (by simp [hi]) (by simp [hi])
    subst hv14
    obtain ⟨An9, cn9, env, -, -⟩ := h7.nds
    have HO7 := Lib.hid (And.intro h7 h7e)
    have HBL := Lib.hid (H.below (by simp [hi]))
    have hpw := HQ1.out.below HBL.out HQ1.out.lt
    have cc0 := hpw.cell_ 0 (.int .i64 0) rfl
    have cc1 := hpw.cell_ 1 (.slice none 0 0) rfl
    have cc2 := hpw.cell_ 2 (.slice none 0 0) rfl
    have ff0 := hpw.frozen 0
    have ff1 := hpw.frozen 1
    have ff2 := hpw.frozen 2
    subst env
    clear h7 h7e hpw
    refine wpOp_hidden rfl fun K hK => ?_
    go_wp2
    refine OnlyN.mk (hK.out _ _ ⟨_, _, _, _, _, _, _, _, true, _, _, _, _, _, _, _, _, rfl, rfl, ⟨H.h0, H.h1, H.h2, H.h3, H.h4, H.h5, fun h => (by cases h), fun _ => (by simp [hi]), fun _ h => (by cases h), fun _ h => (by cases h), fun _ => ⟨_, os9, _, HBL.out, HO7.out.1, HO7.out.2, rfl⟩⟩⟩)
  ·rintro listed act w' hr ⟨b0, b1, b2, b3, b4, b5, b6, b7, b8, v7, v8, v9, v10, v11, v12, v13, v14, rfl, rfl, H⟩
   have hn := List.eq_nil_iff_forall_not_mem.1 hr
   have r0 := hn 0
   simp [mem_ready, Region.binds] at r0
   subst r0
   have r1 := hn 1
   simp [mem_ready, Region.binds] at r1
   subst r1
   have r2 := hn 2
   simp [mem_ready, Region.binds] at r2
   subst r2
   have r3 := hn 3
   simp [mem_ready, Region.binds] at r3
   subst r3
   have r4 := hn 4
   simp [mem_ready, Region.binds] at r4
   subst r4
   have r5 := hn 5
   simp [mem_ready, Region.binds] at r5
   subst r5
   have r6 := hn 6
   simp [mem_ready, Region.binds] at r6
   subst r6
   have r7 := hn 7
   simp [mem_ready, Region.binds] at r7
   subst r7
   have r8 := hn 8
   simp [mem_ready, Region.binds] at r8
   subst r8
   try dsimp only
   obtain ⟨hv, os9, w5, hb5, h7, h7e, hw5⟩ := H.h8 rfl
   obtain ⟨An9, cn9, env, -, -⟩ := h7.nds
   subst env
   have hpw := HQ1.out.below hb5 HQ1.out.lt
   have hp3 : Blk w' (w.heap.size + 1) 25 #[.int .i64 st, .slice A ps.length c, .slice An9 os9.length cn9] := by rw [hw5]; exact ((hpw.set_ 0 (.int .i64 st)).set_ 1 (.slice A ps.length c)).set_ 2 (.slice An9 os9.length cn9)
   have hk3 : Kept (fun g => g = w.heap.size + 1) w5 w' := by rw [hw5]; exact (((Kept.refl (fun g => g = w.heap.size + 1) w5).setCell (p := ⟨w.heap.size + 1, 0, none⟩) (Or.inl rfl) _).setCell (p := ⟨w.heap.size + 1, 1, none⟩) (Or.inl rfl) _).setCell (p := ⟨w.heap.size + 1, 2, none⟩) (Or.inl rfl) _
   have hlt := HQ1.out.lt
   have ho : OwnNA w' w1.heap.size (.slice An9 os9.length cn9) os9 := OwnN.kept h7 hk3 (fun g e e2 => by have := (own_lt' h7.1 e).2; omega) (fun x hx g e e2 => by have := (own_lt' (h7.2 x hx) e).2; omega)
   obtain ⟨A', c', e', hnds, -⟩ := ho.nds
   injection e' with e1 e2 e3
   subst e1
   have hb5' : Below w.heap.size w w' := (HBw.out.trans (hb5.mono HBw.out.size)).trans (hk3.to_below (by have := HBw.out.size; have := hb5.size; omega) (fun g hg e => by omega))
   have hpt : Pts w' A ps := HPO.out.ext hb5'
   have HFIN : Hid (Pts w' A ps ∧ OwnNA w' w.heap.size (.slice An9 os9.length cn9) os9 ∧ os9.map Hd.nd = nsR ∧ Below w.heap.size w w') := Lib.hid ⟨hpt, ⟨own_down ho.1 HBw.out.size, fun x hx => (ho.2 x hx).down HBw.out.size⟩, h7e, hb5'⟩
   have HP3 := Lib.hid hp3
   clear H hr hn hb5 h7 h7e hw5 hpw hk3 ho hnds hb5' hpt hp3
   go_wp2
   exact bodyPost_ret (results_cell_row Tryd.results14 _ _ (w.heap.size + 1) 25 #[.int .i64 st, .slice A ps.length c, .slice An9 os9.length cn9] (0, 0) _ rfl HP3.out Tryd.underlying25 rfl Tryd.sizeTree) rfl ⟨A, c, _, os9, rfl, .inl rfl, HFIN.out.1, HFIN.out.2.1, (by rw [HFIN.out.2.2.1] <;> exact HNS.out), HFIN.out.2.2.2⟩
theorem rreduce_any (st : Int) (A : Option Addr) (c : Nat) (ps : List (Int × Int)) (B : Option Addr) (d : Nat) (hs : List Hd) (w : World) (hp : Pts w A ps) (hN : Nds w B hs) :
  Calls Tryd.prog 14 #[.agg #[.int .i64 st, .slice A ps.length c, .slice B hs.length d]] w (RetAt (redT ⟨st, ps, hs.map Hd.nd⟩) w) :=
 (rreduce_own st A c ps B d hs w hp hN).mono fun _ _ h => h.at_
end Go.Proofs.YtlegfdllipkggaaDoor
namespace Go.Proofs.YtlegfdllipkggaaDoor
set_option linter.unusedSimpArgs false
set_option linter.unusedVariables false

theorem redN_ok {q : Nat} {l : List Nd} {ch : Int → List Int → List Int} (h : VNd q l) (hc : Chg q ch) (hp : 0 < l.length) (hl : (ndAt l (l.length - 1)).1 ≤ 100) :
  VNd q (redN ch l) ∧ Dis (redN ch l) (· < (redN ch l).length) ∧ 0 < (redN ch l).length ∧ Eqv q (redN ch l) ((redN ch l).length - 1) (chgL ch l) (l.length - 1) ∧ (redN ch l).length ≤ l.length := by
 have hR := RbI.all h hc _ (Nat.le_refl _)
 obtain ⟨g1, g2, g3⟩ := hR.eqv (l.length - 1) (by omega)
 have hlv : (ndAt (chgL ch l) (l.length - 1)).1 = (ndAt l (l.length - 1)).1 := by rw [chg_at ch (by omega)]
 obtain ⟨o1, o2, o3, o4, o5, o6⟩ := ord_ok hR.v.lev hR.dis (f := 100) (root := ((rebTo ch l l.length).2.getD (l.length - 1) 0).toNat) (by rw [g3.1, hlv]; omega) g2
 have e : redN ch l = ord (rebTo ch l l.length).1 100 ((rebTo ch l l.length).2.getD (l.length - 1) 0).toNat := rfl
 rw [← e] at o1 o2 o3 o4 o5 o6
 refine ⟨⟨o1, o3, fun i hi hl1 z hz => ?_⟩, o2, o4, o5.trans g3, ?_⟩
 ·obtain ⟨j, pj, ej⟩ := o6 i hi
  obtain ⟨s, hs, rfl⟩ := List.getElem_of_mem hz
  have hq : s < q := by rw [← o1.len i hi]; exact hs
  have hv := ej.2 [s] (by rw [hl1]; rfl) (by simpa using hq)
  simp only [val, Int.toNat_natCast] at hv
  have hjl := hR.v.lev.len j pj
  have g : (ndAt (redN ch l) i).2.getD s 0 = (ndAt (redN ch l) i).2[s] := by rw [List.getD_eq_getElem?_getD, List.getElem?_eq_getElem hs]; rfl
  rw [g] at hv
  rw [hv]
  exact hR.v.low j pj (by rw [← ej.1]; exact hl1) _ (getD_mem (by rw [hjl]; exact hq))
 ·obtain ⟨d1, -⟩ := dfs_ok hR.v.lev 100 ((rebTo ch l l.length).2.getD (l.length - 1) 0).toNat _ (by rw [g3.1, hlv]; omega) g2 (Inv.start q (rebTo ch l l.length).1 (· < (rebTo ch l l.length).1.length))
  have := d1.le
  have := hR.le
  rw [e]
  unfold ord
  omega
/-- the reduced tree of a valid one -/
theorem redT_ok {t : PT} (h : t.right = true) : VNd t.st.toNat (redT t).ns ∧ Dis (redT t).ns (· < (redT t).ns.length) ∧ 0 < (redT t).ns.length ∧ Eqv t.st.toNat (redT t).ns ((redT t).ns.length - 1) t.ns (t.ns.length - 1) ∧ (redT t).ns.length ≤ t.ns.length ∧ (redT t).st = t.st ∧ (redT t).ps = t.ps := by
 obtain ⟨a1, a2, a3, a4, a5, a6, a7, a8, a9⟩ := rightN_parts h
 have e : redT t = ⟨t.st, t.ps, redN chR t.ns⟩ := by unfold redT; rw [if_pos h]
 rw [e]
 have := redN_ok a8 (chR_chg _) (by omega) (by omega)
 rw [show chgL chR t.ns = t.ns from by unfold chgL chR; simp] at this
 exact ⟨this.1, this.2.1, this.2.2.1, this.2.2.2.1, this.2.2.2.2, rfl, rfl⟩
theorem redT_bad {t : PT} (h : t.right = false) : redT t = PT.zero := by unfold redT; rw [if_neg (by rw [h]; decide)]
end Go.Proofs.YtlegfdllipkggaaDoor
namespace Go.Proofs.YtlegfdllipkggaaDoor
set_option linter.unusedSimpArgs false
open Go.RowKit
set_option linter.unusedVariables false

/-- the first place where p holds, or -1 -/
def fI {α : Type} (p : α → Bool) : List α → Nat → Int
 | [], _ => -1
 | z :: r, k => if p z then (k : Int) else fI p r (k + 1)
theorem fI_any {α : Type} (p : α → Bool) : ∀ (l : List α) (k : Nat), decide (0 ≤ fI p l k) = l.any p
 | [], k => rfl
 | z :: r, k => by
  unfold fI
  rw [List.any_cons]
  cases h : p z with
  | true => simp
  | false => simp [fI_any p r (k + 1)]
theorem fI_step {α : Type} (p : α → Bool) {l : List α} {k : Nat} (h : k < l.length) : fI p (l.drop k) k = if p l[k] then (k : Int) else fI p (l.drop (k + 1)) (k + 1) := by
 rw [List.drop_eq_getElem_cons h]
 rfl
def badS (st s : Int) : Bool := decide (s < 0) || decide (st ≤ s)
theorem meas_step {n k : Nat} (h : k < n) : n - (intOf (.int .i64 ((k : Int) + 1))).toNat < n - (intOf (.int .i64 (k : Int))).toNat := by
 simp only [intOf]
 omega
end Go.Proofs.YtlegfdllipkggaaDoor
namespace Go.Proofs.YtlegfdllipkggaaDoor
set_option linter.unusedSimpArgs false
open Go.RowKit Go.Maps
set_option linter.unusedVariables false

def alc : World → List Obj → World
 | w, [] => w
 | w, o :: r => alc (w.alloc o) r
theorem alc_size : ∀ (os : List Obj) (w : World), (alc w os).heap.size = w.heap.size + os.length
 | [], w => rfl
 | o :: r, w => by
  show (alc (w.alloc o) r).heap.size = _
  rw [alc_size r, List.length_cons]
  simp
  omega
theorem alc_below : ∀ (os : List Obj) (w : World), Below w.heap.size w (alc w os)
 | [], w => Below.refl _ _
 | o :: r, w => by
  have h1 := below_new w o
  exact h1.trans ((alc_below r (w.alloc o)).mono h1.size)
theorem alc_at : ∀ (os : List Obj) (w : World) (i : Nat) (o : Obj), os[i]? = some o → (alc w os).heap[w.heap.size + i]? = some o
 | [], w, i, o, h => by simp at h
 | x :: r, w, 0, o, h => by
  simp at h
  subst h
  have h1 := heap_alloc_new w x
  have h2 : w.heap.size < (w.alloc x).heap.size := by simp
  rw [Nat.add_zero]
  exact ((alc_below r (w.alloc x)).block _ h2).trans h1
 | x :: r, w, i + 1, o, h => by
  have := alc_at r (w.alloc x) i o (by simpa using h)
  have e : (w.alloc x).heap.size + i = w.heap.size + (i + 1) := by simp; omega
  rw [e] at this
  exact this
theorem alc_blk {os : List Obj} {w : World} {i g : Nat} {cs : Array Value} {T : TypeId} (hg : g = w.heap.size + i) (h : os[i]? = some (.cells cs T)) : Blk (alc w os) g T cs := by
 subst hg
 exact alc_at os w i _ h
theorem alc_map {os : List Obj} {w : World} {i g : Nat} (hg : g = w.heap.size + i) (h : os[i]? = some (.map #[] 0)) (P : Program) (k : TypeId) (R : Value → Option (DataW Unit × List MemPlace)) : (alc w os).ownsMap P k R g 0 (.map []) := by
 subst hg
 obtain ⟨es, clock, hb, r⟩ := World.ownsMap_made (H := Unit) w P k R
 have h2 := heap_alloc_new w (.map #[] 0)
 rw [h2] at hb
 injection hb with hb
 injection hb with e1 e2
 subst e1 e2
 exact ⟨#[], 0, alc_at os w i _ h, r⟩
theorem OwnN.readB {T I : TypeId} {w : World} {base : Nat} {A : Option Addr} {n c : Nat} {hs : List Hd} (h : OwnN T I w base (.slice A n c) hs) : Nds w A hs := by
 obtain ⟨A', c', e, hi, -⟩ := h.nds
 injection e with e
 subst e
 exact hi
/-- a tree over a given neighbourhood, the nodes in new memory -/
def RetBd (q : Int) (hA : Option Addr) (hc : Nat) (ps : List (Int × Int)) (ns : List Nd) (w : World) (e : Ending) (w' : World) : Prop := ∃ B d os, e = .returned (.agg #[.int .i64 q, .slice hA ps.length hc, .slice B os.length d]) ∧ OwnNA w' w.heap.size (.slice B os.length d) os ∧ os.map Hd.nd = ns ∧ Below w.heap.size w w'
theorem results_ct {P : Program} {fn : Func} {p u : Tmp} {ty : TypeId} (h : fn.results = #[.cell p ty, .tmp u]) (tmps : Array Value) (w : World) (g : Nat) (t : TypeId) (cs : Array Value) (fr : Nat × Nat) (d : TypeDesc)
  (hp : tmps.getD p undef = .pointer (some ⟨g, 0, none⟩)) (hg : w.heap[g]? = some (.cells cs t fr))
  (hu : P.underlying ty = some d) (hd : (match d with | .struct _ | .array _ _ => true | _ => false) = true) (hi : (P.info? ty).map (·.size) = some cs.size) :
  (results fn tmps).run P w = .ok (.tuple #[.agg cs, tmps.getD u undef]) w := by
 rw [results_cell_tmp h, hp]
 simp [asAddr, run_loadVar_row w g t ty cs fr d hg hu hd hi, Result.andThen]
end Go.Proofs.YtlegfdllipkggaaDoor
namespace Go.Proofs.YtlegfdllipkggaaDoor
open Go.RowKit Go.Maps
set_option maxRecDepth 100000
set_option linter.unusedVariables false
set_option linter.unusedSimpArgs false

/-- the three cells of a tree -/
structure TrV (w : World) (p : Nat) (st : Int) (A : Option Addr) (n c : Nat) (B : Option Addr) (m d : Nat) (t : PT) : Prop where
 blk : Blk w p 25 #[.int .i64 st, .slice A n c, .slice B m d]
 at_ : TreeAt w (.agg #[.int .i64 st, .slice A n c, .slice B m d]) t
section
variable {w w' : World} {p : Nat} {st : Int} {A : Option Addr} {n c : Nat} {B : Option Addr} {m d : Nat} {t u : PT} {v x : Value} {k s : Int}
theorem TrV.ext (h : TrV w p st A n c B m d t) (hb : Below w.heap.size w w') : TrV w' p st A n c B m d t := ⟨h.blk.below hb h.blk.lt, h.at_.ext hb⟩
theorem TrV.new (h : TreeAt w (.agg #[.int .i64 st, .slice A n c, .slice B m d]) t) : TrV (w.alloc (.cells #[.int .i64 st, .slice A n c, .slice B m d] 25)) w.heap.size st A n c B m d t := ⟨Blk.new _ _ _, h.ext (below_new _ _)⟩
theorem TrV.cells (h : TrV w p st A n c B m d t) : w.cell? ⟨p, 0, none⟩ = some (.int .i64 st) ∧ w.cell? ⟨p, 1, none⟩ = some (.slice A n c) ∧ w.cell? ⟨p, 2, none⟩ = some (.slice B m d) :=
 ⟨h.blk.cell_ 0 (.int .i64 st) rfl, h.blk.cell_ 1 (.slice A n c) rfl, h.blk.cell_ 2 (.slice B m d) rfl⟩
theorem TreeAt.len_ (h : TreeAt w (.agg #[.int .i64 st, .slice A n c, .slice B m d]) t) : m = t.ns.length := by
 obtain ⟨A', c', B', d', os, e, h1, h2, h3⟩ := h
 injection e with e
 simp only [Array.mk.injEq, List.cons.injEq, Value.int.injEq, Value.slice.injEq, true_and, and_true] at e
 obtain ⟨-, -, -, rfl, -⟩ := e
 rw [← h3, List.length_map]
def RetA (t : PT) (w : World) (e : Ending) (w' : World) : Prop := ∃ st A n c B m d, e = .returned (.agg #[.int .i64 st, .slice A n c, .slice B m d]) ∧ TreeAt w' (.agg #[.int .i64 st, .slice A n c, .slice B m d]) t ∧ Below w.heap.size w w'
def RetAE (te : PT × Int) (w : World) (e : Ending) (w' : World) : Prop := ∃ st A n c B m d, e = .returned (.tuple #[.agg #[.int .i64 st, .slice A n c, .slice B m d], .int .i64 te.2]) ∧ TreeAt w' (.agg #[.int .i64 st, .slice A n c, .slice B m d]) te.1 ∧ Below w.heap.size w w'
theorem TreeAt.form (h : TreeAt w v t) : ∃ st A n c B m d, v = .agg #[.int .i64 st, .slice A n c, .slice B m d] := by
 obtain ⟨A, c, B, d, os, rfl, -⟩ := h
 exact ⟨_, _, _, _, _, _, _, rfl⟩
theorem RetT.a {e : Ending} (h : RetT t w e w') : RetA t w e w' := by
 obtain ⟨v, rfl, h2, h3⟩ := h.treeAt
 obtain ⟨st, A, n, c, B, m, d, rfl⟩ := h2.form
 exact ⟨st, A, n, c, B, m, d, rfl, h2, h3⟩
theorem RetAt.a {e : Ending} (h : RetAt t w e w') : RetA t w e w' := by
 obtain ⟨v, rfl, h2, h3⟩ := h
 obtain ⟨st, A, n, c, B, m, d, rfl⟩ := h2.form
 exact ⟨st, A, n, c, B, m, d, rfl, h2, h3⟩
theorem red_tv (h : TreeAt w v t) (ht : TabB w.heap.size w) : Calls Tryd.prog 24 #[v] w (RetA (redT t) w) := by
 obtain ⟨A, c, B, d, os, rfl, h1, h2, h3⟩ := h
 have := reduce_any t.st A c t.ps B d os w h1 h2 ht
 rw [h3] at this
 exact this.mono fun _ _ h => h.a
end
theorem OwnN.reads {w : World} {base : Nat} {A : Option Addr} {n c : Nat} {hs : List Hd} (h : OwnNA w base (.slice A n c) hs) : Nds w A hs := by
 obtain ⟨A', c', e, hi, -⟩ := h.nds
 injection e with e
 subst e
 exact hi
end Go.Proofs.YtlegfdllipkggaaDoor
namespace Go.Proofs.YtlegfdllipkggaaDoor
set_option linter.unusedVariables false
set_option linter.unusedSimpArgs false

theorem val_growB {q : Nat} {A : List Nd} (hA : Lev q A (· < A.length)) (ys : List Nd) {L : Nat} {k : Int} (h0 : 0 ≤ k) (h1 : 1 ≤ L → k.toNat < A.length ∧ (ndAt A k.toNat).1 = (L : Int)) {ins : List Nat} (hl : ins.length = L) (hq : ∀ t ∈ ins, t < q) : val (A ++ ys) k ins = val A k ins := by
 rcases Nat.eq_zero_or_pos L with hL | hL
 ·have : ins = [] := List.eq_nil_of_length_eq_zero (by omega)
  subst this
  rfl
 ·obtain ⟨h2, h3⟩ := h1 hL
  have := (Eqv.app hA ys (ndAt A k.toNat).1.toNat k.toNat (by rw [h3]; omega) h2).2 ins (by rw [ndAt_app_lt h2, h3, hl]) hq
  rw [toNat_cast h0] at this
  exact this
/-- steps: how many, how many states, a step from a state at a position, the end -/
structure Sys (S : Type) where
 L : Nat
 q : Nat
 step : S → Nat → Nat → S
 fin : S → Int
/-- the places that were seen, the nodes -/
abbrev BS (S : Type) := List ((Nat × S) × Nat) × List Nd
section
variable {S : Type}
def runS (Y : Sys S) : S → Nat → List Nat → S
 | s, _, [] => s
 | s, a, t :: r => runS Y (Y.step s a t) (a + 1) r
def kidsB (r : S → BS S → Int × BS S) (g : Nat → S) : Nat → BS S → List Int × BS S
 | 0, b => ([], b)
 | j + 1, b => ((kidsB r g j b).1 ++ [(r (g j) (kidsB r g j b).2).1], (r (g j) (kidsB r g j b).2).2)
/-- what holds of what was made -/
structure BI (Y : Sys S) (b : BS S) : Prop where
 nv : NV Y.q b.2
 seen : ∀ x k, (x, k) ∈ b.1 → ∃ n, x.1 + (n + 1) = Y.L ∧ k < b.2.length ∧ (ndAt b.2 k).1 = ((n + 1 : Nat) : Int) ∧ ∀ ins : List Nat, ins.length = n + 1 → (∀ t ∈ ins, t < Y.q) → val b.2 (k : Int) ins = Y.fin (runS Y x.2 x.1 ins)
theorem BI.nil (Y : Sys S) : BI Y ([], []) := ⟨NV.nil _, fun x k h => absurd h (by simp)⟩
/-- what a call gives -/
structure BOk (Y : Sys S) (n : Nat) (s : S) (b : BS S) (r : Int × BS S) : Prop where
 i : BI Y r.2
 vis : Vis Y.q n b.2 r.1 r.2.2
 new : ∃ ks, r.2.1 = b.1 ++ ks ∧ ∀ y ∈ ks, Y.L ≤ y.1.1 + n
 lead : ∀ ins : List Nat, ins.length = n → (∀ t ∈ ins, t < Y.q) → val r.2.2 r.1 ins = Y.fin (runS Y s (Y.L - n) ins)
 sz1 : r.2.1.length ≤ b.1.length + cap Y.q n
 sz2 : r.2.2.length ≤ b.2.length + cap Y.q n
/-- what the calls for the first j states give -/
structure KOk (Y : Sys S) (n : Nat) (g : Nat → S) (j : Nat) (b : BS S) (a : List Int × BS S) : Prop where
 i : BI Y a.2
 ch : Chain (Vis Y.q n) b.2 a.1 a.2.2
 len : a.1.length = j
 new : ∃ ks, a.2.1 = b.1 ++ ks ∧ ∀ y ∈ ks, Y.L ≤ y.1.1 + n
 lead : ∀ i, i < j → ∀ ins : List Nat, ins.length = n → (∀ t ∈ ins, t < Y.q) → val a.2.2 (a.1.getD i 0) ins = Y.fin (runS Y (g i) (Y.L - n) ins)
 sz1 : a.2.1.length ≤ b.1.length + j * cap Y.q n
 sz2 : a.2.2.length ≤ b.2.length + j * cap Y.q n
theorem KOk.zero (Y : Sys S) (n : Nat) (g : Nat → S) {b : BS S} (h : BI Y b) : KOk Y n g 0 b ([], b) :=
 ⟨h, rfl, rfl, ⟨[], by simp, fun y hy => absurd hy (by simp)⟩, fun i hi => absurd hi (by omega), by simp, by simp⟩
theorem KOk.succ {Y : Sys S} {n : Nat} {g : Nat → S} {j : Nat} {b : BS S} {a : List Int × BS S} (hb : BI Y b) (h : KOk Y n g j b a) {r : Int × BS S} (hr : BOk Y n (g j) a.2 r) : KOk Y n g (j + 1) b (a.1 ++ [r.1], r.2) := by
 obtain ⟨k1, e1, l1⟩ := h.new
 obtain ⟨k2, e2, l2⟩ := hr.new
 have hv := vis_ok n _ _ _ h.i.nv hr.vis
 obtain ⟨ys, ey, -⟩ := hv.g
 have hc := chain_ok (fun a b d e f => vis_ok n a b d e f) _ _ _ hb.nv h.ch
 refine ⟨hr.i, h.ch.snoc hr.vis, by simp [h.len], ⟨k1 ++ k2, by rw [e2, e1, List.append_assoc], fun y hy => ?_⟩, fun i hi ins hl hq => ?_, ?_, ?_⟩
 ·rcases List.mem_append.1 hy with hy | hy
  ·exact l1 y hy
  ·exact l2 y hy
 ·dsimp only
  rcases Nat.lt_or_ge i j with h1 | h1
  ·have e : (a.1 ++ [r.1]).getD i 0 = a.1.getD i 0 := by rw [List.getD_eq_getElem?_getD, List.getElem?_append_left (by rw [h.len]; exact h1), ← List.getD_eq_getElem?_getD]
   have hm : a.1.getD i 0 ∈ a.1 := getD_mem (by rw [h.len]; exact h1)
   rw [e, ← h.lead i h1 ins hl hq, ey]
   by_cases hn : 1 ≤ n
   ·obtain ⟨a1, a2, a3⟩ := hc.nd hn _ hm
    exact val_growB h.i.nv.v.lev ys (L := n) a1 (fun _ => ⟨a2, a3⟩) hl hq
   ·have : ins = [] := List.eq_nil_of_length_eq_zero (by omega)
    subst this
    rfl
  ·obtain rfl : i = j := by omega
   have e : (a.1 ++ [r.1]).getD i 0 = r.1 := by rw [List.getD_eq_getElem?_getD, List.getElem?_append_right (by rw [h.len]; exact Nat.le_refl _), h.len, Nat.sub_self]; rfl
   rw [e]
   exact hr.lead ins hl hq
 ·have := h.sz1; have := hr.sz1
  rw [Nat.succ_mul]
  dsimp only
  omega
 ·have := h.sz2; have := hr.sz2
  rw [Nat.succ_mul]
  dsimp only
  omega
/-- the node behind the kids -/
theorem KOk.fin {Y : Sys S} {n : Nat} {s : S} {b : BS S} {a : List Int × BS S} (hb : BI Y b) (hL : n + 1 ≤ Y.L) (h : KOk Y n (fun t => Y.step s (Y.L - (n + 1)) t) Y.q b a) :
  BOk Y (n + 1) s b (((addN a.2.2 (((n + 1 : Nat) : Int), a.1)).1 : Int), (a.2.1 ++ [((Y.L - (n + 1), s), (addN a.2.2 (((n + 1 : Nat) : Int), a.1)).1)], (addN a.2.2 (((n + 1 : Nat) : Int), a.1)).2)) := by
 have hc := chain_ok (fun a b d e f => vis_ok n a b d e f) _ _ _ hb.nv h.ch
 obtain ⟨k1, e1, l1⟩ := h.new
 have hvis : Vis Y.q (n + 1) b.2 (((addN a.2.2 (((n + 1 : Nat) : Int), a.1)).1 : Nat) : Int) (addN a.2.2 (((n + 1 : Nat) : Int), a.1)).2 := by
  rcases addN_cases a.2.2 (((n + 1 : Nat) : Int), a.1) with ⟨i, ha, hil, hin⟩ | ⟨ha, hnot⟩
  ·rw [ha]
   exact chain_found hb.nv h.ch hil hin
  ·rw [ha]
   exact .inr ⟨a.1, a.2.2, h.ch, h.len, hnot, rfl, rfl⟩
 have hv := vis_ok (n + 1) _ _ _ hb.nv hvis
 have hget : ndAt (addN a.2.2 (((n + 1 : Nat) : Int), a.1)).2 (addN a.2.2 (((n + 1 : Nat) : Int), a.1)).1 = (((n + 1 : Nat) : Int), a.1) := by
  rcases addN_cases a.2.2 (((n + 1 : Nat) : Int), a.1) with ⟨i, ha, hil, hin⟩ | ⟨ha, hnot⟩
  ·rw [ha]; exact hin
  ·rw [ha]; exact ndAt_app_len _ _
 have hg : ∃ ys, (addN a.2.2 (((n + 1 : Nat) : Int), a.1)).2 = a.2.2 ++ ys ∧ ys.length ≤ 1 := by
  rcases addN_cases a.2.2 (((n + 1 : Nat) : Int), a.1) with ⟨i, ha, hil, hin⟩ | ⟨ha, hnot⟩
  ·rw [ha]; exact ⟨[], by simp, by simp⟩
  ·rw [ha]; exact ⟨_, rfl, by simp⟩
 obtain ⟨ys, ey, ly⟩ := hg
 have hlead : ∀ ins : List Nat, ins.length = n + 1 → (∀ t ∈ ins, t < Y.q) → val (addN a.2.2 (((n + 1 : Nat) : Int), a.1)).2 (((addN a.2.2 (((n + 1 : Nat) : Int), a.1)).1 : Nat) : Int) ins = Y.fin (runS Y s (Y.L - (n + 1)) ins) := fun ins hl hq => by
  cases ins with
  | nil => simp at hl
  | cons t r =>
   have ht : t < Y.q := hq t (by simp)
   have hrl : r.length = n := by simpa using hl
   have hrq : ∀ x ∈ r, x < Y.q := fun x hx => hq x (by simp [hx])
   simp only [val, Int.toNat_natCast, hget, runS]
   rw [show Y.L - (n + 1) + 1 = Y.L - n by omega, ← h.lead t ht r hrl hrq, ey]
   have hm : a.1.getD t 0 ∈ a.1 := getD_mem (by rw [h.len]; exact ht)
   by_cases hn : 1 ≤ n
   ·obtain ⟨a1, a2, a3⟩ := hc.nd hn _ hm
    exact val_growB h.i.nv.v.lev ys (L := n) a1 (fun _ => ⟨a2, a3⟩) hrl hrq
   ·have : r = [] := List.eq_nil_of_length_eq_zero (by omega)
    subst this
    rfl
 obtain ⟨v1, v2, v3⟩ := hv.nd (by omega)
 rw [Int.toNat_natCast] at v2 v3
 refine ⟨⟨hv.nv, fun x k hx => ?_⟩, hvis, ⟨k1 ++ [((Y.L - (n + 1), s), (addN a.2.2 (((n + 1 : Nat) : Int), a.1)).1)], by dsimp only; rw [e1, List.append_assoc], fun y hy => ?_⟩, hlead, ?_, ?_⟩
 ·dsimp only at hx ⊢
  rcases List.mem_append.1 hx with hx | hx
  ·obtain ⟨m, m1, m2, m3, m4⟩ := h.i.seen x k hx
   refine ⟨m, m1, by rw [ey, List.length_append]; omega, by rw [ey, ndAt_app_lt m2]; exact m3, fun ins hl hq => ?_⟩
   rw [← m4 ins hl hq, ey]
   exact val_growB h.i.nv.v.lev ys (L := m + 1) (Int.natCast_nonneg _) (fun _ => ⟨by rw [Int.toNat_natCast]; exact m2, by rw [Int.toNat_natCast]; exact m3⟩) hl hq
  ·rw [List.mem_singleton] at hx
   injection hx with hx1 hx2
   subst hx1 hx2
   exact ⟨n, by dsimp only; omega, v2, v3, hlead⟩
 ·rcases List.mem_append.1 hy with hy | hy
  ·have := l1 y hy; omega
  ·rw [List.mem_singleton.1 hy]; dsimp only; omega
 ·have := h.sz1
  simp only [List.length_append, List.length_singleton, cap]
  omega
 ·have := h.sz2
  dsimp only
  rw [ey, List.length_append]
  simp only [cap]
  omega
theorem kids_rng {Y : Sys S} {n : Nat} {g : Nat → S} {j : Nat} {b : BS S} {r : List Int × BS S} (hb : BI Y b) (h : KOk Y n g j b r) (hq : Y.q ≤ 100) {N : Nat} (hN : r.2.2.length ≤ N) (h100 : 100 ≤ N) : ∀ z ∈ r.1, 0 ≤ z ∧ z ≤ (N : Int) := by
 intro z hz
 have c := chain_ok (fun a b d e f => vis_ok n a b d e f) _ _ _ hb.nv h.ch
 by_cases hn : 1 ≤ n
 ·obtain ⟨a1, a2, a3⟩ := c.nd hn z hz
  omega
 ·obtain ⟨a1, a2⟩ := (c.low (by omega)).2 z hz
  omega
end
section
variable {S : Type} [DecidableEq S]
def lookS : List ((Nat × S) × Nat) → Nat × S → Option Nat
 | [], _ => none
 | e :: r, p => if e.1 = p then some e.2 else lookS r p
theorem lookS_mem : ∀ {m : List ((Nat × S) × Nat)} {p : Nat × S} {k : Nat}, lookS m p = some k → (p, k) ∈ m
 | [], p, k, h => by cases h
 | e :: r, p, k, h => by
  unfold lookS at h
  split at h
  ·rename_i he
   injection h with h
   subst h he
   exact List.mem_cons_self
  ·exact List.mem_cons_of_mem _ (lookS_mem h)
theorem lookS_none : ∀ {m : List ((Nat × S) × Nat)} {p : Nat × S}, lookS m p = none → ∀ k, (p, k) ∉ m
 | [], p, h, k, hm => absurd hm (by simp)
 | e :: r, p, h, k, hm => by
  unfold lookS at h
  split at h
  ·cases h
  ·rename_i he
   rcases List.mem_cons.1 hm with hm | hm
   ·exact he (by rw [← hm])
   ·exact lookS_none h k hm
theorem lookS_snoc : ∀ (m : List ((Nat × S) × Nat)) (x : Nat × S) (k : Nat) (p : Nat × S), lookS (m ++ [(x, k)]) p = (lookS m p).or (if x = p then some k else none)
 | [], x, k, p => by
  show (if x = p then some k else none) = _
  rfl
 | e :: r, x, k, p => by
  show (if e.1 = p then some e.2 else lookS (r ++ [(x, k)]) p) = (if e.1 = p then some e.2 else lookS r p).or _
  by_cases h : e.1 = p
  ·rw [if_pos h, if_pos h]; rfl
  ·rw [if_neg h, if_neg h]; exact lookS_snoc r x k p
def bld (Y : Sys S) : Nat → S → BS S → Int × BS S
 | 0, s, b => (Y.fin s, b)
 | n + 1, s, b => match lookS b.1 (Y.L - (n + 1), s) with
  | some k => ((k : Int), b)
  | none => (((addN (kidsB (bld Y n) (fun t => Y.step s (Y.L - (n + 1)) t) Y.q b).2.2 (((n + 1 : Nat) : Int), (kidsB (bld Y n) (fun t => Y.step s (Y.L - (n + 1)) t) Y.q b).1)).1 : Int),
    ((kidsB (bld Y n) (fun t => Y.step s (Y.L - (n + 1)) t) Y.q b).2.1 ++ [((Y.L - (n + 1), s), (addN (kidsB (bld Y n) (fun t => Y.step s (Y.L - (n + 1)) t) Y.q b).2.2 (((n + 1 : Nat) : Int), (kidsB (bld Y n) (fun t => Y.step s (Y.L - (n + 1)) t) Y.q b).1)).1)],
     (addN (kidsB (bld Y n) (fun t => Y.step s (Y.L - (n + 1)) t) Y.q b).2.2 (((n + 1 : Nat) : Int), (kidsB (bld Y n) (fun t => Y.step s (Y.L - (n + 1)) t) Y.q b).1)).2))
variable {Y : Sys S} {R : Nat → S → Prop}
theorem bld_ok (hR : ∀ a s t, R a s → a < Y.L → t < Y.q → R (a + 1) (Y.step s a t)) (hF : ∀ s, R Y.L s → 0 ≤ Y.fin s ∧ Y.fin s < (Y.q : Int)) :
  ∀ (n : Nat), n ≤ Y.L → ∀ (s : S) (b : BS S), R (Y.L - n) s → BI Y b → BOk Y n s b (bld Y n s b)
 | 0, hn, s, b, hr, hb => by
  obtain ⟨f1, f2⟩ := hF s hr
  refine ⟨hb, ⟨rfl, f1, f2⟩, ⟨[], by simp [bld], fun y hy => absurd hy (by simp)⟩, fun ins hl hq => ?_, by simp [bld], by simp [bld]⟩
  have : ins = [] := List.eq_nil_of_length_eq_zero hl
  subst this
  rfl
 | n + 1, hn, s, b, hr, hb => by
  unfold bld
  cases hlk : lookS b.1 (Y.L - (n + 1), s) with
  | some k =>
   dsimp only
   obtain ⟨m, m1, m2, m3, m4⟩ := hb.seen _ _ (lookS_mem hlk)
   dsimp only at m1 m4
   obtain rfl : m = n := by omega
   exact ⟨hb, .inl ⟨k, rfl, m2, m3, rfl⟩, ⟨[], by simp, fun y hy => absurd hy (by simp)⟩, m4, by simp, by simp⟩
  | none =>
   dsimp only
   have key : ∀ j, j ≤ Y.q → KOk Y n (fun t => Y.step s (Y.L - (n + 1)) t) j b (kidsB (bld Y n) (fun t => Y.step s (Y.L - (n + 1)) t) j b) := by
    intro j
    induction j with
    | zero => intro _; exact KOk.zero _ _ _ hb
    | succ j ih =>
     intro hj
     have h := ih (by omega)
     refine h.succ hb (bld_ok hR hF n (by omega) _ _ ?_ h.i)
     have := hR _ s j hr (by omega) (by omega)
     rwa [show Y.L - (n + 1) + 1 = Y.L - n by omega] at this
   exact KOk.fin hb hn (key Y.q (Nat.le_refl _))
theorem kids_ok (hR : ∀ a s t, R a s → a < Y.L → t < Y.q → R (a + 1) (Y.step s a t)) (hF : ∀ s, R Y.L s → 0 ≤ Y.fin s ∧ Y.fin s < (Y.q : Int)) {n : Nat} (hn : n + 1 ≤ Y.L) {s : S} {b : BS S} (hr : R (Y.L - (n + 1)) s) (hb : BI Y b) : ∀ j, j ≤ Y.q → KOk Y n (fun t => Y.step s (Y.L - (n + 1)) t) j b (kidsB (bld Y n) (fun t => Y.step s (Y.L - (n + 1)) t) j b) := by
 intro j
 induction j with
 | zero => intro _; exact KOk.zero _ _ _ hb
 | succ j ih =>
  intro hj
  have h := ih (by omega)
  refine h.succ hb (bld_ok hR hF n (by omega) _ _ ?_ h.i)
  have := hR _ s j hr (by omega) (by omega)
  rwa [show Y.L - (n + 1) + 1 = Y.L - n by omega] at this
theorem kids_look {n a : Nat} {s : S} {g : Nat → S} {j : Nat} {b : BS S} {r : List Int × BS S} (h : KOk Y n g j b r) (ha : a + (n + 1) = Y.L) (hn : lookS b.1 (a, s) = none) : lookS r.2.1 (a, s) = none := by
 obtain ⟨ks, e, l⟩ := h.new
 cases h2 : lookS r.2.1 (a, s) with
 | none => rfl
 | some k =>
  have hm := lookS_mem h2
  rw [e] at hm
  rcases List.mem_append.1 hm with hm | hm
  ·exact absurd hm (lookS_none hn k)
  ·have := l _ hm
   dsimp only at this
   omega
/-- the whole tree -/
theorem bld_can (hR : ∀ a s t, R a s → a < Y.L → t < Y.q → R (a + 1) (Y.step s a t)) (hF : ∀ s, R Y.L s → 0 ≤ Y.fin s ∧ Y.fin s < (Y.q : Int)) (hL : 1 ≤ Y.L) (hL2 : Y.L ≤ 100) {s : S} (hr : R 0 s) :
  Can Y.q Y.L (bld Y Y.L s ([], [])).2.2 ∧ (∀ ins : List Nat, ins.length = Y.L → (∀ t ∈ ins, t < Y.q) → val (bld Y Y.L s ([], [])).2.2 (((bld Y Y.L s ([], [])).2.2.length - 1 : Nat) : Int) ins = Y.fin (runS Y s 0 ins)) := by
 have h := bld_ok hR hF Y.L (Nat.le_refl _) s ([], []) (by rw [Nat.sub_self]; exact hr) (BI.nil Y)
 obtain ⟨c1, c2⟩ := vis_can hL hL2 h.vis
 refine ⟨c1, fun ins hl hq => ?_⟩
 rw [← c2, h.lead ins hl hq, Nat.sub_self]
end
end Go.Proofs.YtlegfdllipkggaaDoor
namespace Go.Proofs.YtlegfdllipkggaaDoor
set_option linter.unusedSimpArgs false
open Go.RowKit
set_option maxRecDepth 100000
set_option linter.unusedVariables false

/-- the first place of an element from a place on, or -1 -/
def idxF {α : Type} [DecidableEq α] (p : α) : Nat → List α → Int
 | _, [] => -1
 | k, x :: l => if x = p then (k : Int) else idxF p (k + 1) l
theorem idxF_step {α : Type} [DecidableEq α] {p : α} {xs : List α} {k : Nat} (h : k < xs.length) : idxF p k (xs.drop k) = if xs[k] = p then (k : Int) else idxF p (k + 1) (xs.drop (k + 1)) := by
 rw [List.drop_eq_getElem_cons h]; rfl
theorem idxF_mem {α : Type} [DecidableEq α] {p : α} : ∀ (xs : List α) (k : Nat), (0 ≤ idxF p k xs ↔ p ∈ xs)
 | [], k => by simp [idxF]
 | x :: l, k => by
  unfold idxF
  by_cases h : x = p
  ·rw [if_pos h]; simp [h]
  ·rw [if_neg h, idxF_mem l (k + 1)]
   simp [Ne.symm h]
set_option maxHeartbeats 800000 in
theorem iidx_any (A : Option Addr) (xs : List Int) (c : Nat) (n : Int) (w : World) (ha : Ints w A xs) :
  Calls Tryd.prog 70 #[.slice A xs.length c, .int .i64 n] w fun e w' => e = .returned (.int .i64 (idxF n 0 xs)) ∧ w' = w := by
 have hn := ha.le
 go_enter Tryd.func70, Tryd.ntmps70
 go_wp2
 go_loop [8] (fun i => ∃ k : Nat, k ≤ xs.length ∧ i = .int .i64 k ∧ Hid (idxF n 0 xs = idxF n k (xs.drop k))) (fun i => xs.length - (intOf i).toNat)
 case atStart => exact ⟨0, Nat.zero_le _, rfl, Lib.hid rfl⟩
 case round =>
  obtain ⟨k, hk, rfl, HT⟩ := hrel
  by_cases hlt : k < xs.length
  ·obtain ⟨b1, o1, rfl, -, hc⟩ := ha.at_ hlt
   have hd := idxF_step (p := n) hlt
   by_cases h1 : xs[k] = n
   ·have HN := Lib.hid (HT.out.trans (hd.trans (if_pos h1)))
    have d1 : (n == xs[k]) = true := by simp [h1]
    clear hd h1 HT
    go_wp2
    go_ret
    exact ⟨ret_int HN.out.symm, rfl⟩
   ·have HN := Lib.hid (HT.out.trans (hd.trans (if_neg h1)))
    have d1 : (n == xs[k]) = false := by simp [Ne.symm h1]
    clear hd h1 HT
    go_wp2
    go_round
    case rel => exact ⟨k + 1, by omega, by go_num, HN⟩
    case measure => simp [intOf]; omega
  ·obtain rfl : k = xs.length := by omega
   have hno : idxF n 0 xs = -1 := by rw [HT.out, List.drop_length]; rfl
   have HN := Lib.hid hno
   clear hno HT
   go_wp2
   go_ret
   exact ⟨ret_int HN.out.symm, rfl⟩
set_option maxHeartbeats 800000 in
theorem contains_any (A : Option Addr) (xs : List Int) (c : Nat) (n : Int) (w : World) (ha : Ints w A xs) :
  Calls Tryd.prog 56 #[.slice A xs.length c, .int .i64 n] w fun e w' => e = .returned (.bool (decide (n ∈ xs))) ∧ w' = w := by
 have HI := Lib.hid (iidx_any A xs c n w ha)
 have HM := Lib.hid (idxF_mem (p := n) xs 0)
 obtain ⟨r, hr⟩ : ∃ r, r = idxF n 0 xs := ⟨_, rfl⟩
 rw [← hr] at HI HM
 clear hr ha
 go_enter Tryd.func56, Tryd.ntmps56
 go_wp2_with fail
 refine HI.out.mono ?_
 rintro e w' ⟨rfl, rfl⟩
 go_wp2
 go_ret
 exact ⟨ret_bool (decide_eq_decide.2 HM.out), rfl⟩
set_option maxHeartbeats 800000 in
theorem pidx_any (A : Option Addr) (xs : List (Int × Int)) (c : Nat) (a b : Int) (w : World) (ha : Pts w A xs) :
  Calls Tryd.prog 48 #[.slice A xs.length c, .agg #[.int .i64 a, .int .i64 b]] w fun e w' => e = .returned (.int .i64 (idxF (a, b) 0 xs)) ∧ Below w.heap.size w w' := by
 have hn := ha.le
 obtain ⟨w0, hw0⟩ : ∃ w0, w0 = w.alloc (.cells #[.int .i64 a, .int .i64 b] 67) := ⟨_, rfl⟩
 have hb0 : Below w.heap.size w w0 := by rw [hw0]; exact below_new _ _
 have q0 : Blk w0 w.heap.size 67 #[.int .i64 a, .int .i64 b] := by rw [hw0]; exact Blk.new _ _ _
 have d0 := q0.cell_ 0 (.int .i64 a) rfl
 have d1 := q0.cell_ 1 (.int .i64 b) rfl
 have hP := ha.ext hb0
 have HB0 := Lib.hid hb0
 have HW0 := Lib.hid hw0
 clear hb0 q0 hw0 ha
 go_enter Tryd.func48, Tryd.ntmps48
 go_upto_region 1 with fail
 rw [← HW0.out]
 go_wp2
 go_loopw [8] (fun i wr => ∃ k q : Nat, k ≤ xs.length ∧ i = .int .i64 k ∧ wr = w0.drewN q ∧ Hid (idxF (a, b) 0 xs = idxF (a, b) k (xs.drop k))) (fun i _ => xs.length - (intOf i).toNat)
 case atStart => exact ⟨0, 0, Nat.zero_le _, rfl, rfl, Lib.hid rfl⟩
 case round =>
  obtain ⟨k, q, hk, rfl, rfl, HT⟩ := hrel
  by_cases hlt : k < xs.length
  ·obtain ⟨b1, o1, rfl, -, hc, hc'⟩ := hP.at_ hlt
   have HD := Lib.hid (HT.out.trans (idxF_step (p := (a, b)) hlt))
   clear HT
   have hst := Tryd.stood_pt
   have heg := Tryd.guard_pt
   have hnq := eql_pt
   go_wp2
   go_quiet (fail)
   cases hpe : ptEq a b xs[k].1 xs[k].2 with
   | true =>
    have he : xs[k] = (a, b) := by
     unfold ptEq at hpe
     simp at hpe
     exact Prod.ext hpe.1.symm hpe.2.symm
    have HN := Lib.hid (HD.out.trans (if_pos he))
    clear HD he
    go_wp2
    go_ret
    exact ⟨ret_int HN.out.symm, HB0.out.trans ((below_drewN (below_drewN (Below.refl _ _) _) _).mono HB0.out.size)⟩
   | false =>
    have he : ¬ xs[k] = (a, b) := by
     unfold ptEq at hpe
     intro e
     rw [e] at hpe
     simp at hpe
    have HN := Lib.hid (HD.out.trans (if_neg he))
    clear HD he
    go_wp2
    go_roundw
    case rel => exact ⟨k + 1, _, by omega, by go_num, rfl, HN⟩
    case measure => simp [intOf]; omega
  ·obtain rfl : k = xs.length := by omega
   have hno : idxF (a, b) 0 xs = -1 := by rw [HT.out, List.drop_length]; rfl
   have HN := Lib.hid hno
   clear hno HT
   go_wp2
   go_ret
   exact ⟨ret_int HN.out.symm, HB0.out.trans ((below_drewN (Below.refl _ _) _).mono HB0.out.size)⟩
set_option maxHeartbeats 800000 in
theorem ridx_any (A : Option Addr) (xs : List (Int × Int)) (c : Nat) (a b : Int) (w : World) (ha : Pts w A xs) :
  Calls Tryd.prog 68 #[.slice A xs.length c, .agg #[.int .i64 a, .int .i64 b]] w fun e w' => e = .returned (.int .i64 (idxF (a, b) 0 xs)) ∧ Below w.heap.size w w' := by
 have hn := ha.le
 obtain ⟨w0, hw0⟩ : ∃ w0, w0 = w.alloc (.cells #[.int .i64 a, .int .i64 b] 67) := ⟨_, rfl⟩
 have hb0 : Below w.heap.size w w0 := by rw [hw0]; exact below_new _ _
 have q0 : Blk w0 w.heap.size 67 #[.int .i64 a, .int .i64 b] := by rw [hw0]; exact Blk.new _ _ _
 have d0 := q0.cell_ 0 (.int .i64 a) rfl
 have d1 := q0.cell_ 1 (.int .i64 b) rfl
 have hP := ha.ext hb0
 have HB0 := Lib.hid hb0
 have HW0 := Lib.hid hw0
 clear hb0 q0 hw0 ha
 go_enter Tryd.func68, Tryd.ntmps68
 go_upto_region 1 with fail
 rw [← HW0.out]
 go_wp2
 go_loopw [5] (fun i wr => ∃ k q : Nat, k ≤ xs.length ∧ i = .int .i64 k ∧ wr = w0.drewN q ∧ Hid (idxF (a, b) 0 xs = idxF (a, b) k (xs.drop k))) (fun i _ => xs.length - (intOf i).toNat)
 case atStart => exact ⟨0, 0, Nat.zero_le _, rfl, rfl, Lib.hid rfl⟩
 case round =>
  obtain ⟨k, q, hk, rfl, rfl, HT⟩ := hrel
  by_cases hlt : k < xs.length
  ·obtain ⟨b1, o1, rfl, -, hc, hc'⟩ := hP.at_ hlt
   have HD := Lib.hid (HT.out.trans (idxF_step (p := (a, b)) hlt))
   clear HT
   have hst := Tryd.stood_pt
   have heg := Tryd.guard_pt
   have hnq := eql_pt
   go_wp2
   go_quiet (fail)
   cases hpe : ptEq xs[k].1 xs[k].2 a b with
   | true =>
    have he : xs[k] = (a, b) := by
     unfold ptEq at hpe
     simp at hpe
     exact Prod.ext hpe.1 hpe.2
    have HN := Lib.hid (HD.out.trans (if_pos he))
    clear HD he
    go_wp2
    go_ret
    exact ⟨ret_int HN.out.symm, HB0.out.trans ((below_drewN (below_drewN (Below.refl _ _) _) _).mono HB0.out.size)⟩
   | false =>
    have he : ¬ xs[k] = (a, b) := by
     unfold ptEq at hpe
     intro e
     rw [e] at hpe
     simp at hpe
    have HN := Lib.hid (HD.out.trans (if_neg he))
    clear HD he
    go_wp2
    go_roundw
    case rel => exact ⟨k + 1, _, by omega, by go_num, rfl, HN⟩
    case measure => simp [intOf]; omega
  ·obtain rfl : k = xs.length := by omega
   have hno : idxF (a, b) 0 xs = -1 := by rw [HT.out, List.drop_length]; rfl
   have HN := Lib.hid hno
   clear hno HT
   go_wp2
   go_ret
   exact ⟨ret_int HN.out.symm, HB0.out.trans ((below_drewN (Below.refl _ _) _).mono HB0.out.size)⟩
/-- the place of the centre -/
def ctrP (ps : List (Int × Int)) : Int := if hoodB ps = true then idxF (0, 0) 0 ps else -1
set_option maxHeartbeats 800000 in
theorem centre_any (A : Option Addr) (ps : List (Int × Int)) (c : Nat) (w : World) (ha : Pts w A ps) :
  Calls Tryd.prog 25 #[.slice A ps.length c] w fun e w' => e = .returned (.int .i64 (ctrP ps)) ∧ Below w.heap.size w w' := by
 have HH := Lib.hid (hood_any A c ps w ha)
 have HX := Lib.hid (fun W (hb : Below w.heap.size w W) => pidx_any A ps c 0 0 W (ha.ext hb))
 have hn := ha.le
 cases hB : hoodB ps with
 | false =>
  have HE : Hid (ctrP ps = -1) := Lib.hid (by unfold ctrP; rw [hB]; rfl)
  go_enter Tryd.func25, Tryd.ntmps25
  go_wp2_with fail
  refine HH.out.mono ?_
  rintro e w1 ⟨rfl, hb1⟩
  rw [hB]
  go_wp2
  go_ret
  exact ⟨ret_int HE.out.symm, hb1⟩
 | true =>
  have HE : Hid (ctrP ps = idxF (0, 0) 0 ps) := Lib.hid (by unfold ctrP; rw [hB]; rfl)
  go_enter Tryd.func25, Tryd.ntmps25
  go_wp2_with fail
  refine HH.out.mono ?_
  rintro e w1 ⟨rfl, hb1⟩
  rw [hB]
  go_wp2_with fail
  refine (HX.out w1 hb1).mono ?_
  rintro e w2 ⟨rfl, hb2⟩
  go_wp2
  go_ret
  exact ⟨ret_int HE.out.symm, hb1.trans (hb2.mono hb1.size)⟩
end Go.Proofs.YtlegfdllipkggaaDoor
