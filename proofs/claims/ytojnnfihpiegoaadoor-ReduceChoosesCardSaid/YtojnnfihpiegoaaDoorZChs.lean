/-
  reduce.Choose. No condition but that the library's table is there, and that the trees have few nodes.
-/
import Derived.Test.YtojnnfihpiegoaaDoorZCl
namespace Go.Proofs.YtojnnfihpiegoaaDoor
open Go.RowKit Go.Maps
set_option maxRecDepth 100000
set_option linter.unusedVariables false
set_option linter.unusedSimpArgs false

theorem madeC (w : World) (w1 : World)
    (h : w1 = ((w.alloc (.map #[] 0)).alloc (.map #[] 0)).alloc (.cells #[.slice none 0 0, .map (some w.heap.size), .slice none 0 0, .map (some (w.heap.size + 1))] 66)) :
    Below w.heap.size w w1 ∧ Blk w1 (w.heap.size + 1 + 1) 66 #[.slice none 0 0, .map (some w.heap.size), .slice none 0 0, .map (some (w.heap.size + 1))] ∧ MapA w1 w.heap.size 0 (.map []) ∧ MapA w1 (w.heap.size + 1) 0 (.map []) := by
  obtain ⟨a1, ha1⟩ : ∃ a1, a1 = w.alloc (.map #[] 0) := ⟨_, rfl⟩
  obtain ⟨a2, ha2⟩ : ∃ a2, a2 = a1.alloc (.map #[] 0) := ⟨_, rfl⟩
  rw [← ha1, ← ha2] at h
  have s1 : a1.heap.size = w.heap.size + 1 := by rw [ha1]; simp
  have s2 : a2.heap.size = w.heap.size + 1 + 1 := by rw [ha2]; simp [s1]
  have b1 : Below w.heap.size w a1 := by rw [ha1]; exact below_new _ _
  have b2 : Below a1.heap.size a1 a2 := by rw [ha2]; exact below_new _ _
  have b3 : Below a2.heap.size a2 w1 := by rw [h]; exact below_new _ _
  have p1 : MapA a1 w.heap.size 0 (.map []) := by rw [ha1]; exact World.ownsMap_made _ _ _ _
  have p2 : MapA a2 a1.heap.size 0 (.map []) := by rw [ha2]; exact World.ownsMap_made _ _ _ _
  have p3 : Blk w1 a2.heap.size 66 #[.slice none 0 0, .map (some w.heap.size), .slice none 0 0, .map (some (w.heap.size + 1))] := by rw [h]; exact Blk.new _ _ _
  have p2' : MapA w1 a1.heap.size 0 (.map []) := (Kept.of_new (fun _ => False) b3).map p2 (fun h => h)
  have p1' : MapA w1 w.heap.size 0 (.map []) := (Kept.of_new (fun _ => False) b3).map ((Kept.of_new (fun _ => False) b2).map p1 (fun h => h)) (fun h => h)
  rw [s1] at p2'
  rw [s2] at p3
  exact ⟨(b1.trans (b2.mono b1.size)).trans (b3.mono (by omega)), p3, p1', p2'⟩
theorem any_take {α : Type} {p : α → Bool} {l : List α} {i : Nat} (hi : i < l.length) (h : (l.take i).any p = false) (h2 : p l[i] = false) : (l.take (i + 1)).any p = false := by
  rw [List.take_succ_eq_append_getElem hi, List.any_append, h]
  simp [h2]
theorem any_at {α : Type} {p : α → Bool} {l : List α} {i : Nat} (hi : i < l.length) (h2 : p l[i] = true) : l.any p = true := by
  rw [List.any_eq_true]
  exact ⟨l[i], List.getElem_mem hi, h2⟩
/-- what is handed back -/
def ChFin (te : PT × Int) (W : World) (s3 : Int) (X : Option Addr) (n1 c1 : Nat) (Y : Option Addr) (n2 c2 : Nat) (w : World) : Prop :=
  s3 = te.1.st ∧ OwnP 49 w W.heap.size (.slice X n1 c1) te.1.ps ∧ ∃ os, OwnNA w W.heap.size (.slice Y n2 c2) os ∧ os.map Hd.nd = te.1.ns
theorem ChFin.ext {te : PT × Int} {W : World} {s3 : Int} {X : Option Addr} {n1 c1 : Nat} {Y : Option Addr} {n2 c2 : Nat} {w w' : World} (h : ChFin te W s3 X n1 c1 Y n2 c2 w) (hb : Below w.heap.size w w') : ChFin te W s3 X n1 c1 Y n2 c2 w' := by
  obtain ⟨a, b, os, d, e⟩ := h
  exact ⟨a, b.ext hb, os, d.ext hb, e⟩
theorem sized_fin {te : PT × Int} {W w : World} {st : Int} {ps : List (Int × Int)} {ns : List Nd} {Ah : Option Addr} {ch : Nat} {An : Option Addr} {cn : Nat} {os : List Hd} (hte : te = if 4096 < ns.length then (PT.zero, 6) else (⟨st, ps, ns⟩, 0))
    (h4 : OwnP 49 w W.heap.size (.slice Ah ps.length ch) ps) (h9 : OwnNA w W.heap.size (.slice An os.length cn) os) (h9e : os.map Hd.nd = ns) :
    ∃ s3 X n1 c1 Y n2 c2, sizedV st Ah ps.length ch An os.length cn = .tuple #[.agg #[.int .i64 s3, .slice X n1 c1, .slice Y n2 c2], .int .i64 te.2] ∧ ChFin te W s3 X n1 c1 Y n2 c2 w := by
  have hl : os.length = ns.length := by rw [← h9e, List.length_map]
  by_cases h : 4096 < ns.length
  · rw [if_pos h] at hte
    subst hte
    unfold sizedV
    rw [if_pos (by rw [hl]; exact h)]
    exact ⟨0, none, 0, 0, none, 0, 0, rfl, rfl, OwnP.nil _ _ _, [], OwnN.nil _ _ _ _, rfl⟩
  · rw [if_neg h] at hte
    subst hte
    unfold sizedV
    rw [if_neg (by rw [hl]; exact h)]
    exact ⟨st, Ah, ps.length, ch, An, os.length, cn, rfl, rfl, h4, os, h9, h9e⟩
structure ChJ (W : World) (Pt : Nat) (Pr : Nat) (p : Nat) (st : Int) (A : Option Addr) (ps : List (Int × Int)) (c : Nat) (nA : Option Addr) (hn : Nat) (nc : Nat) (kn : Nat) (ns : List Nd) (te : PT × Int) (b0 b1 b2 b3 b4 b5 b6 b7 b8 b9 b10 b11 b12 b13 b14 b15 : Bool) (v96 v97 v98 v99 v100 v101 v102 v103 v104 v105 v106 v107 v108 v109 v5 : Value) (w : World) : Prop where
  h0 : b0 = true → v96 = .pointer (some ⟨Pt, 0, none⟩)
  h1 : b1 = true → v97 = .int .i64 st
  h2 : b2 = true → v98 = .pointer (some ⟨Pt, 1, none⟩)
  h3 : b3 = true → v99 = .slice A ps.length c
  h5 : b5 = true → v101 = .pointer (some ⟨p, 0, none⟩)
  h6 : b6 = true → v102 = .pointer (some ⟨p, 0, none⟩)
  h7 : b7 = true → v103 = .slice nA hn nc
  h8 : b8 = true → v104 = .int .i64 kn
  h13 : b13 = true → v109 = .int .i64 te.2
  h15 : b15 = true → v5 = .int .i64 te.2
  below : b14 = false → Below W.heap.size W w
  hord : b14 = true → b1 = true ∧ b3 = true ∧ b4 = true ∧ b7 = true ∧ b9 = true ∧ b10 = true ∧ b11 = true ∧ b12 = true ∧ b13 = true
  h4 : b4 = true → b14 = false → OwnP 49 w W.heap.size v100 ps
  h9 : b9 = true → b14 = false → ∃ os, OwnNA w W.heap.size v105 os ∧ os.map Hd.nd = ns
  h10 : b10 = true → b14 = false → ∃ hv nv os, v106 = .agg #[.int .i64 st, hv, nv] ∧ OwnP 49 w W.heap.size hv ps ∧ OwnNA w W.heap.size nv os ∧ os.map Hd.nd = ns
  h11 : b11 = true → b14 = false → ∃ s3 X n1 c1 Y n2 c2, v107 = .tuple #[.agg #[.int .i64 s3, .slice X n1 c1, .slice Y n2 c2], .int .i64 te.2] ∧ ChFin te W s3 X n1 c1 Y n2 c2 w
  h12 : b12 = true → b14 = false → ∃ s3 X n1 c1 Y n2 c2, v108 = .agg #[.int .i64 s3, .slice X n1 c1, .slice Y n2 c2] ∧ ChFin te W s3 X n1 c1 Y n2 c2 w
  h14 : b14 = true → ∃ s3 X n1 c1 Y n2 c2 w5, Below W.heap.size W w5 ∧ ChFin te W s3 X n1 c1 Y n2 c2 w5 ∧ w = ((w5.setCell ⟨Pr, 0, none⟩ (.int .i64 s3)).setCell ⟨Pr, 1, none⟩ (.slice X n1 c1)).setCell ⟨Pr, 2, none⟩ (.slice Y n2 c2)
set_option maxHeartbeats 32000000 in
theorem choose_any (st : Int) (A : Option Addr) (c : Nat) (ps : List (Int × Int)) (B : Option Addr) (d : Nat) (hs : List Hd) (lA : Option Addr) (lc : Nat) (ls : List TrH) (w : World) (hp : Pts w A ps) (hN : Nds w B hs) (hls : Trs w lA ls) (ht : TabB w.heap.size w) (hll : ls.length ≤ 1000)
    (bN : Nat) (hb0 : hs.length ≤ bN) (hb1 : ∀ t ∈ ls, t.hs.length ≤ bN) (hbb : bN ^ (ls.length + 1) < 4611686018427387904) :
    Calls Tryd.prog 22 #[.agg #[.int .i64 st, .slice A ps.length c, .slice B hs.length d], .slice lA ls.length lc] w (RetTE (chooseT ⟨st, ps, hs.map Hd.nd⟩ (ls.map TrH.pt)) w) := by
  obtain ⟨w0, hw0⟩ : ∃ w0, w0 = (w.alloc (.cells #[.int .i64 st, .slice A ps.length c, .slice B hs.length d] 25)).alloc (.cells #[.int .i64 0, .slice none 0 0, .slice none 0 0] 25) := ⟨_, rfl⟩
  have hb1' := below_new w (.cells #[.int .i64 st, .slice A ps.length c, .slice B hs.length d] 25)
  have hbw0 : Below w.heap.size w w0 := by rw [hw0]; exact hb1'.alloc hb1'.size _
  have p0 : Blk w0 w.heap.size 25 #[.int .i64 st, .slice A ps.length c, .slice B hs.length d] := by rw [hw0]; exact (Blk.new w _ _).alloc _
  have q0 : Blk w0 (w.heap.size + 1) 25 #[.int .i64 0, .slice none 0 0, .slice none 0 0] := by
    rw [hw0]
    have := Blk.new (w.alloc (.cells #[.int .i64 st, .slice A ps.length c, .slice B hs.length d] 25)) 25 #[.int .i64 0, .slice none 0 0, .slice none 0 0]
    simpa using this
  obtain ⟨bT, hbT⟩ : ∃ bT : TrH, bT = ⟨st, A, ps, c, B, hs, d⟩ := ⟨_, rfl⟩
  have hbpt : bT.pt = ⟨st, ps, hs.map Hd.nd⟩ := by rw [hbT]; rfl
  obtain ⟨res, hres⟩ : ∃ res, res = chooseT ⟨st, ps, hs.map Hd.nd⟩ (ls.map TrH.pt) := ⟨_, rfl⟩
  rw [← hres]
  unfold chooseT at hres
  rw [← hbpt, show bT.pt :: ls.map TrH.pt = (bT :: ls).map TrH.pt from rfl] at hres
  have hts : Trs w0 lA ls := hls.ext hbw0
  have HLS := Lib.hid hts
  have HRES := Lib.hid hres
  have HBT := Lib.hid hbT
  have HPO := Lib.hid hp
  have HP := Lib.hid (hp.ext hbw0)
  have HN := Lib.hid (hN.ext hbw0)
  have HT := Lib.hid (ht.on hbw0)
  have HB0 := Lib.hid hbw0
  have HP0 := Lib.hid p0
  have HQ0 := Lib.hid q0
  have HW0 := Lib.hid hw0
  have HBN := Lib.hid (And.intro hb0 (And.intro hb1 hbb))
  have HLL := Lib.hid hll
  have hpre : Reads w0 w0.heap.size 3 lA ls.length (ls.flatMap TrH.cells) := hts.1
  have hone : ∀ u ∈ ls.flatMap TrH.cells, u.oneCell' = true := by
    intro u hu
    obtain ⟨t, -, ht⟩ := List.mem_flatMap.1 hu
    simp only [TrH.cells, List.mem_cons, List.not_mem_nil, or_false] at ht
    rcases ht with rfl | rfl | rfl <;> rfl
  have HONE := Lib.hid hone
  obtain ⟨i0, hi0, hz0, hz1, hz2⟩ := info_parts Tryd.infoTree
  obtain ⟨w1, hw1⟩ : ∃ w1, w1 = w0.alloc (.cells #[.int .i64 st, .slice A ps.length c, .slice B hs.length d] 25) := ⟨_, rfl⟩
  have hown1 : w1.ownsRow w.heap.size 25 3 (.slice (some ⟨w0.heap.size, 0, none⟩) 1 1) 1 bT.cells := by
    rw [hw1, hbT]
    exact World.ownsRow_lit (base := w.heap.size) (e := 25) (size := 3) w0 #[.int .i64 st, .slice A ps.length c, .slice B hs.length d] 1 hbw0.size (by decide) rfl
  have hb01 : Below w0.heap.size w0 w1 := by rw [hw1]; exact below_new _ _
  have hr1 : Reads w1 w1.heap.size 3 lA ls.length (ls.flatMap TrH.cells) := (Reads.below hpre hb01).more hb01.size
  have hsz1 : w.heap.size ≤ w1.heap.size := Nat.le_trans hbw0.size hb01.size
  have hm1 : 1 + ls.length ≤ maxLen := by unfold maxLen; omega
  have hm2 : (1 + ls.length) * 56 ≤ 140737488355328 := by omega
  have HB01 := Lib.hid hb01
  have HW1 := Lib.hid hw1
  have c0 := p0.cell_ 0 (.int .i64 st) rfl
  have c1 := p0.cell_ 1 (.slice A ps.length c) rfl
  have c2 := p0.cell_ 2 (.slice B hs.length d) rfl
  clear hb1' hbw0 p0 q0 hw0 hp hN hls ht hb0 hb1 hbb hts hpre hone hbT hres hbpt hw1 hb01
  go_enter Tryd.func22, Tryd.ntmps22
  go_upto_region 1 with fail
  rw [← HW0.out]
  clear hll
  go_wp2_with (at_builtin; rw [← HW1.out]; refine wpList_append_any w1 rfl _ _ _ rfl w.heap.size 25 i0 _ 3 56 Tryd.underlying38 hi0 hz0 hz1 hz2 rfl (by decide) _ 1 _ rfl hown1 w1.heap.size lA ls.length lc _ rfl hr1 HONE.out hm1 hm2 hsz1 ?_)
  intro v2 w2 hown2 hg2 hat2
  have hb12 : Below w0.heap.size w0 w2 := HB01.out.trans ((Below.refl w0.heap.size w1).grown hg2 HB01.out.size (fun k hk => by injection hk with hk; rw [← hk]; exact Nat.le_refl _))
  have HB2 := Lib.hid hb12
  obtain ⟨all, hall⟩ : ∃ all, all = bT :: ls := ⟨_, rfl⟩
  have hal : all.length = 1 + ls.length := by rw [hall, List.length_cons, Nat.add_comm]
  obtain ⟨aA, ac, hv2, hra, -⟩ := own_form hown2
  have htrs : Trs w2 aA all := by
    refine ⟨by rw [hal, hall]; exact hra.1, by rw [hal]; exact hra.2, fun t ht => ?_⟩
    rw [hall] at ht
    rcases List.mem_cons.1 ht with ht | ht
    · rw [ht, HBT.out]
      exact ⟨HP.out.ext hb12, HN.out.ext hb12⟩
    · exact ⟨(HLS.out.2.2 t ht).1.ext hb12, (HLS.out.2.2 t ht).2.ext hb12⟩
  rw [← hall] at HRES
  have HALL := Lib.hid hall
  have HTRS := Lib.hid htrs
  have HAL := Lib.hid hal
  rw [← hal] at hv2
  have HALB : Hid (all.length ≤ 1001) := Lib.hid (by rw [hal]; have := HLL.out; omega)
  subst hv2
  clear hown2 hg2 hat2 hb12 hra htrs hall hown1 hr1 hsz1 hm1 hm2 hal
  go_wp2
  go_loopw [23] (fun iv wr => ∃ i : Nat, i ≤ all.length ∧ iv = .int .i64 i ∧ Hid (Below w2.heap.size w2 wr) ∧ Hid (((all.map TrH.pt).take i).any badT = false)) (fun iv _ => all.length - (intOf iv).toNat)
  case atStart => exact ⟨0, Nat.zero_le _, rfl, Lib.hid (Below.refl _ _), Lib.hid (by simp)⟩
  case round =>
    obtain ⟨i, hi, rfl, HBI, HNB⟩ := hrel
    have HBr : Hid (Below w0.heap.size w0 wr) := Lib.hid (HB2.out.trans (HBI.out.mono HB2.out.size))
    have hwi : wrap64 ((i : Int) + 1) = (i : Int) + 1 := by have := HALB.out; unfold wrap64; omega
    by_cases hil : i < all.length
    · obtain ⟨tb, tof, etA, -, h0, h1, h2, hpx, hnx⟩ := (HTRS.out.ext HBI.out).at_ hil
      have hat : (all.map TrH.pt)[i]'(by rw [List.length_map]; exact hil) = (all[i]).pt := List.getElem_map ..
      have HAT := Lib.hid hat
      have HML : Hid (i < (all.map TrH.pt).length) := Lib.hid (by rw [List.length_map]; exact hil)
      have HST2 : Hid (badT (all[i]).pt = false → ((all.map TrH.pt).take (i + 1)).any badT = false) := Lib.hid (fun h => any_take (by rw [List.length_map]; exact hil) HNB.out (by rw [hat]; exact h))
      have HHIT : Hid (badT (all[i]).pt = true → (all.map TrH.pt).any badT = true) := Lib.hid (fun h => any_at (by rw [List.length_map]; exact hil) (by rw [hat]; exact h))
      obtain ⟨x, hx⟩ : ∃ x, x = all[i] := ⟨_, rfl⟩
      rw [← hx] at h0 h1 h2 hpx hnx HST2 HHIT
      clear hat HAT
      obtain ⟨xst, xhA, xps, xhc, xnA, xhs, xnc⟩ := x
      dsimp only at h0 h1 h2 hpx hnx
      have HPX := Lib.hid hpx
      have HNX := Lib.hid hnx
      subst etA
      have HIL := Lib.hid hil
      clear hx hpx hnx
      obtain ⟨wx, hwx⟩ : ∃ wx, wx = wr.alloc (.cells #[.int .i64 xst, .slice xhA xps.length xhc, .slice xnA xhs.length xnc] 25) := ⟨_, rfl⟩
      have hbx : Below wr.heap.size wr wx := by rw [hwx]; exact below_new _ _
      have hgx : Blk wx wr.heap.size 25 #[.int .i64 xst, .slice xhA xps.length xhc, .slice xnA xhs.length xnc] := by rw [hwx]; exact Blk.new _ _ _
      obtain ⟨gX, hgX⟩ : ∃ gX, gX = wr.heap.size := ⟨_, rfl⟩
      have HCALL := Lib.hid (right_any xst xhA xhc xps xnA xnc xhs wx (HPX.out.ext hbx) (HNX.out.ext hbx))
      rw [← hgX] at hgx
      have x0 := hgx.cell_ 0 (.int .i64 xst) rfl
      have x1 := hgx.cell_ 1 (.slice xhA xps.length xhc) rfl
      have x2 := hgx.cell_ 2 (.slice xnA xhs.length xnc) rfl
      have HBX := Lib.hid hbx
      have HWX := Lib.hid hwx
      have HGX := Lib.hid hgX
      clear hbx hgx hwx hgX
      cases hr : rightN xst xps (xhs.map Hd.nd) with
      | false =>
        have HE : Hid (res = (PT.zero, 11)) := Lib.hid (by rw [HRES.out, if_pos (HHIT.out (by show (!rightN xst xps (xhs.map Hd.nd)) = true; rw [hr]; rfl))])
        rw [hr] at HCALL
        clear hr
        go_upto_region 5 with fail
        rw [← HWX.out, ← HGX.out]
        clear h0 h1 h2
        go_wp2_with (go_at_call 27; refine HCALL.out.mono ?_)
        rintro e w9 ⟨rfl, hb9⟩
        have HBr : Hid (Below w0.heap.size w0 w9) := Lib.hid (HBr.out.trans ((HBX.out.trans (hb9.mono HBX.out.size)).mono HBr.out.size))
        clear hb9 x0 x1 x2
        have HBw : Hid (Below w.heap.size w w9) := Lib.hid (HB0.out.trans (HBr.out.mono HB0.out.size))
        have q1 := HQ0.out.below HBr.out HQ0.out.lt
        have HQ1 := Lib.hid q1
        have d0 := q1.cell_ 0 (.int .i64 0) rfl
        have d1x := q1.cell_ 1 (.slice none 0 0) rfl
        have d2 := q1.cell_ 2 (.slice none 0 0) rfl
        have f0 := q1.frozen 0
        have f1 := q1.frozen 1
        have f2 := q1.frozen 2
        clear q1
        go_wp2
        have hq : Blk (((w9.setCell ⟨w.heap.size + 1, 0, none⟩ (.int .i64 0)).setCell ⟨w.heap.size + 1, 1, none⟩ (.slice none 0 0)).setCell ⟨w.heap.size + 1, 2, none⟩ (.slice none 0 0)) (w.heap.size + 1) 25 #[.int .i64 0, .slice none 0 0, .slice none 0 0] := ((HQ1.out.set_ 0 (.int .i64 0)).set_ 1 (.slice none 0 0)).set_ 2 (.slice none 0 0)
        rw [HE.out]
        exact bodyPost_ret (results_ct Tryd.results22 _ _ (w.heap.size + 1) 25 #[.int .i64 0, .slice none 0 0, .slice none 0 0] (0, 0) _ rfl hq Tryd.underlying25 rfl Tryd.sizeTree) rfl
          ⟨_, _, [], rfl, OwnP.nil _ _ _, OwnN.nil _ _ _ _, rfl, ((HBw.out.setCell (p := ⟨w.heap.size + 1, 0, none⟩) (Nat.le_succ _) _).setCell (p := ⟨w.heap.size + 1, 1, none⟩) (Nat.le_succ _) _).setCell (p := ⟨w.heap.size + 1, 2, none⟩) (Nat.le_succ _) _⟩
      | true =>
        have HNX2 : Hid (((all.map TrH.pt).take (i + 1)).any badT = false) := Lib.hid (HST2.out (by show (!rightN xst xps (xhs.map Hd.nd)) = false; rw [hr]; rfl))
        rw [hr] at HCALL
        clear hr
        go_upto_region 5 with fail
        rw [← HWX.out, ← HGX.out]
        clear h0 h1 h2
        go_wp2_with (go_at_call 27; refine HCALL.out.mono ?_)
        rintro e w9 ⟨rfl, hb9⟩
        have HB9 : Hid (Below w2.heap.size w2 w9) := Lib.hid (HBI.out.trans ((HBX.out.trans (hb9.mono HBX.out.size)).mono HBI.out.size))
        clear hb9 x0 x1 x2
        go_wp2
        go_roundw
        case rel => exact ⟨i + 1, HIL.out, (by first | rfl | (rw [hwi]; rfl)), HB9, HNX2⟩
        case measure => (try rw [hwi]); exact meas_step HIL.out
    · have hia : i = all.length := Nat.le_antisymm hi (Nat.le_of_not_lt hil)
      subst hia
      have hnb : (all.map TrH.pt).any badT = false := by
        have := HNB.out
        rwa [List.take_of_length_le (by rw [List.length_map]; exact Nat.le_refl _)] at this
      have HNBA := Lib.hid hnb
      have p1 := HP0.out.below HBr.out HP0.out.lt
      have e0 := p1.cell_ 0 (.int .i64 st) rfl
      have e1 := p1.cell_ 1 (.slice A ps.length c) rfl
      clear p1 hi hil hwi HNB hnb
      by_cases hst : (ls.length : Int) = st
      · have n1 : ((ls.length : Int) != st) = false := by simp [hst]
        have HSTL := Lib.hid hst
        clear hst
        obtain ⟨w3, hw3⟩ : ∃ w3, w3 = wr := ⟨_, rfl⟩
        have HB3 : Hid (Below w0.heap.size w0 w3) := Lib.hid (by rw [hw3]; exact HBr.out)
        have HB23 : Hid (Below w2.heap.size w2 w3) := Lib.hid (by rw [hw3]; exact HBI.out)
        rw [← hw3]
        rw [← hw3] at e0 e1
        clear hw3 HBr HBI
        go_wp2
        clear e0 e1 n1
        go_loopw [40] (fun iv wr => ∃ i : Nat, i ≤ ls.length ∧ iv = .int .i64 i ∧ Hid (Below w3.heap.size w3 wr) ∧ Hid (((ls.map TrH.pt).take i).any (difT bT.pt) = false)) (fun iv _ => ls.length - (intOf iv).toNat)
        case atStart => exact ⟨0, Nat.zero_le _, rfl, Lib.hid (Below.refl _ _), Lib.hid (by simp)⟩
        case round =>
          obtain ⟨i, hi, rfl, HBI, HNB⟩ := hrel
          have HBr : Hid (Below w0.heap.size w0 wr) := Lib.hid (HB3.out.trans (HBI.out.mono HB3.out.size))
          have hwi : wrap64 ((i : Int) + 1) = (i : Int) + 1 := by have := HLL.out; unfold wrap64; omega
          by_cases hil : i < ls.length
          · obtain ⟨tb, tof, etA, -, h0, h1, h2, hpx, hnx⟩ := (HLS.out.ext HBr.out).at_ hil
            have hat : (ls.map TrH.pt)[i]'(by rw [List.length_map]; exact hil) = (ls[i]).pt := List.getElem_map ..
            have HST2 : Hid (difT bT.pt (ls[i]).pt = false → ((ls.map TrH.pt).take (i + 1)).any (difT bT.pt) = false) := Lib.hid (fun h => any_take (by rw [List.length_map]; exact hil) HNB.out (by rw [hat]; exact h))
            have HHIT : Hid (difT bT.pt (ls[i]).pt = true → (ls.map TrH.pt).any (difT bT.pt) = true) := Lib.hid (fun h => any_at (by rw [List.length_map]; exact hil) (by rw [hat]; exact h))
            obtain ⟨x, hx⟩ : ∃ x, x = ls[i] := ⟨_, rfl⟩
            rw [← hx] at h0 h1 h2 hpx hnx HST2 HHIT
            clear hat
            obtain ⟨xst, xhA, xps, xhc, xnA, xhs, xnc⟩ := x
            dsimp only at h0 h1 h2 hpx hnx
            have hdif : difT bT.pt (TrH.mk xst xhA xps xhc xnA xhs xnc).pt = !(decide (xst = st) && decide (xps = ps)) := by rw [HBT.out]; rfl
            rw [hdif] at HST2 HHIT
            have HPX := Lib.hid hpx
            subst etA
            have HIL := Lib.hid hil
            clear hx hpx hnx hdif
            obtain ⟨wx, hwx⟩ : ∃ wx, wx = wr.alloc (.cells #[.int .i64 xst, .slice xhA xps.length xhc, .slice xnA xhs.length xnc] 25) := ⟨_, rfl⟩
            have hbx : Below wr.heap.size wr wx := by rw [hwx]; exact below_new _ _
            have hgx : Blk wx wr.heap.size 25 #[.int .i64 xst, .slice xhA xps.length xhc, .slice xnA xhs.length xnc] := by rw [hwx]; exact Blk.new _ _ _
            obtain ⟨gX, hgX⟩ : ∃ gX, gX = wr.heap.size := ⟨_, rfl⟩
            have HBrx : Hid (Below w0.heap.size w0 wx) := Lib.hid (HBr.out.trans (hbx.mono HBr.out.size))
            have HCALL := Lib.hid (hsame_any xhA A xhc c xps ps wx (HPX.out.ext hbx) (HP.out.ext HBrx.out))
            rw [← hgX] at hgx
            have x0 := hgx.cell_ 0 (.int .i64 xst) rfl
            have x1 := hgx.cell_ 1 (.slice xhA xps.length xhc) rfl
            have p1 := HP0.out.below HBrx.out HP0.out.lt
            have e0 := p1.cell_ 0 (.int .i64 st) rfl
            have e1 := p1.cell_ 1 (.slice A ps.length c) rfl
            have HBX := Lib.hid hbx
            have HWX := Lib.hid hwx
            have HGX := Lib.hid hgX
            clear hbx hgx hwx hgX p1
            by_cases hs1 : xst = st
            · have n2 : (xst != st) = false := by simp [hs1]
              cases hps : decide (xps = ps) with
              | false =>
                have HE : Hid (res = (PT.zero, 2)) := Lib.hid (by
                  have hln : ¬ ((ls.map TrH.pt).length : Int) ≠ bT.pt.st := by rw [List.length_map, HSTL.out, HBT.out]; simp [TrH.pt]
                  rw [HRES.out, if_neg (by rw [HNBA.out]; decide), if_neg hln, if_pos (HHIT.out (by rw [hps]; simp))])
                rw [hps] at HCALL
                clear hps hs1
                go_upto_region 13 with fail
                rw [← HWX.out, ← HGX.out]
                clear h0 h1 h2
                go_wp2_with (go_at_call 36; refine HCALL.out.mono ?_)
                rintro e w9 ⟨rfl, hb9⟩
                have HBr : Hid (Below w0.heap.size w0 w9) := Lib.hid (HBrx.out.trans (hb9.mono HBrx.out.size))
                clear hb9 x0 x1 e0 e1
                have HBw : Hid (Below w.heap.size w w9) := Lib.hid (HB0.out.trans (HBr.out.mono HB0.out.size))
                have q1 := HQ0.out.below HBr.out HQ0.out.lt
                have HQ1 := Lib.hid q1
                have d0 := q1.cell_ 0 (.int .i64 0) rfl
                have d1x := q1.cell_ 1 (.slice none 0 0) rfl
                have d2 := q1.cell_ 2 (.slice none 0 0) rfl
                have f0 := q1.frozen 0
                have f1 := q1.frozen 1
                have f2 := q1.frozen 2
                clear q1
                go_wp2
                have hq : Blk (((w9.setCell ⟨w.heap.size + 1, 0, none⟩ (.int .i64 0)).setCell ⟨w.heap.size + 1, 1, none⟩ (.slice none 0 0)).setCell ⟨w.heap.size + 1, 2, none⟩ (.slice none 0 0)) (w.heap.size + 1) 25 #[.int .i64 0, .slice none 0 0, .slice none 0 0] := ((HQ1.out.set_ 0 (.int .i64 0)).set_ 1 (.slice none 0 0)).set_ 2 (.slice none 0 0)
                rw [HE.out]
                exact bodyPost_ret (results_ct Tryd.results22 _ _ (w.heap.size + 1) 25 #[.int .i64 0, .slice none 0 0, .slice none 0 0] (0, 0) _ rfl hq Tryd.underlying25 rfl Tryd.sizeTree) rfl
                  ⟨_, _, [], rfl, OwnP.nil _ _ _, OwnN.nil _ _ _ _, rfl, ((HBw.out.setCell (p := ⟨w.heap.size + 1, 0, none⟩) (Nat.le_succ _) _).setCell (p := ⟨w.heap.size + 1, 1, none⟩) (Nat.le_succ _) _).setCell (p := ⟨w.heap.size + 1, 2, none⟩) (Nat.le_succ _) _⟩
              | true =>
                have HNX2 : Hid (((ls.map TrH.pt).take (i + 1)).any (difT bT.pt) = false) := Lib.hid (HST2.out (by rw [hps, decide_eq_true hs1]; rfl))
                rw [hps] at HCALL
                clear hps hs1
                go_upto_region 13 with fail
                rw [← HWX.out, ← HGX.out]
                clear h0 h1 h2
                go_wp2_with (go_at_call 36; refine HCALL.out.mono ?_)
                rintro e w9 ⟨rfl, hb9⟩
                have HB9 : Hid (Below w3.heap.size w3 w9) := Lib.hid (HBI.out.trans ((HBX.out.trans (hb9.mono HBX.out.size)).mono HBI.out.size))
                clear hb9 x0 x1 e0 e1
                go_wp2
                go_roundw
                case rel => exact ⟨i + 1, HIL.out, (by first | rfl | (rw [hwi]; rfl)), HB9, HNX2⟩
                case measure => (try rw [hwi]); exact meas_step HIL.out
            · have n2 : (xst != st) = true := by simp [hs1]
              have HE : Hid (res = (PT.zero, 2)) := Lib.hid (by
                have hln : ¬ ((ls.map TrH.pt).length : Int) ≠ bT.pt.st := by rw [List.length_map, HSTL.out, HBT.out]; simp [TrH.pt]
                rw [HRES.out, if_neg (by rw [HNBA.out]; decide), if_neg hln, if_pos (HHIT.out (by rw [decide_eq_false hs1]; rfl))])
              clear hs1
              go_upto_region 13 with fail
              rw [← HWX.out, ← HGX.out]
              have HBr : Hid (Below w0.heap.size w0 wx) := HBrx
              clear h0 h1 h2
              have HBw : Hid (Below w.heap.size w wx) := Lib.hid (HB0.out.trans (HBr.out.mono HB0.out.size))
              have q1 := HQ0.out.below HBr.out HQ0.out.lt
              have HQ1 := Lib.hid q1
              have d0 := q1.cell_ 0 (.int .i64 0) rfl
              have d1x := q1.cell_ 1 (.slice none 0 0) rfl
              have d2 := q1.cell_ 2 (.slice none 0 0) rfl
              have f0 := q1.frozen 0
              have f1 := q1.frozen 1
              have f2 := q1.frozen 2
              clear q1
              go_wp2
              have hq : Blk (((wx.setCell ⟨w.heap.size + 1, 0, none⟩ (.int .i64 0)).setCell ⟨w.heap.size + 1, 1, none⟩ (.slice none 0 0)).setCell ⟨w.heap.size + 1, 2, none⟩ (.slice none 0 0)) (w.heap.size + 1) 25 #[.int .i64 0, .slice none 0 0, .slice none 0 0] := ((HQ1.out.set_ 0 (.int .i64 0)).set_ 1 (.slice none 0 0)).set_ 2 (.slice none 0 0)
              rw [HE.out]
              exact bodyPost_ret (results_ct Tryd.results22 _ _ (w.heap.size + 1) 25 #[.int .i64 0, .slice none 0 0, .slice none 0 0] (0, 0) _ rfl hq Tryd.underlying25 rfl Tryd.sizeTree) rfl
                ⟨_, _, [], rfl, OwnP.nil _ _ _, OwnN.nil _ _ _ _, rfl, ((HBw.out.setCell (p := ⟨w.heap.size + 1, 0, none⟩) (Nat.le_succ _) _).setCell (p := ⟨w.heap.size + 1, 1, none⟩) (Nat.le_succ _) _).setCell (p := ⟨w.heap.size + 1, 2, none⟩) (Nat.le_succ _) _⟩
          · have hia : i = ls.length := Nat.le_antisymm hi (Nat.le_of_not_lt hil)
            subst hia
            have hnd : (ls.map TrH.pt).any (difT bT.pt) = false := by
              have := HNB.out
              rwa [List.take_of_length_le (by rw [List.length_map]; exact Nat.le_refl _)] at this
            have HND := Lib.hid hnd
            clear hi hil hwi HNB hnd
            have hmm := @run_makeMap Tryd.prog
            go_upto_region 17 with fail
            obtain ⟨wc, hwc⟩ : ∃ wc, wc = ((wr.alloc (.map #[] 0)).alloc (.map #[] 0)).alloc (.cells #[.slice none 0 0, .map (some wr.heap.size), .slice none 0 0, .map (some (wr.heap.size + 1))] 66) := ⟨_, rfl⟩
            obtain ⟨hbc, hpc, hm1, hm2⟩ := madeC wr wc hwc
            obtain ⟨wq, hwq⟩ : ∃ wq, wq = wr := ⟨_, rfl⟩
            obtain ⟨M, hM⟩ : ∃ M, M = wr.heap.size := ⟨_, rfl⟩
            obtain ⟨M2, hM2⟩ : ∃ M2, M2 = wr.heap.size + 1 := ⟨_, rfl⟩
            obtain ⟨p, hpe⟩ : ∃ p, p = wr.heap.size + 1 + 1 := ⟨_, rfl⟩
            rw [← hpe, ← hM2, ← hM] at hpc
            rw [← hM] at hm1
            rw [← hM2] at hm2
            have HC3 : Hid (Ch3 wq p M M2 (.slice none 0 0) (.slice none 0 0) [] [] wc) := Lib.hid (by
              rw [hwq]
              exact ⟨OwnTr.nil _ _, hpc, hm1, hm2, OwnI.nil _ _ _, fun t ht => absurd ht (by simp), hbc, ⟨by omega, by omega, by omega⟩, by omega⟩)
            have HBq : Hid (Below w0.heap.size w0 wq) := Lib.hid (by rw [hwq]; exact HBr.out)
            have HB2q : Hid (Below w2.heap.size w2 wq) := Lib.hid (by rw [hwq]; exact HB23.out.trans (HBI.out.mono HB23.out.size))
            rw [← hwc, ← hpe, ← hM2, ← hM]
            clear hwc hbc hpc hm1 hm2 hwq hM hM2 hpe hmm HBr HBI
            go_wp2
            go_loopw [12, 65] (fun rv iv wr => ∃ (i : Nat) (tv : Value) (done : List TrH), i ≤ all.length ∧ iv = .int .i64 i ∧ Hid (done.map TrH.pt = ((all.map TrH.pt).take i).map redT) ∧ Hid (Ch3 wq p M M2 rv tv done (((all.map TrH.pt).take i).map fun t => rootOf (redT t)) wr)) (fun _ iv _ => all.length - (intOf iv).toNat)
            case atStart => exact ⟨0, _, [], Nat.zero_le _, rfl, Lib.hid (by simp), Lib.hid (by simpa using HC3.out)⟩
            case round =>
              clear HC3
              obtain ⟨i, tv, done, hi, rfl, HDN, HC3⟩ := hrel
              obtain ⟨rs, hrs⟩ : ∃ rs, rs = ((all.map TrH.pt).take i).map (fun t => rootOf (redT t)) := ⟨_, rfl⟩
              have hrsl : rs.length < 1000000000000 := by
                rw [hrs, List.length_map, List.length_take, List.length_map]
                have := HALB.out
                omega
              rw [← hrs] at HC3
              have HRS := Lib.hid hrs
              have HRSL := Lib.hid hrsl
              clear hrs hrsl
              have HBr : Hid (Below w0.heap.size w0 wr) := Lib.hid (HBq.out.trans (HC3.out.below.mono HBq.out.size))
              have hwi : wrap64 ((i : Int) + 1) = (i : Int) + 1 := by have := HALB.out; unfold wrap64; omega
              by_cases hil : i < all.length
              · obtain ⟨tb, tof, etA, -, h0, h1, h2, hpx, hnx⟩ := (HTRS.out.ext (HB2q.out.trans (HC3.out.below.mono HB2q.out.size))).at_ hil
                have HTK : Hid ((all.map TrH.pt).take (i + 1) = (all.map TrH.pt).take i ++ [(all[i]).pt]) := Lib.hid (by
                  rw [List.take_succ_eq_append_getElem (by rw [List.length_map]; exact hil), List.getElem_map])
                have HRT : Hid ((all[i]).pt.right = true) := Lib.hid (by
                  have h := HNBA.out
                  rw [List.any_eq_false] at h
                  have h2 := h (all[i]).pt (List.mem_map.2 ⟨_, List.getElem_mem hil, rfl⟩)
                  unfold badT at h2
                  simpa using h2)
                obtain ⟨x, hx⟩ : ∃ x, x = all[i] := ⟨_, rfl⟩
                rw [← hx] at h0 h1 h2 hpx hnx HTK HRT
                obtain ⟨xst, xhA, xps, xhc, xnA, xhs, xnc⟩ := x
                dsimp only at h0 h1 h2 hpx hnx
                subst etA
                have HIL := Lib.hid hil
                obtain ⟨wx, hwx⟩ : ∃ wx, wx = wr.alloc (.cells #[.int .i64 xst, .slice xhA xps.length xhc, .slice xnA xhs.length xnc] 25) := ⟨_, rfl⟩
                have hbx : Below wr.heap.size wr wx := by rw [hwx]; exact below_new _ _
                have hgx : Blk wx wr.heap.size 25 #[.int .i64 xst, .slice xhA xps.length xhc, .slice xnA xhs.length xnc] := by rw [hwx]; exact Blk.new _ _ _
                obtain ⟨gX, hgX⟩ : ∃ gX, gX = wr.heap.size := ⟨_, rfl⟩
                have HBrx : Hid (Below w0.heap.size w0 wx) := Lib.hid (HBr.out.trans (hbx.mono HBr.out.size))
                have hcall := reduce_any xst xhA xhc xps xnA xnc xhs wx (hpx.ext hbx) (hnx.ext hbx) ((HT.out.on (HBrx.out.mono HB0.out.size)).up (Nat.le_trans HB0.out.size HBrx.out.size))
                have HPTE : Hid ((TrH.mk xst xhA xps xhc xnA xhs xnc).pt = ⟨xst, xps, xhs.map Hd.nd⟩) := Lib.hid rfl
                obtain ⟨rt, hrt⟩ : ∃ rt, rt = redT ⟨xst, xps, xhs.map Hd.nd⟩ := ⟨_, rfl⟩
                rw [← hrt] at hcall
                have HCALL := Lib.hid hcall
                have HRTE := Lib.hid hrt
                rw [← hgX] at hgx
                have x0 := hgx.cell_ 0 (.int .i64 xst) rfl
                have x1 := hgx.cell_ 1 (.slice xhA xps.length xhc) rfl
                have x2 := hgx.cell_ 2 (.slice xnA xhs.length xnc) rfl
                have HGB := Lib.hid hgx
                have HBX := Lib.hid hbx
                have HWX := Lib.hid hwx
                have HGX := Lib.hid hgX
                clear hx hpx hnx hbx hgx hwx hgX hcall hrt hi
                go_upto_region 21 with fail
                rw [← HWX.out, ← HGX.out]
                clear h0 h1 h2
                go_wp2_with (go_at_call 12; refine HCALL.out.mono ?_; intro e w9 hrt9; obtain ⟨A9, c9, B9, d9, os9, rfl, hP9, hN9, -, -, he9, hb9⟩ := RetTree.form hrt9; refine Hid.out ?_)
                refine Lib.hid ?_
                have hg9 := HGB.out.below hb9 HGB.out.lt
                have x0 := hg9.cell_ 0 (.int .i64 xst) rfl
                have x1 := hg9.cell_ 1 (.slice xhA xps.length xhc) rfl
                have x2 := hg9.cell_ 2 (.slice xnA xhs.length xnc) rfl
                have f0 := hg9.frozen 0
                have f1 := hg9.frozen 1
                have f2 := hg9.frozen 2
                obtain ⟨wb, hwb⟩ : ∃ wb, wb = ((w9.setCell ⟨gX, 0, none⟩ (.int .i64 rt.st)).setCell ⟨gX, 1, none⟩ (.slice A9 rt.ps.length c9)).setCell ⟨gX, 2, none⟩ (.slice B9 os9.length d9) := ⟨_, rfl⟩
                have hgb : Blk wb gX 25 #[.int .i64 rt.st, .slice A9 rt.ps.length c9, .slice B9 os9.length d9] := by rw [hwb]; exact ((hg9.set_ 0 (.int .i64 rt.st)).set_ 1 (.slice A9 rt.ps.length c9)).set_ 2 (.slice B9 os9.length d9)
                have hkb : Kept (fun g => g = gX) w9 wb := by rw [hwb]; exact (((Kept.refl (fun g => g = gX) w9).setCell (p := ⟨gX, 0, none⟩) (Or.inl rfl) _).setCell (p := ⟨gX, 1, none⟩) (Or.inl rfl) _).setCell (p := ⟨gX, 2, none⟩) (Or.inl rfl) _
                have hbx9 : Below wr.heap.size wr w9 := HBX.out.trans (hb9.mono HBX.out.size)
                have hbb : Below wr.heap.size wr wb := hbx9.trans (hkb.to_below hbx9.size (fun g hg e => by rw [e, HGX.out] at hg; exact Nat.lt_irrefl _ hg))
                have HC3b := Lib.hid (HC3.out.ext hbb)
                have hPb : OwnP 49 wb wx.heap.size (.slice A9 rt.ps.length c9) rt.ps := hkb.own hP9 (fun g e1 e2 => by subst e2; exact own_blk_ne' hP9 hg9 (by decide) e1)
                have hNb : OwnNA wb wx.heap.size (.slice B9 os9.length d9) os9 := hN9.kept hkb (fun g e1 e2 => by subst e2; exact own_blk_ne' hN9.1 hg9 (by decide) e1) (fun x hx g e1 e2 => by subst e2; exact own_blk_ne' (hN9.2 x hx) hg9 (by decide) e1)
                have hqx : wq.heap.size ≤ wx.heap.size := Nat.le_trans HC3.out.below.size HBX.out.size
                have hPq : OwnP 49 wb wq.heap.size (.slice A9 rt.ps.length c9) rt.ps := hPb.down hqx
                have hNq : OwnNA wb wq.heap.size (.slice B9 os9.length d9) os9 := ⟨own_down hNb.1 hqx, fun x hx => (hNb.2 x hx).down hqx⟩
                have HNX : Hid (∀ x ∈ os9, ∀ g, x.val.ownBlock = some g → u12.ownBlock ≠ some g) := Lib.hid (fun x hx g e1 e2 => by
                  have h1 := (own_lt' (hNb.2 x hx) e1).2
                  have h2 := (own_lt' HC3.out.rr e2).1
                  exact Nat.lt_irrefl _ (Nat.lt_of_lt_of_le h2 (Nat.le_trans HBX.out.size h1)))
                have HGLT : Hid (∀ g, tv.ownBlock = some g → g ≠ gX) := Lib.hid (fun g e e2 => by
                  have h1 := (own_lt' HC3.out.tr.1 e).1
                  rw [e2, HGX.out] at h1
                  exact Nat.lt_irrefl _ h1)
                have HGB2 := Lib.hid hgb
                have HOS := Lib.hid he9
                have HWB := Lib.hid hwb
                have hdl : done.length < 1000000000000 := by
                  have h := congrArg List.length HDN.out
                  rw [List.length_map, List.length_map, List.length_take, List.length_map] at h
                  have := HALB.out
                  omega
                have hwbs : wq.heap.size ≤ wb.heap.size := HC3b.out.below.size
                have htr := HC3b.out.tr
                have hcp2 := HC3b.out.blk.cell_ 2 tv rfl
                have hgb0 := hgb.cell_ 0 (.int .i64 rt.st) rfl
                have hgb1 := hgb.cell_ 1 (.slice A9 rt.ps.length c9) rfl
                have hgb2 := hgb.cell_ 2 (.slice B9 os9.length d9) rfl
                obtain ⟨tA, tc, htv, -, -⟩ := htr.trs
                subst htv
                clear hg9 hwb hgb hkb hbx9 hbb hPb hNb hqx he9 hb9 hP9 hN9 hrt9 hil HCALL
                go_upto_region 22 with fail
                rw [← HWB.out]
                clear x0 x1 x2 f0 f1 f2
                go_wp2_with (at_builtin; refine wpList_pushT rfl _ _ _ rfl wq.heap.size Tryd.underlying38 _ done rfl htr _ _ _ _ _ _ _ _ _ (Lib.hid rfl) (Lib.hid rfl) hPq hNq rfl hdl hwbs ?_)
                intro tv' wd hod hkd hmd
                obtain ⟨tA', tc', htv', -, -⟩ := hod.trs
                rw [List.length_append, List.length_singleton] at htv'
                have hpd := hkd.blk HC3b.out.blk (own_blk_ne' htr.1 HC3b.out.blk (by decide))
                have hpd2 := hpd.cell_ 2 (.slice tA done.length tc) rfl
                have hpf2 := hpd.frozen 2
                have hgd := hkd.blk HGB2.out (fun e => HGLT.out gX e rfl)
                have hpg : gX ≠ p := fun e => Blk.ne_ HGB2.out HC3b.out.blk (by decide) e
                obtain ⟨we, hwe⟩ : ∃ we, we = wd.setCell ⟨p, 2, none⟩ tv' := ⟨_, rfl⟩
                have hC3e := HC3b.out.pushT hod hkd HNX.out
                rw [← hwe] at hC3e
                have hge : Blk we gX 25 #[.int .i64 rt.st, .slice A9 rt.ps.length c9, .slice B9 os9.length d9] := by rw [hwe]; exact hgd.far (p := ⟨p, 2, none⟩) hpg _
                have hge2 := hge.cell_ 2 (.slice B9 os9.length d9) rfl
                have HC3e := Lib.hid hC3e
                have HWE := Lib.hid hwe
                have hrr := hC3e.rr
                have hrl := HRSL.out
                have hwes : wq.heap.size ≤ we.heap.size := hC3e.below.size
                have hosl : wrap64 ((os9.length : Int) - 1) = rootOf rt := by
                  unfold rootOf
                  rw [← HOS.out, List.length_map]
                  have : os9.length ≤ 9223372036854775807 := by
                    obtain ⟨A', c', e', hnn, -⟩ := hNq.nds
                    exact hnn.le
                  unfold wrap64
                  omega
                have HOSL := Lib.hid hosl
                subst htv'
                clear hod hkd hmd hpd hgd hpg hwe hC3e hge htr hcp2 hgb0 hgb1 hgb2 hPq hNq hwbs hdl
                go_upto_region 23 with fail
                rw [← HWE.out]
                clear hpd2 hpf2
                go_wp2_with (at_builtin; refine wpList_pushIk rfl _ _ _ rfl wq.heap.size 3 Tryd.underlying31 Tryd.infoInt _ _ rfl hrr _ rfl hrl hwes ?_)
                intro rv' wf hof hkf hmf
                have HC3f := Lib.hid (HC3e.out.pushR hof hkf hmf)
                clear hof hkf hmf hrr hrl hwes hge2
                have HRS2 : Hid (rs ++ [rootOf rt] = ((all.map TrH.pt).take (i + 1)).map (fun t => rootOf (redT t))) := Lib.hid (by
                  rw [HTK.out, List.map_append, HRS.out, HRTE.out, HPTE.out]
                  rfl)
                have HDN2 : Hid ((done ++ [(⟨rt.st, A9, rt.ps, c9, B9, os9, d9⟩ : TrH)]).map TrH.pt = ((all.map TrH.pt).take (i + 1)).map redT) := Lib.hid (by
                  have h9 : (⟨rt.st, rt.ps, os9.map Hd.nd⟩ : PT) = rt := by rw [HOS.out]
                  rw [HTK.out, List.map_append, List.map_append, HDN.out, HPTE.out]
                  congr 1
                  rw [List.map_cons, List.map_cons, List.map_nil, List.map_nil, ← HRTE.out]
                  exact congrArg (fun t => [t]) h9)
                go_wp2
                go_roundw
                case rel => exact ⟨i + 1, _, _, HIL.out, (by first | rfl | (rw [hwi]; rfl)), HDN2, Lib.hid (by rw [← HRS2.out]; exact HC3f.out)⟩
                case measure => (try rw [hwi]); exact meas_step HIL.out
              · have hia : i = all.length := Nat.le_antisymm hi (Nat.le_of_not_lt hil)
                subst hia
                have hdn : done.map TrH.pt = (all.map TrH.pt).map redT := by
                  have := HDN.out
                  rwa [List.take_of_length_le (by rw [List.length_map]; exact Nat.le_refl _)] at this
                have hrs : rs = (all.map TrH.pt).map (fun t => rootOf (redT t)) := by
                  have := HRS.out
                  rwa [List.take_of_length_le (by rw [List.length_map]; exact Nat.le_refl _)] at this
                obtain ⟨t1, t2, t3, t4, t5, t6, t7⟩ := chs_trees (all := all.map TrH.pt) (b := bT.pt) (l := ls.map TrH.pt) (by rw [HALL.out]; rfl) HNBA.out (by rw [List.length_map, HSTL.out, HBT.out]; rfl) HND.out
                have hbst : bT.pt.st = st := by rw [HBT.out]; rfl
                have hbps : bT.pt.ps = ps := by rw [HBT.out]; rfl
                have hln : ¬ ((ls.map TrH.pt).length : Int) ≠ bT.pt.st := by rw [List.length_map, HSTL.out, hbst]; simp
                have hres2 := HRES.out
                rw [if_neg (by rw [HNBA.out]; decide), if_neg hln, if_neg (by rw [HND.out]; decide), hbst, hbps, ← hrs, ← chs_nds hdn] at hres2
                rw [hbst, ← chs_nds hdn] at t1
                rw [hbst, hbps, ← chs_nds hdn, ← hrs] at t2
                rw [hbst] at t4 t5
                rw [hbps] at t6 t7
                obtain ⟨pr, hpr⟩ : ∃ pr, pr = prodC (done.map TrH.nds) st.toNat ps.length rs ([], []) := ⟨_, rfl⟩
                rw [← hpr] at hres2
                have HRES2 := Lib.hid hres2
                obtain ⟨tA, tc, htv, -, -⟩ := HC3.out.tr.trs
                subst htv
                obtain ⟨rA, rc, hrv, -, -⟩ := HC3.out.rr.ints
                have hlo := HC3.out.lo
                have hww : w.heap.size ≤ wq.heap.size := Nat.le_trans HB0.out.size HBq.out.size
                have hch : Chs wr w.heap.size p M M2 tA tc done #[.slice none 0 0, .map (some M), .slice tA done.length tc, .map (some M2)] (.slice none 0 0) [] (.map []) (.map []) ([], []) wr :=
                  ⟨⟨HC3.out.blk, rfl, rfl, OwnN.nil _ _ _ _, HC3.out.m1, Known.nil, Nat.le_trans hww hlo.1, Nat.le_trans hww hlo.2.1⟩, rfl, rfl, rfl, HC3.out.m2, KnownM.nil, HC3.out.ne, Kept.refl _ _, fun g e => by simp [Value.ownBlock] at e, HC3.out.blk.lt, HC3.out.m1.lt, HC3.out.m2.lt⟩
                have hbwr : Below w.heap.size w wr := HB0.out.trans (HBr.out.mono HB0.out.size)
                have hTl : (done.map TrH.nds).length = ls.length + 1 := by rw [t1.1]; have := HSTL.out; omega
                have hdst : ∀ t ∈ done, t.st = ((st.toNat : Nat) : Int) := fun t ht => by
                  have h1 : t.pt ∈ done.map TrH.pt := List.mem_map.2 ⟨t, ht, rfl⟩
                  rw [hdn] at h1
                  obtain ⟨x, hx, e⟩ := List.mem_map.1 h1
                  have h2 := (t3 x hx).1
                  rw [e, hbst] at h2
                  have h3 : t.pt.st = t.st := rfl
                  omega
                have hdlen : ∀ i, i < (done.map TrH.nds).length → ((done.map TrH.nds).getD i []).length ≤ bN := fun i hi => by
                  rw [chs_nds hdn] at hi ⊢
                  rw [List.length_map, List.length_map] at hi
                  rw [List.getD_eq_getElem?_getD, List.getElem?_map, List.getElem?_map, List.getElem?_eq_getElem hi]
                  show (redT (all[i]).pt).ns.length ≤ bN
                  have hm := List.getElem_mem hi
                  obtain ⟨-, -, -, -, o5, -⟩ := redT_ok (t3 _ (List.mem_map.2 ⟨_, hm, rfl⟩)).2.2
                  refine Nat.le_trans o5 ?_
                  show ((all[i]).hs.map Hd.nd).length ≤ bN
                  rw [List.length_map]
                  have hm2 : all[i] ∈ bT :: ls := by rw [← HALL.out]; exact hm
                  rcases List.mem_cons.1 hm2 with e | e
                  · rw [e, HBT.out]; exact HBN.out.1
                  · exact HBN.out.2.1 _ e
                have hd4 : ∀ i, i < (done.map TrH.nds).length → ((done.map TrH.nds).getD i []).length ≤ 1000000 := fun i hi => by
                  rw [chs_nds hdn] at hi ⊢
                  rw [List.length_map, List.length_map] at hi
                  rw [List.getD_eq_getElem?_getD, List.getElem?_map, List.getElem?_map, List.getElem?_eq_getElem hi]
                  show (redT (all[i]).pt).ns.length ≤ 1000000
                  have hrr := (t3 _ (List.mem_map.2 ⟨_, List.getElem_mem hi, rfl⟩)).2.2
                  obtain ⟨-, -, -, -, o5, -⟩ := redT_ok hrr
                  obtain ⟨c1, c2, c3, c4, c5, -⟩ := rightN_parts hrr
                  omega
                have hcall := product_any wr w.heap.size p M M2 tA tc done st.toNat t1 hdst (by omega) (by omega) hd4 (fun w' hk => by
                    obtain ⟨A', c', e', ht', -⟩ := (HC3.out.tr.chs HC3.out.blk HC3.out.m1 HC3.out.m2 hk).trs
                    injection e' with e1 e2 e3
                    rw [e1]
                    exact ht') bN hdlen (by rw [hTl]; exact HBN.out.2.2) (fun _ _ => True) (fun _ _ _ _ _ => trivial) hbwr.size (Nat.le_trans hww hlo.1) (Nat.le_trans hww hlo.2.1) (Nat.le_trans hww hlo.2.2) (HT.out.on (HBr.out.mono HB0.out.size))
                  ps.length rs rA rc ([], []) _ _ [] _ _ wr (by omega) hch (CInv.start _ _ _) t2 trivial (fun w' hk => by
                    have h8 : w'.ownsRow wq.heap.size 3 1 u12 rs.length (rs.map (Value.int .i64)) := hk.own HC3.out.rr (fun g e1 e2 => by
                      rcases e2 with e2 | e2 | e2 | e2
                      · subst e2; exact own_blk_ne' HC3.out.rr HC3.out.blk (by decide) e1
                      · subst e2; exact own_map_ne HC3.out.rr HC3.out.m1 e1
                      · subst e2; exact own_map_ne HC3.out.rr HC3.out.m2 e1
                      · simp [Value.ownBlock] at e2)
                    rw [hrv] at h8
                    exact OwnI.reads (I := 3) h8)
                rw [← hpr] at hcall
                have HCALL := Lib.hid hcall
                have HPOK := Lib.hid (prodC_ok t1 (fun _ _ _ _ _ => trivial) ps.length rs ([], []) (CInv.start _ _ (fun _ _ => True)) t2 trivial)
                rw [← hpr] at HPOK
                have HT4 := Lib.hid (And.intro t4 (And.intro t5 (And.intro t6 t7)))
                have HLO := Lib.hid (And.intro hww hlo)
                have p1 := HP0.out.below HBr.out HP0.out.lt
                have e0 := p1.cell_ 0 (.int .i64 st) rfl
                have e1 := p1.cell_ 1 (.slice A ps.length c) rfl
                subst hrv
                clear hdn hrs hil hi hwi HDN HRS t1 t2 t3 t4 t5 t6 t7 hln hres2 hpr hlo hww hch hbwr hTl hdst hdlen hd4 hcall hbst hbps p1
                cases pr with
                | none =>
                  have HE : Hid (res = (PT.zero, 6)) := HRES2
                  go_wp2_with (go_at_call 44; refine HCALL.out.mono ?_; rintro e w9 ⟨hk9, k9, rfl⟩; refine Hid.out ?_)
                  refine Lib.hid ?_
                  have HBr : Hid (Below w0.heap.size w0 w9) := Lib.hid (HBr.out.trans (hk9.to_below HBr.out.size (fun g hg e => by
                    have h1 := HLO.out.2
                    have h2 := HBq.out.size
                    rcases e with e | e | e | e
                    · omega
                    · omega
                    · omega
                    · simp [Value.ownBlock] at e)))
                  clear hk9 e0 e1
                  have HBw : Hid (Below w.heap.size w w9) := Lib.hid (HB0.out.trans (HBr.out.mono HB0.out.size))
                  have q1 := HQ0.out.below HBr.out HQ0.out.lt
                  have HQ1 := Lib.hid q1
                  have d0 := q1.cell_ 0 (.int .i64 0) rfl
                  have d1x := q1.cell_ 1 (.slice none 0 0) rfl
                  have d2 := q1.cell_ 2 (.slice none 0 0) rfl
                  have f0 := q1.frozen 0
                  have f1 := q1.frozen 1
                  have f2 := q1.frozen 2
                  clear q1
                  go_wp2
                  have hq : Blk (((w9.setCell ⟨w.heap.size + 1, 0, none⟩ (.int .i64 0)).setCell ⟨w.heap.size + 1, 1, none⟩ (.slice none 0 0)).setCell ⟨w.heap.size + 1, 2, none⟩ (.slice none 0 0)) (w.heap.size + 1) 25 #[.int .i64 0, .slice none 0 0, .slice none 0 0] := ((HQ1.out.set_ 0 (.int .i64 0)).set_ 1 (.slice none 0 0)).set_ 2 (.slice none 0 0)
                  rw [HE.out]
                  exact bodyPost_ret (results_ct Tryd.results22 _ _ (w.heap.size + 1) 25 #[.int .i64 0, .slice none 0 0, .slice none 0 0] (0, 0) _ rfl hq Tryd.underlying25 rfl Tryd.sizeTree) rfl
                    ⟨_, _, [], rfl, OwnP.nil _ _ _, OwnN.nil _ _ _ _, rfl, ((HBw.out.setCell (p := ⟨w.heap.size + 1, 0, none⟩) (Nat.le_succ _) _).setCell (p := ⟨w.heap.size + 1, 1, none⟩) (Nat.le_succ _) _).setCell (p := ⟨w.heap.size + 1, 2, none⟩) (Nat.le_succ _) _⟩
                | some kv =>
                  obtain ⟨k, s5⟩ := kv
                  obtain ⟨kn, hkn⟩ : ∃ kn : Nat, k = kn := ⟨k.toNat, by have := HPOK.out.2.2.1; omega⟩
                  subst hkn
                  go_wp2_with (go_at_call 44; refine HCALL.out.mono ?_; rintro e w9 ⟨hk9, cs9, nv9, hs9, D9, E9, rfl, hc9, hm9, hn9⟩; refine Hid.out ?_)
                  refine Lib.hid ?_
                  have HB9 : Hid (Below w0.heap.size w0 w9) := Lib.hid (HBr.out.trans (hk9.to_below HBr.out.size (fun g hg e => by
                    have h1 := HLO.out.2
                    have h2 := HBq.out.size
                    rcases e with e | e | e | e
                    · omega
                    · omega
                    · omega
                    · simp [Value.ownBlock] at e)))
                  obtain ⟨nA, nc, hnv, hnds, -⟩ := hc9.bld.own.nds
                  have hpk := HPOK.out
                  have hl1 := hpk.2.2.2.2.1 HT4.out.2.2.1
                  have hhs : hs9.length = s5.1.length := by rw [← hc9.eq, List.length_map]
                  have HORD : Hid (∀ W, Below w9.heap.size w9 W → Calls Tryd.prog 47 #[.slice nA hs9.length nc, .int .i64 kn] W (RetNds (ord s5.1 100 kn) W)) := Lib.hid (fun W hW => by
                    have := ordered_any nA nc hs9 W (hnds.ext hW) st.toNat (· < s5.1.length) (by have := HT4.out.1; omega) (by have := HT4.out.2.1; omega) (by rw [hc9.eq]; exact hpk.1.v.lev) (by have := hpk.1.le; omega) 100 kn (by rw [hc9.eq]; have h7 := hl1.2; rw [Int.toNat_natCast] at h7; rw [h7]; have := HT4.out.2.2.2; omega) (by have := hl1.1; simpa using this)
                    rw [hc9.eq] at this
                    exact this)
                  have HCLO : Hid (∀ W, Below w9.heap.size w9 W → Calls Tryd.prog 46 #[.slice A ps.length c] W fun e w' => ∃ v, e = .returned v ∧ OwnP 49 w' W.heap.size v ps ∧ Below W.heap.size W w') := Lib.hid (fun W hW => clone_pts A c ps W ((HP.out.ext HB9.out).ext hW) (by have := HT4.out.2.2.2; omega))
                  obtain ⟨ns, hns⟩ : ∃ ns, ns = ord s5.1 100 kn := ⟨_, rfl⟩
                  rw [← hns] at HORD
                  have HTE : Hid (res = if 4096 < ns.length then (PT.zero, 6) else (⟨st, ps, ns⟩, 0)) := Lib.hid (by
                    have h : res = if 4096 < (ord s5.1 100 ((kn : Int)).toNat).length then (PT.zero, 6) else (⟨st, ps, ord s5.1 100 ((kn : Int)).toNat⟩, 0) := HRES2.out
                    rw [Int.toNat_natCast, ← hns] at h
                    exact h)
                  have hcc0 := hc9.bld.blk.cell_ 0 _ hc9.bld.c0
                  rw [hnv] at hcc0
                  have q9 := HQ0.out.below HB9.out HQ0.out.lt
                  have p9 := HP0.out.below HB9.out HP0.out.lt
                  have HQ9 := Lib.hid q9
                  have HP9 := Lib.hid p9
                  have HCE : Hid ((p < w9.heap.size ∧ w9.cell? ⟨p, 0, none⟩ = some (.slice nA hs9.length nc))) := Lib.hid ⟨hc9.bld.blk.lt, hcc0⟩
                  have HBw9 : Hid (Below w.heap.size w w9) := Lib.hid (HB0.out.trans (HB9.out.mono HB0.out.size))
                  clear hk9 e0 e1 hc9 hm9 hn9 hnv hnds hpk hl1 hhs hns hcc0 q9 p9
                  go_upto_region 28 with fail
                  refine wp_region_J (by kernel_rfl) (fun listed act w' => ∃ b0 b1 b2 b3 b4 b5 b6 b7 b8 b9 b10 b11 b12 b13 b14 b15 v96 v97 v98 v99 v100 v101 v102 v103 v104 v105 v106 v107 v108 v109 v5, listed = #[b0, b1, b2, b3, b4, b5, b6, b7, b8, b9, b10, b11, b12, b13, b14, b15] ∧ act = Act.mk #[.agg #[.int .i64 st, .slice A ps.length c, .slice B hs.length d], .slice lA ls.length lc, .pointer (some ⟨w.heap.size, 0, none⟩), undef, .pointer (some ⟨w.heap.size + 1, 0, none⟩), v5, .slice aA all.length ac, undef, u8, undef, u10, .pointer (some ⟨p, 0, none⟩), .slice rA rs.length rc, undef, u14, .int .i64 kn, .bool true, .agg #[.int .i64 st, .slice A ps.length c, .slice B hs.length d], .slice (some ⟨w0.heap.size, 0, none⟩) 1 1, .slice lA ls.length lc, .slice aA all.length ac, .slice aA all.length ac, .int .i64 all.length, .int .i64 all.length, .bool false, u25, u26, u27, u28, u29, u30, u31, .slice lA ls.length lc, .int .i64 ls.length, .pointer (some ⟨w.heap.size, 0, none⟩), .int .i64 st, .bool false, undef, .slice lA ls.length lc, .int .i64 ls.length, .int .i64 ls.length, .bool false, u42, u43, u44, u45, u46, u47, u48, u49, u50, u51, u52, u53, u54, u55, u56, u57, u58, .map (some M), .agg #[.slice none 0 0, .map (some M)], .map (some M2), .agg #[.slice none 0 0, .map (some M), .slice none 0 0, .map (some M2)], .slice aA all.length ac, .int .i64 all.length, .int .i64 all.length, .bool false, u67, u68, u69, u70, u71, u72, u73, u74, u75, u76, u77, u78, u79, u80, u81, u82, u83, u84, .tuple #[.int .i64 kn, .bool true], .pointer (some ⟨w.heap.size, 1, none⟩), .slice A ps.length c, .int .i64 ps.length, .slice rA rs.length rc, .tuple #[.int .i64 kn, .bool true], .int .i64 kn, .bool true, .bool true, .bool false, undef, v96, v97, v98, v99, v100, v101, v102, v103, v104, v105, v106, v107, v108, v109] [] ∧ ChJ w9 w.heap.size (w.heap.size + 1) p st A ps c nA hs9.length nc kn ns res b0 b1 b2 b3 b4 b5 b6 b7 b8 b9 b10 b11 b12 b13 b14 b15 v96 v97 v98 v99 v100 v101 v102 v103 v104 v105 v106 v107 v108 v109 v5 w') ?_ ?_ ?_
                  · exact ⟨_, _, _, _, _, _, _, _, _, _, _, _, _, _, _, _, _, _, _, _, _, _, _, _, _, _, _, _, _, _, _, rfl, rfl, ⟨(by simp), (by simp), (by simp), (by simp), (by simp), (by simp), (by simp), (by simp), (by simp), (by simp), (fun _ => (Below.refl _ w9).drew), (by simp), (by simp), (by simp), (by simp), (by simp), (by simp), (by simp)⟩⟩
                  · rintro i listed act w' hi ⟨b0, b1, b2, b3, b4, b5, b6, b7, b8, b9, b10, b11, b12, b13, b14, b15, v96, v97, v98, v99, v100, v101, v102, v103, v104, v105, v106, v107, v108, v109, v5, rfl, rfl, H⟩
                    have hi16 : i < 16 := by
                      obtain ⟨-, o, ho, -⟩ := mem_ready.1 hi
                      exact (Array.getElem?_eq_some_iff.1 ho).1
                    obtain rfl | rfl | rfl | rfl | rfl | rfl | rfl | rfl | rfl | rfl | rfl | rfl | rfl | rfl | rfl | rfl : i = 0 ∨ i = 1 ∨ i = 2 ∨ i = 3 ∨ i = 4 ∨ i = 5 ∨ i = 6 ∨ i = 7 ∨ i = 8 ∨ i = 9 ∨ i = 10 ∨ i = 11 ∨ i = 12 ∨ i = 13 ∨ i = 14 ∨ i = 15 := by omega
                    all_goals simp [mem_ready, Region.binds] at hi
                    · refine wpOp_hidden rfl fun K hK => ?_
                      go_wp2
                      refine OnlyN.mk (hK.out _ _ ⟨true, _, _, _, _, _, _, _, _, _, _, _, _, _, _, _, .pointer (some ⟨w.heap.size, 0, none⟩), _, _, _, _, _, _, _, _, _, _, _, _, _, _, rfl, rfl, ⟨fun _ => rfl, H.h1, H.h2, H.h3, H.h5, H.h6, H.h7, H.h8, H.h13, H.h15, H.below, H.hord, H.h4, H.h9, H.h10, H.h11, H.h12, H.h14⟩⟩)
                    · have b14f : b14 = false := by
                        cases hb : b14 with
                        | false => rfl
                        | true => exact absurd (H.hord hb).1 (by simp [hi])
                      have cc := ((H.below b14f).cell (p := ⟨w.heap.size, 0, none⟩) HP9.out.lt).trans (HP9.out.cell_ 0 (.int .i64 st) rfl)
                      obtain rfl := H.h0 (by simp [hi])
                      clear b14f
                      refine wpOp_hidden rfl fun K hK => ?_
                      go_wp2
                      refine OnlyN.mk (hK.out _ _ ⟨_, true, _, _, _, _, _, _, _, _, _, _, _, _, _, _, _, .int .i64 st, _, _, _, _, _, _, _, _, _, _, _, _, _, rfl, rfl, ⟨H.h0, fun _ => rfl, H.h2, H.h3, H.h5, H.h6, H.h7, H.h8, H.h13, H.h15, H.below, fun h => ⟨rfl, (H.hord h).2.1, (H.hord h).2.2.1, (H.hord h).2.2.2.1, (H.hord h).2.2.2.2.1, (H.hord h).2.2.2.2.2.1, (H.hord h).2.2.2.2.2.2.1, (H.hord h).2.2.2.2.2.2.2.1, (H.hord h).2.2.2.2.2.2.2.2⟩, H.h4, H.h9, H.h10, H.h11, H.h12, H.h14⟩⟩)
                    · refine wpOp_hidden rfl fun K hK => ?_
                      go_wp2
                      refine OnlyN.mk (hK.out _ _ ⟨_, _, true, _, _, _, _, _, _, _, _, _, _, _, _, _, _, _, .pointer (some ⟨w.heap.size, 1, none⟩), _, _, _, _, _, _, _, _, _, _, _, _, rfl, rfl, ⟨H.h0, H.h1, fun _ => rfl, H.h3, H.h5, H.h6, H.h7, H.h8, H.h13, H.h15, H.below, H.hord, H.h4, H.h9, H.h10, H.h11, H.h12, H.h14⟩⟩)
                    · have b14f : b14 = false := by
                        cases hb : b14 with
                        | false => rfl
                        | true => exact absurd (H.hord hb).2.1 (by simp [hi])
                      have cc := ((H.below b14f).cell (p := ⟨w.heap.size, 1, none⟩) HP9.out.lt).trans (HP9.out.cell_ 1 (.slice A ps.length c) rfl)
                      obtain rfl := H.h2 (by simp [hi])
                      clear b14f
                      refine wpOp_hidden rfl fun K hK => ?_
                      go_wp2
                      refine OnlyN.mk (hK.out _ _ ⟨_, _, _, true, _, _, _, _, _, _, _, _, _, _, _, _, _, _, _, .slice A ps.length c, _, _, _, _, _, _, _, _, _, _, _, rfl, rfl, ⟨H.h0, H.h1, H.h2, fun _ => rfl, H.h5, H.h6, H.h7, H.h8, H.h13, H.h15, H.below, fun h => ⟨(H.hord h).1, rfl, (H.hord h).2.2.1, (H.hord h).2.2.2.1, (H.hord h).2.2.2.2.1, (H.hord h).2.2.2.2.2.1, (H.hord h).2.2.2.2.2.2.1, (H.hord h).2.2.2.2.2.2.2.1, (H.hord h).2.2.2.2.2.2.2.2⟩, H.h4, H.h9, H.h10, H.h11, H.h12, H.h14⟩⟩)
                    · have b14f : b14 = false := by
                        cases hb : b14 with
                        | false => rfl
                        | true => exact absurd (H.hord hb).2.2.1 (by simp [hi])
                      obtain rfl := H.h3 (by simp [hi])
                      have HBx := Lib.hid (H.below b14f)
                      have HCX := Lib.hid (HCLO.out w' HBx.out)
                      clear b14f
                      refine wpOp_hidden rfl fun K hK => ?_
                      go_wp2_with (go_at_call 46; refine HCX.out.mono ?_)
                      rintro e wy v9 rfl ho9 hb9
                      have HO9 := Lib.hid (ho9.down HBx.out.size)
                      have HB9' := Lib.hid hb9
                      clear ho9 hb9 HCX
                      go_wp2
                      refine OnlyN.mk (hK.out _ _ ⟨_, _, _, _, true, _, _, _, _, _, _, _, _, _, _, _, _, _, _, _, v9, _, _, _, _, _, _, _, _, _, _, rfl, rfl, ⟨H.h0, H.h1, H.h2, H.h3, H.h5, H.h6, H.h7, H.h8, H.h13, H.h15, fun h => (H.below h).trans (HB9'.out.mono (H.below h).size), fun h => ⟨(H.hord h).1, (H.hord h).2.1, rfl, (H.hord h).2.2.2.1, (H.hord h).2.2.2.2.1, (H.hord h).2.2.2.2.2.1, (H.hord h).2.2.2.2.2.2.1, (H.hord h).2.2.2.2.2.2.2.1, (H.hord h).2.2.2.2.2.2.2.2⟩, fun _ _ => HO9.out, fun h h2 => (by obtain ⟨os2, x1, x2⟩ := H.h9 h h2; exact ⟨os2, x1.ext HB9'.out, x2⟩), fun h h2 => (by obtain ⟨hv, nv, os2, x1, x2, x3, x4⟩ := H.h10 h h2; exact ⟨hv, nv, os2, x1, x2.ext HB9'.out, x3.ext HB9'.out, x4⟩), fun h h2 => (by obtain ⟨s3, X, n1, c1, Y, n2, c2, x1, x2⟩ := H.h11 h h2; exact ⟨s3, X, n1, c1, Y, n2, c2, x1, x2.ext HB9'.out⟩), fun h h2 => (by obtain ⟨s3, X, n1, c1, Y, n2, c2, x1, x2⟩ := H.h12 h h2; exact ⟨s3, X, n1, c1, Y, n2, c2, x1, x2.ext HB9'.out⟩), fun h => absurd (H.hord h).2.2.1 (by simp [hi])⟩⟩)
                    · refine wpOp_hidden rfl fun K hK => ?_
                      go_wp2
                      refine OnlyN.mk (hK.out _ _ ⟨_, _, _, _, _, true, _, _, _, _, _, _, _, _, _, _, _, _, _, _, _, .pointer (some ⟨p, 0, none⟩), _, _, _, _, _, _, _, _, _, rfl, rfl, ⟨H.h0, H.h1, H.h2, H.h3, fun _ => rfl, H.h6, H.h7, H.h8, H.h13, H.h15, H.below, H.hord, H.h4, H.h9, H.h10, H.h11, H.h12, H.h14⟩⟩)
                    · obtain rfl := H.h5 (by simp [hi])
                      refine wpOp_hidden rfl fun K hK => ?_
                      go_wp2
                      refine OnlyN.mk (hK.out _ _ ⟨_, _, _, _, _, _, true, _, _, _, _, _, _, _, _, _, _, _, _, _, _, _, .pointer (some ⟨p, 0, none⟩), _, _, _, _, _, _, _, _, rfl, rfl, ⟨H.h0, H.h1, H.h2, H.h3, H.h5, fun _ => rfl, H.h7, H.h8, H.h13, H.h15, H.below, H.hord, H.h4, H.h9, H.h10, H.h11, H.h12, H.h14⟩⟩)
                    · have b14f : b14 = false := by
                        cases hb : b14 with
                        | false => rfl
                        | true => exact absurd (H.hord hb).2.2.2.1 (by simp [hi])
                      have cc := ((H.below b14f).cell (p := ⟨p, 0, none⟩) HCE.out.1).trans HCE.out.2
                      obtain rfl := H.h6 (by simp [hi])
                      clear b14f
                      refine wpOp_hidden rfl fun K hK => ?_
                      go_wp2
                      refine OnlyN.mk (hK.out _ _ ⟨_, _, _, _, _, _, _, true, _, _, _, _, _, _, _, _, _, _, _, _, _, _, _, .slice nA hs9.length nc, _, _, _, _, _, _, _, rfl, rfl, ⟨H.h0, H.h1, H.h2, H.h3, H.h5, H.h6, fun _ => rfl, H.h8, H.h13, H.h15, H.below, fun h => ⟨(H.hord h).1, (H.hord h).2.1, (H.hord h).2.2.1, rfl, (H.hord h).2.2.2.2.1, (H.hord h).2.2.2.2.2.1, (H.hord h).2.2.2.2.2.2.1, (H.hord h).2.2.2.2.2.2.2.1, (H.hord h).2.2.2.2.2.2.2.2⟩, H.h4, H.h9, H.h10, H.h11, H.h12, H.h14⟩⟩)
                    · refine wpOp_hidden rfl fun K hK => ?_
                      go_wp2
                      refine OnlyN.mk (hK.out _ _ ⟨_, _, _, _, _, _, _, _, true, _, _, _, _, _, _, _, _, _, _, _, _, _, _, _, .int .i64 kn, _, _, _, _, _, _, rfl, rfl, ⟨H.h0, H.h1, H.h2, H.h3, H.h5, H.h6, H.h7, fun _ => rfl, H.h13, H.h15, H.below, H.hord, H.h4, H.h9, H.h10, H.h11, H.h12, H.h14⟩⟩)
                    · have b14f : b14 = false := by
                        cases hb : b14 with
                        | false => rfl
                        | true => exact absurd (H.hord hb).2.2.2.2.1 (by simp [hi])
                      obtain rfl := H.h7 (by simp [hi])
                      obtain rfl := H.h8 (by simp [hi])
                      have HBx := Lib.hid (H.below b14f)
                      have HCX := Lib.hid (HORD.out w' HBx.out)
                      clear b14f
                      refine wpOp_hidden rfl fun K hK => ?_
                      go_wp2_with (go_at_call 47; refine HCX.out.mono ?_)
                      rintro e wy ⟨v9, os9, rfl, ho9, he9, hb9⟩
                      have HO9 := Lib.hid (And.intro (show OwnNA wy w9.heap.size v9 os9 from ⟨own_down ho9.1 HBx.out.size, fun x hx => (ho9.2 x hx).down HBx.out.size⟩) he9)
                      have HB9' := Lib.hid hb9
                      clear ho9 he9 hb9 HCX
                      go_wp2
                      refine OnlyN.mk (hK.out _ _ ⟨_, _, _, _, _, _, _, _, _, true, _, _, _, _, _, _, _, _, _, _, _, _, _, _, _, v9, _, _, _, _, _, rfl, rfl, ⟨H.h0, H.h1, H.h2, H.h3, H.h5, H.h6, H.h7, H.h8, H.h13, H.h15, fun h => (H.below h).trans (HB9'.out.mono (H.below h).size), fun h => ⟨(H.hord h).1, (H.hord h).2.1, (H.hord h).2.2.1, (H.hord h).2.2.2.1, rfl, (H.hord h).2.2.2.2.2.1, (H.hord h).2.2.2.2.2.2.1, (H.hord h).2.2.2.2.2.2.2.1, (H.hord h).2.2.2.2.2.2.2.2⟩, fun h h2 => ((H.h4 h h2).ext HB9'.out), fun _ _ => ⟨os9, HO9.out.1, HO9.out.2⟩, fun h h2 => (by obtain ⟨hv, nv, os2, x1, x2, x3, x4⟩ := H.h10 h h2; exact ⟨hv, nv, os2, x1, x2.ext HB9'.out, x3.ext HB9'.out, x4⟩), fun h h2 => (by obtain ⟨s3, X, n1, c1, Y, n2, c2, x1, x2⟩ := H.h11 h h2; exact ⟨s3, X, n1, c1, Y, n2, c2, x1, x2.ext HB9'.out⟩), fun h h2 => (by obtain ⟨s3, X, n1, c1, Y, n2, c2, x1, x2⟩ := H.h12 h h2; exact ⟨s3, X, n1, c1, Y, n2, c2, x1, x2.ext HB9'.out⟩), fun h => absurd (H.hord h).2.2.2.2.1 (by simp [hi])⟩⟩)
                    · have b14f : b14 = false := by
                        cases hb : b14 with
                        | false => rfl
                        | true => exact absurd (H.hord hb).2.2.2.2.2.1 (by simp [hi])
                      obtain rfl := H.h1 (by simp [hi])
                      have h4 := H.h4 (by simp [hi]) b14f
                      obtain ⟨os9, h9, h9e⟩ := H.h9 (by simp [hi]) b14f
                      obtain ⟨Ah, ch9, ehv, -, -⟩ := h4.pts
                      obtain ⟨An9, cn9, env, -, -⟩ := h9.nds
                      have HO4 := Lib.hid h4
                      have HO9 := Lib.hid (And.intro h9 h9e)
                      clear h4 h9 h9e b14f
                      subst ehv env
                      refine wpOp_hidden rfl fun K hK => ?_
                      go_wp2
                      refine OnlyN.mk (hK.out _ _ ⟨_, _, _, _, _, _, _, _, _, _, true, _, _, _, _, _, _, _, _, _, _, _, _, _, _, _, .agg #[.int .i64 st, .slice Ah ps.length ch9, .slice An9 os9.length cn9], _, _, _, _, rfl, rfl, ⟨H.h0, H.h1, H.h2, H.h3, H.h5, H.h6, H.h7, H.h8, H.h13, H.h15, H.below, fun h => ⟨(H.hord h).1, (H.hord h).2.1, (H.hord h).2.2.1, (H.hord h).2.2.2.1, (H.hord h).2.2.2.2.1, rfl, (H.hord h).2.2.2.2.2.2.1, (H.hord h).2.2.2.2.2.2.2.1, (H.hord h).2.2.2.2.2.2.2.2⟩, H.h4, H.h9, fun _ _ => ⟨_, _, os9, rfl, HO4.out, HO9.out.1, HO9.out.2⟩, H.h11, H.h12, fun h => absurd (H.hord h).2.2.2.2.2.1 (by simp [hi])⟩⟩)
                    · have b14f : b14 = false := by
                        cases hb : b14 with
                        | false => rfl
                        | true => exact absurd (H.hord hb).2.2.2.2.2.2.1 (by simp [hi])
                      obtain ⟨hv, nv, os9, ev, h4, h9, h9e⟩ := H.h10 (by simp [hi]) b14f
                      subst ev
                      obtain ⟨Ah, ch9, ehv, -, -⟩ := h4.pts
                      obtain ⟨An9, cn9, env, -, -⟩ := h9.nds
                      subst ehv env
                      have HBx := Lib.hid (H.below b14f)
                      have HCX := Lib.hid (sized_any st Ah ps.length ch9 An9 os9.length cn9 w')
                      have HSV := Lib.hid (sized_fin (W := w9) HTE.out h4 h9 h9e)
                      obtain ⟨s3, X, n1, c1, Y, n2, c2, hsv, hfin⟩ := HSV.out
                      rw [hsv] at HCX
                      have HFIN := Lib.hid hfin
                      clear hsv hfin HSV h4 h9 h9e b14f
                      refine wpOp_hidden rfl fun K hK => ?_
                      go_wp2_with (go_at_call 45; refine HCX.out.mono ?_; intro e wy hx9; obtain ⟨rfl, hb9⟩ := hx9; refine Hid.out ?_)
                      refine Lib.hid ?_
                      have HB9' := Lib.hid hb9
                      clear hb9 HCX
                      go_wp2
                      refine OnlyN.mk (hK.out _ _ ⟨_, _, _, _, _, _, _, _, _, _, _, true, _, _, _, _, _, _, _, _, _, _, _, _, _, _, _, .tuple #[.agg #[.int .i64 s3, .slice X n1 c1, .slice Y n2 c2], .int .i64 res.2], _, _, _, rfl, rfl, ⟨H.h0, H.h1, H.h2, H.h3, H.h5, H.h6, H.h7, H.h8, H.h13, H.h15, fun h => (H.below h).trans (HB9'.out.mono (H.below h).size), fun h => ⟨(H.hord h).1, (H.hord h).2.1, (H.hord h).2.2.1, (H.hord h).2.2.2.1, (H.hord h).2.2.2.2.1, (H.hord h).2.2.2.2.2.1, rfl, (H.hord h).2.2.2.2.2.2.2.1, (H.hord h).2.2.2.2.2.2.2.2⟩, fun h h2 => ((H.h4 h h2).ext HB9'.out), fun h h2 => (by obtain ⟨os2, x1, x2⟩ := H.h9 h h2; exact ⟨os2, x1.ext HB9'.out, x2⟩), fun h h2 => (by obtain ⟨hv, nv, os2, x1, x2, x3, x4⟩ := H.h10 h h2; exact ⟨hv, nv, os2, x1, x2.ext HB9'.out, x3.ext HB9'.out, x4⟩), fun _ _ => ⟨s3, X, n1, c1, Y, n2, c2, rfl, HFIN.out.ext HB9'.out⟩, fun h h2 => (by obtain ⟨s3, X, n1, c1, Y, n2, c2, x1, x2⟩ := H.h12 h h2; exact ⟨s3, X, n1, c1, Y, n2, c2, x1, x2.ext HB9'.out⟩), fun h => absurd (H.hord h).2.2.2.2.2.2.1 (by simp [hi])⟩⟩)
                    · have b14f : b14 = false := by
                        cases hb : b14 with
                        | false => rfl
                        | true => exact absurd (H.hord hb).2.2.2.2.2.2.2.1 (by simp [hi])
                      obtain ⟨s3, X, n1, c1, Y, n2, c2, ev, hfin⟩ := H.h11 (by simp [hi]) b14f
                      subst ev
                      have HFIN := Lib.hid hfin
                      clear hfin b14f
                      refine wpOp_hidden rfl fun K hK => ?_
                      go_wp2
                      refine OnlyN.mk (hK.out _ _ ⟨_, _, _, _, _, _, _, _, _, _, _, _, true, _, _, _, _, _, _, _, _, _, _, _, _, _, _, _, .agg #[.int .i64 s3, .slice X n1 c1, .slice Y n2 c2], _, _, rfl, rfl, ⟨H.h0, H.h1, H.h2, H.h3, H.h5, H.h6, H.h7, H.h8, H.h13, H.h15, H.below, fun h => ⟨(H.hord h).1, (H.hord h).2.1, (H.hord h).2.2.1, (H.hord h).2.2.2.1, (H.hord h).2.2.2.2.1, (H.hord h).2.2.2.2.2.1, (H.hord h).2.2.2.2.2.2.1, rfl, (H.hord h).2.2.2.2.2.2.2.2⟩, H.h4, H.h9, H.h10, H.h11, fun _ _ => ⟨s3, X, n1, c1, Y, n2, c2, rfl, HFIN.out⟩, fun h => absurd (H.hord h).2.2.2.2.2.2.2.1 (by simp [hi])⟩⟩)
                    · have b14f : b14 = false := by
                        cases hb : b14 with
                        | false => rfl
                        | true => exact absurd (H.hord hb).2.2.2.2.2.2.2.2 (by simp [hi])
                      obtain ⟨s3, X, n1, c1, Y, n2, c2, ev, hfin⟩ := H.h11 (by simp [hi]) b14f
                      subst ev
                      clear hfin b14f
                      refine wpOp_hidden rfl fun K hK => ?_
                      go_wp2
                      refine OnlyN.mk (hK.out _ _ ⟨_, _, _, _, _, _, _, _, _, _, _, _, _, true, _, _, _, _, _, _, _, _, _, _, _, _, _, _, _, .int .i64 res.2, _, rfl, rfl, ⟨H.h0, H.h1, H.h2, H.h3, H.h5, H.h6, H.h7, H.h8, fun _ => rfl, H.h15, H.below, fun h => ⟨(H.hord h).1, (H.hord h).2.1, (H.hord h).2.2.1, (H.hord h).2.2.2.1, (H.hord h).2.2.2.2.1, (H.hord h).2.2.2.2.2.1, (H.hord h).2.2.2.2.2.2.1, (H.hord h).2.2.2.2.2.2.2.1, rfl⟩, H.h4, H.h9, H.h10, H.h11, H.h12, H.h14⟩⟩)
                    · obtain ⟨s3, X, n1, c1, Y, n2, c2, ev, hfin⟩ := H.h12 (by simp [hi]) (by simp [hi])
                      subst ev
                      have HFIN := Lib.hid hfin
                      have HBL := Lib.hid (H.below (by simp [hi]))
                      have hpw := HQ9.out.below HBL.out HQ9.out.lt
                      have cc0 := hpw.cell_ 0 (.int .i64 0) rfl
                      have cc1 := hpw.cell_ 1 (.slice none 0 0) rfl
                      have cc2 := hpw.cell_ 2 (.slice none 0 0) rfl
                      have ff0 := hpw.frozen 0
                      have ff1 := hpw.frozen 1
                      have ff2 := hpw.frozen 2
                      clear hfin hpw
                      refine wpOp_hidden rfl fun K hK => ?_
                      go_wp2
                      refine OnlyN.mk (hK.out _ _ ⟨_, _, _, _, _, _, _, _, _, _, _, _, _, _, true, _, _, _, _, _, _, _, _, _, _, _, _, _, _, _, _, rfl, rfl, ⟨H.h0, H.h1, H.h2, H.h3, H.h5, H.h6, H.h7, H.h8, H.h13, H.h15, fun h => (by cases h), fun _ => (by simp [hi]), fun _ h => (by cases h), fun _ h => (by cases h), fun _ h => (by cases h), fun _ h => (by cases h), fun _ h => (by cases h), fun _ => ⟨s3, X, n1, c1, Y, n2, c2, _, HBL.out, HFIN.out, rfl⟩⟩⟩)
                    · obtain rfl := H.h13 (by simp [hi])
                      refine wpOp_hidden rfl fun K hK => ?_
                      go_wp2
                      refine OnlyN.mk (hK.out _ _ ⟨_, _, _, _, _, _, _, _, _, _, _, _, _, _, _, true, _, _, _, _, _, _, _, _, _, _, _, _, _, _, .int .i64 res.2, rfl, rfl, ⟨H.h0, H.h1, H.h2, H.h3, H.h5, H.h6, H.h7, H.h8, H.h13, fun _ => rfl, H.below, H.hord, H.h4, H.h9, H.h10, H.h11, H.h12, H.h14⟩⟩)
                  · rintro listed act w' hr ⟨b0, b1, b2, b3, b4, b5, b6, b7, b8, b9, b10, b11, b12, b13, b14, b15, v96, v97, v98, v99, v100, v101, v102, v103, v104, v105, v106, v107, v108, v109, v5, rfl, rfl, H⟩
                    have hn := List.eq_nil_iff_forall_not_mem.1 hr
                    have r0 := hn 0
                    simp [mem_ready, Region.binds] at r0
                    subst r0
                    have r1 := hn 1
                    simp [mem_ready, Region.binds] at r1
                    subst r1
                    have r2 := hn 2
                    simp [mem_ready, Region.binds] at r2
                    subst r2
                    have r3 := hn 3
                    simp [mem_ready, Region.binds] at r3
                    subst r3
                    have r4 := hn 4
                    simp [mem_ready, Region.binds] at r4
                    subst r4
                    have r5 := hn 5
                    simp [mem_ready, Region.binds] at r5
                    subst r5
                    have r6 := hn 6
                    simp [mem_ready, Region.binds] at r6
                    subst r6
                    have r7 := hn 7
                    simp [mem_ready, Region.binds] at r7
                    subst r7
                    have r8 := hn 8
                    simp [mem_ready, Region.binds] at r8
                    subst r8
                    have r9 := hn 9
                    simp [mem_ready, Region.binds] at r9
                    subst r9
                    have r10 := hn 10
                    simp [mem_ready, Region.binds] at r10
                    subst r10
                    have r11 := hn 11
                    simp [mem_ready, Region.binds] at r11
                    subst r11
                    have r12 := hn 12
                    simp [mem_ready, Region.binds] at r12
                    subst r12
                    have r13 := hn 13
                    simp [mem_ready, Region.binds] at r13
                    subst r13
                    have r14 := hn 14
                    simp [mem_ready, Region.binds] at r14
                    subst r14
                    have r15 := hn 15
                    simp [mem_ready, Region.binds] at r15
                    subst r15
                    try dsimp only
                    obtain ⟨s3, X, n1, c1, Y, n2, c2, w5, hb5, ⟨f1, f2, os, f3, f4⟩, hw5⟩ := H.h14 rfl
                    obtain rfl := H.h15 rfl
                    have hpw := HQ9.out.below hb5 HQ9.out.lt
                    have hp3 : Blk w' (w.heap.size + 1) 25 #[.int .i64 s3, .slice X n1 c1, .slice Y n2 c2] := by rw [hw5]; exact ((hpw.set_ 0 (.int .i64 s3)).set_ 1 (.slice X n1 c1)).set_ 2 (.slice Y n2 c2)
                    have hk3 : Kept (fun g => g = w.heap.size + 1) w5 w' := by rw [hw5]; exact (((Kept.refl (fun g => g = w.heap.size + 1) w5).setCell (p := ⟨w.heap.size + 1, 0, none⟩) (Or.inl rfl) _).setCell (p := ⟨w.heap.size + 1, 1, none⟩) (Or.inl rfl) _).setCell (p := ⟨w.heap.size + 1, 2, none⟩) (Or.inl rfl) _
                    have hlt := HQ9.out.lt
                    have ho : OwnNA w' w9.heap.size (.slice Y n2 c2) os := OwnN.kept f3 hk3 (fun g e e2 => by have h1 := (own_lt' f3.1 e).2; rw [e2] at h1; exact Nat.lt_irrefl _ (Nat.lt_of_lt_of_le hlt h1)) (fun x hx g e e2 => by have h1 := (own_lt' (f3.2 x hx) e).2; rw [e2] at h1; exact Nat.lt_irrefl _ (Nat.lt_of_lt_of_le hlt h1))
                    have hpo : OwnP 49 w' w9.heap.size (.slice X n1 c1) res.1.ps := hk3.own f2 (fun g e e2 => by have h1 := (own_lt' f2 e).2; rw [e2] at h1; exact Nat.lt_irrefl _ (Nat.lt_of_lt_of_le hlt h1))
                    have hbf : Below w.heap.size w w' := (HBw9.out.trans (hb5.mono HBw9.out.size)).trans (hk3.to_below (Nat.le_trans HBw9.out.size hb5.size) (fun g hg e => by rw [e] at hg; exact Nat.not_succ_lt_self hg))
                    subst f1
                    have HFIN : Hid (RetTE res w (.returned (.tuple #[.agg #[.int .i64 res.1.st, .slice X n1 c1, .slice Y n2 c2], .int .i64 res.2])) w') := Lib.hid ⟨_, _, os, rfl, hpo.down HBw9.out.size, ⟨own_down ho.1 HBw9.out.size, fun x hx => (ho.2 x hx).down HBw9.out.size⟩, f4, hbf⟩
                    have HP3 := Lib.hid hp3
                    clear H hr hn hb5 f2 f3 f4 hw5 hpw hk3 ho hpo hbf hp3
                    go_wp2
                    exact bodyPost_ret (results_ct Tryd.results22 _ _ (w.heap.size + 1) 25 #[.int .i64 res.1.st, .slice X n1 c1, .slice Y n2 c2] (0, 0) _ rfl HP3.out Tryd.underlying25 rfl Tryd.sizeTree) rfl HFIN.out
      · have n1 : ((ls.length : Int) != st) = true := by simp [hst]
        have HE : Hid (res = (PT.zero, 2)) := Lib.hid (by
          have hln : ((ls.map TrH.pt).length : Int) ≠ bT.pt.st := by rw [List.length_map, HBT.out]; exact hst
          rw [HRES.out, if_neg (by rw [HNBA.out]; decide), if_pos hln])
        clear hst
        have HBw : Hid (Below w.heap.size w wr) := Lib.hid (HB0.out.trans (HBr.out.mono HB0.out.size))
        have q1 := HQ0.out.below HBr.out HQ0.out.lt
        have HQ1 := Lib.hid q1
        have d0 := q1.cell_ 0 (.int .i64 0) rfl
        have d1x := q1.cell_ 1 (.slice none 0 0) rfl
        have d2 := q1.cell_ 2 (.slice none 0 0) rfl
        have f0 := q1.frozen 0
        have f1 := q1.frozen 1
        have f2 := q1.frozen 2
        clear q1
        go_wp2
        have hq : Blk (((wr.setCell ⟨w.heap.size + 1, 0, none⟩ (.int .i64 0)).setCell ⟨w.heap.size + 1, 1, none⟩ (.slice none 0 0)).setCell ⟨w.heap.size + 1, 2, none⟩ (.slice none 0 0)) (w.heap.size + 1) 25 #[.int .i64 0, .slice none 0 0, .slice none 0 0] := ((HQ1.out.set_ 0 (.int .i64 0)).set_ 1 (.slice none 0 0)).set_ 2 (.slice none 0 0)
        rw [HE.out]
        exact bodyPost_ret (results_ct Tryd.results22 _ _ (w.heap.size + 1) 25 #[.int .i64 0, .slice none 0 0, .slice none 0 0] (0, 0) _ rfl hq Tryd.underlying25 rfl Tryd.sizeTree) rfl
          ⟨_, _, [], rfl, OwnP.nil _ _ _, OwnN.nil _ _ _ _, rfl, ((HBw.out.setCell (p := ⟨w.heap.size + 1, 0, none⟩) (Nat.le_succ _) _).setCell (p := ⟨w.heap.size + 1, 1, none⟩) (Nat.le_succ _) _).setCell (p := ⟨w.heap.size + 1, 2, none⟩) (Nat.le_succ _) _⟩
end Go.Proofs.YtojnnfihpiegoaaDoor
