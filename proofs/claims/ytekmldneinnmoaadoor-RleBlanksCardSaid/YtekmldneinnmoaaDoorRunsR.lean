/-
  cellularref30.Runs: the walk. No condition.
-/
import Derived.Test.YtekmldneinnmoaaDoorRunsP
namespace Go.Proofs.YtekmldneinnmoaaDoor
open Go.RowKit
set_option maxRecDepth 100000
set_option linter.unusedVariables false
set_option linter.unusedSimpArgs false

/-- what Runs returns -/
def RetRuns (ps : List Cel) (w : World) (e : Ending) (w' : World) : Prop := ∃ A c, e = .returned (.tuple #[.slice A (runsL ps).length c, .int .i64 (if rightC ps then 0 else 2)]) ∧ Pts w' A (runsL ps) ∧ NewA w.heap.size A ∧ Below w.heap.size w w'
theorem runsL_wrong {ps : List Cel} (h : rightC ps = false) : runsL ps = [] := by
  unfold runsL
  rw [if_neg]
  intro hb
  rw [(box_bd hb).1] at h
  cases h
theorem RetRuns.wrong {ps : List Cel} {w w' : World} (h : rightC ps = false) (hb : Below w.heap.size w w') : RetRuns ps w (.returned (.tuple #[.slice none 0 0, .int .i64 2])) w' := by
  unfold RetRuns
  rw [runsL_wrong h, h]
  exact ⟨none, 0, rfl, Pts.nil, NewA.none_ _, hb⟩
theorem RetRuns.right {ps : List Cel} {w w' : World} {A : Option Addr} {c : Nat} {l : List (Int × Int)} (h : rightC ps = true) (e : runsL ps = l) (hp : Pts w' A l) (hn : NewA w.heap.size A) (hb : Below w.heap.size w w') : RetRuns ps w (.returned (.tuple #[.slice A l.length c, .int .i64 0])) w' := by
  subst e
  unfold RetRuns
  rw [h]
  exact ⟨A, c, rfl, hp, hn, hb⟩
set_option maxHeartbeats 1600000 in
theorem Runs_any (A : Option Addr) (c : Nat) (ps : List Cel) (w : World) (ha : Cls w A ps) :
    Calls Tryd.prog 10 #[.slice A ps.length c] w (RetRuns ps w) := by
  have hn := ha.le
  have HR := Lib.hid (right_any A c ps w ha)
  cases hr : rightC ps
  · have HRT := Lib.hid hr
    rw [hr] at HR
    clear hr
    go_enter Tryd.func10, Tryd.ntmps10
    go_wp2_with fail
    refine HR.out.mono ?_
    rintro e w1 ⟨rfl, hb1⟩
    have HB1 := Lib.hid hb1
    clear hb1
    go_wp2
    refine bodyPost_ret (v := .tuple #[.slice none 0 0, .int .i64 2]) (by simp [results, Tryd.results10, go_sem]) rfl ?_
    exact RetRuns.wrong HRT.out HB1.out
  · rw [hr] at HR
    have HRT := Lib.hid hr
    clear hr
    go_enter Tryd.func10, Tryd.ntmps10
    go_wp2_with fail
    refine HR.out.mono ?_
    rintro e w1 ⟨rfl, hb1⟩
    have HB1 := Lib.hid hb1
    have HX := Lib.hid (runs_any A c ps w1 (ha.ext hb1))
    clear hb1
    go_wp2_with fail
    refine HX.out.mono ?_
    rintro e w2 ⟨A2, c2, rfl, hp, hnew, hb2⟩
    have HB2 := Lib.hid (HB1.out.trans (hb2.mono HB1.out.size))
    have HN2 := Lib.hid (hnew.mono HB1.out.size)
    have HP2 := Lib.hid hp
    clear hp hnew hb2
    go_wp2
    refine bodyPost_ret (v := .tuple #[.slice A2 (runsL ps).length c2, .int .i64 0]) (by simp [results, Tryd.results10, go_sem]) rfl ?_
    exact RetRuns.right HRT.out rfl HP2.out HN2.out HB2.out
set_option maxHeartbeats 16000000 in
theorem rRuns_any (A : Option Addr) (c : Nat) (ps : List Cel) (w : World) (ha : Cls w A ps) :
    Calls Tryd.prog 11 #[.slice A ps.length c] w (RetRuns ps w) := by
  have hn := ha.le
  have HR0 := Lib.hid (rright_any A c ps w ha)
  cases hr : rightC ps
  · have HRT := Lib.hid hr
    rw [hr] at HR0
    clear hr
    go_enter Tryd.func11, Tryd.ntmps11
    go_wp2_with fail
    refine HR0.out.mono ?_
    rintro e w1 ⟨rfl, hb1⟩
    have HB1 := Lib.hid hb1
    clear hb1
    go_wp2
    refine bodyPost_ret (v := .tuple #[.slice none 0 0, .int .i64 2]) (by simp [results, Tryd.results11, go_sem]) rfl ?_
    exact RetRuns.wrong HRT.out HB1.out
  have hp := right_bd hr
  have HLA := Lib.hid (fun bx k hk => runs_last (bx := bx) (ps := ps) hr k hk)
  have HP := Lib.hid hp
  have HL5 : Hid (ps.length ≤ 5000) := Lib.hid (by have h := hr; unfold rightC at h; simp only [Bool.and_eq_true, decide_eq_true_eq] at h; exact h.1)
  have HRT := Lib.hid hr
  have HBH := Lib.hid (fun h => box_hd (ps := ps) h)
  have HBD := Lib.hid (fun h => box_bd (ps := ps) h)
  have HRL : Hid (runsL ps = if (boxC ps).2 then (runsSt (boxC ps).1.x (boxC ps).1.y ps ps.length).out else []) := Lib.hid rfl
  have HBX := Lib.hid (fun w' hb => rbox_any A c ps w' (ha.ext hb))
  rw [box_eq] at HBX
  have HBN : Hid ((boxC ps).2 = false → ps = []) := Lib.hid (by
    intro h
    unfold boxC at h
    split at h
    · cases h
    · rename_i hc
      apply Classical.byContradiction
      intro h0
      exact hc ⟨h0, hr⟩)
  rw [hr] at HR0
  clear hr hp
  obtain ⟨qq, hq⟩ : ∃ q, q = boxC ps := ⟨_, rfl⟩
  rw [← hq] at HBX HBH HRL HBN HBD
  clear hq
  obtain ⟨bb, ok⟩ := qq
  obtain ⟨bx, y0, bw, bh⟩ := bb
  unfold bxV at HBX
  dsimp only at HBX HBH HRL HBN HBD
  cases ok
  · have HN : Hid (runsL ps = []) := Lib.hid HRL.out
    have h0 := HBN.out rfl
    have HLT : Hid (ps.length = 0) := Lib.hid (by rw [h0]; rfl)
    clear HRL HBN HBD h0 HBH HP HLA
    go_enter Tryd.func11, Tryd.ntmps11
    go_wp2_with fail
    refine HR0.out.mono ?_
    rintro e w1 ⟨rfl, hb1⟩
    have HB1 := Lib.hid hb1
    clear hb1
    have HBX1 := Lib.hid (HBX.out w1 HB1.out)
    go_wp2_with fail
    refine HBX1.out.mono ?_
    rintro e w2 ⟨rfl, hb2⟩
    have br0 := Blk.new w2 38 #[.int .i64 bx, .int .i64 y0, .int .i64 bw, .int .i64 bh]
    have hba := (HB1.out.trans (hb2.mono HB1.out.size)).alloc (Nat.le_trans HB1.out.size hb2.size) (.cells #[.int .i64 bx, .int .i64 y0, .int .i64 bw, .int .i64 bh] 38)
    obtain ⟨w3, hw3⟩ : ∃ w3, w3 = w2.alloc (.cells #[.int .i64 bx, .int .i64 y0, .int .i64 bw, .int .i64 bh] 38) := ⟨_, rfl⟩
    rw [← hw3] at br0 hba
    have q0 := br0.cell_ 0 (.int .i64 bx) rfl
    have q1 := br0.cell_ 1 (.int .i64 y0) rfl
    have HB3 := Lib.hid hba
    have HW3 := Lib.hid hw3
    clear hb2 br0 hba hw3
    go_upto_region 5 with fail
    rw [← HW3.out]
    go_quiet (fail)
    have HB4 := Lib.hid (below_drewN HB3.out nq)
    clear q0 q1 HB3 HW3
    generalize w3.drewN nq = w4 at *
    have hlt := HLT.out
    go_wp2
    go_loopw [4, 9] (fun v i wr => v = .slice none 0 0 ∧ i = .int .i64 0 ∧ wr = w4) (fun _ _ _ => 0)
    case atStart => exact ⟨rfl, rfl, rfl⟩
    case round =>
      obtain ⟨rfl, rfl, rfl⟩ := hrel
      go_wp2
      refine bodyPost_ret (v := .tuple #[.slice none 0 0, .int .i64 0]) (by simp [results, Tryd.results11, go_sem]) rfl ?_
      exact RetRuns.right (l := []) HRT.out HN.out Pts.nil (NewA.none_ _) HB4.out
  have HF : Hid (runsL ps = (runsSt bx y0 ps ps.length).out) := Lib.hid HRL.out
  have bd := HBD.out rfl
  have hy0 := HBH.out rfl
  rw [← hy0] at HLA
  have HK := Lib.hid (fun k hk => runs_ok (ps := ps) HP.out bd.2.2.1 bd.2.2.2 k hk)
  have HBB := Lib.hid (And.intro bd.2.2.1 bd.2.2.2)
  clear bd HBD HRL HBN HBH hy0
  go_enter Tryd.func11, Tryd.ntmps11
  go_wp2_with fail
  refine HR0.out.mono ?_
  rintro e wz0 ⟨rfl, hb1⟩
  have HB1 := Lib.hid hb1
  clear hb1
  have HBX1 := Lib.hid (HBX.out wz0 HB1.out)
  go_wp2_with fail
  refine HBX1.out.mono ?_
  rintro e w1 ⟨rfl, hb2⟩
  have br0 := Blk.new w1 38 #[.int .i64 bx, .int .i64 y0, .int .i64 bw, .int .i64 bh]
  have hba := (HB1.out.trans (hb2.mono HB1.out.size)).alloc (Nat.le_trans HB1.out.size hb2.size) (.cells #[.int .i64 bx, .int .i64 y0, .int .i64 bw, .int .i64 bh] 38)
  obtain ⟨w2, hw2⟩ : ∃ w2, w2 = w1.alloc (.cells #[.int .i64 bx, .int .i64 y0, .int .i64 bw, .int .i64 bh] 38) := ⟨_, rfl⟩
  rw [← hw2] at br0 hba
  have q0 := br0.cell_ 0 (.int .i64 bx) rfl
  have q1 := br0.cell_ 1 (.int .i64 y0) rfl
  have HW2 := Lib.hid hw2
  have HBR := Lib.hid br0
  have HB2 := Lib.hid hba
  clear hw2 br0 hba hb2
  go_upto_region 5 with fail
  rw [← HW2.out]
  go_quiet (fail)
  have HBR3 := Lib.hid (HBR.out.drewN nq)
  have HB3 := Lib.hid (below_drewN HB2.out nq)
  clear q0 q1 HBR HB2 HW2
  generalize w2.drewN nq = w3 at *
  go_wp2
  go_loopw [4, 7, 8, 9] (fun v x y i wr => ∃ k : Nat, k ≤ ps.length ∧ i = .int .i64 k ∧ x = .int .i64 (runsSt bx y0 ps k).x ∧ y = .int .i64 (runsSt bx y0 ps k).y ∧ Hid (OwnP 31 wr w3.heap.size v (runsSt bx y0 ps k).out) ∧ Hid (Below w3.heap.size w3 wr)) (fun _ _ _ i _ => ps.length - (intOf i).toNat)
  case atStart => exact ⟨0, Nat.zero_le _, rfl, rfl, rfl, Lib.hid (OwnP.nil _ _ _), Lib.hid (Below.refl _ _)⟩
  case round =>
    obtain ⟨k, hk, rfl, rfl, rfl, HO, HB⟩ := hrel
    have HBW := Lib.hid (HB3.out.trans (HB.out.mono HB3.out.size))
    by_cases hlt : k < ps.length
    · obtain ⟨b1, o1, e1, -, hc0, hc1, hc2⟩ := (ha.ext HBW.out).at_ hlt
      have HE1 := Lib.hid e1
      obtain ⟨A2, a2, hv, hpt, hnew⟩ := HO.out.pts
      obtain ⟨pv, hpv⟩ : ∃ pv, pv = ps[k - 1]'(by omega) := ⟨_, rfl⟩
      have hLA : 0 < k → LastIs (runsSt bx y0 ps k) pv := by
        intro h0
        have h := (HLA.out bx (k - 1) (by omega)).2
        rw [← hpv] at h
        rwa [show k - 1 + 1 = k by omega] at h
      have hLB := (HLA.out bx k hlt).1
      have HPZ0 : k = 0 → (runsSt bx y0 ps k).out = [] := by intro h; subst h; rfl
      obtain ⟨t, ht⟩ : ∃ t, t = runsSt bx y0 ps k := ⟨_, rfl⟩
      have HT : Hid (runsSt bx y0 ps (k + 1) = stepR bx t ps[k]) := Lib.hid (by rw [ht]; exact runs_snoc bx y0 hlt)
      have tok := HK.out k hk
      have bc := HP.out ps[k] (List.getElem_mem hlt)
      rw [← ht] at HO tok hv hpt hLA hLB HPZ0 ⊢
      have HPZ := Lib.hid HPZ0
      obtain ⟨cx, hcx⟩ : ∃ cx, cx = ps[k] := ⟨_, rfl⟩
      rw [← hcx] at hc0 hc1 hc2 HT bc hLB
      have HPV : Hid ((ps[k - 1]'(by omega) = pv) ∧ (0 < k → t.x = pv.x + 1 ∧ pv.y = t.y ∧ ∃ m, t.out.getLast? = some (m, pv.s)) ∧ (0 < k → pv.y = t.y)) := Lib.hid ⟨hpv.symm, fun h => ⟨(hLA h).1, (hLA h).2.1.symm, (hLA h).2.2⟩, fun h => (hLA h).2.1.symm⟩
      clear ht hcx hLA hLB hpv HPZ0
      have hk5 := HL5.out
      have hnb := below_new wr (.cells #[.int .i64 cx.x, .int .i64 cx.y, .int .i64 cx.s] 42)
      obtain ⟨wb, hwb⟩ : ∃ wb, wb = wr.alloc (.cells #[.int .i64 cx.x, .int .i64 cx.y, .int .i64 cx.s] 42) := ⟨_, rfl⟩
      have p0 := Blk.new wr 42 #[.int .i64 cx.x, .int .i64 cx.y, .int .i64 cx.s]
      rw [← hwb] at hnb p0
      have HOb := Lib.hid (HO.out.ext hnb)
      have HBb := Lib.hid (HB.out.trans (hnb.mono HB.out.size))
      have HPb := Lib.hid p0
      have HW := Lib.hid hwb
      have HWN := Lib.hid (And.intro tok (And.intro bc hk5))
      clear HO HB hwb p0 hnb hpt hnew
      have hyL : wrap64 (cx.y - t.y) = cx.y - t.y := by have h1 := HWN.out.1.y0; have h2 := HWN.out.1.y1; have h3 := HWN.out.2.1.2.1; unfold wrap64; omega
      by_cases hL : t.y < cx.y
      · have dL : decide (t.y < cx.y) = true := decide_eq_true hL
        have HLL := Lib.hid hL
        clear hL
        subst e1
        have xa0 := HPb.out.cell_ 0 (.int .i64 cx.x) rfl
        have xa1 := HPb.out.cell_ 1 (.int .i64 cx.y) rfl
        have xa2 := HPb.out.cell_ 2 (.int .i64 cx.s) rfl
        go_upto_if 36 with fail
        rw [← HW.out]
        have hlen1 : (t.out).length < 4294967296 := by have h1 := HWN.out.1.n; have h2 := HWN.out.2.2; omega
        have hbs1 : w3.heap.size ≤ wb.heap.size := HBb.out.size
        go_wp2_with (at_builtin; refine wpList_pushPB rfl _ _ _ rfl w3.heap.size 31 Tryd.underlying28 Tryd.infoRun _ (t.out) rfl HOb.out _ _ rfl hlen1 hbs1 ?_)
        intro v1 wp1 ho1 hbl1 hkp1
        obtain ⟨l1, hl1⟩ : ∃ l1, l1 = t.out ++ [(cx.y - t.y, -1)] := ⟨_, rfl⟩
        have HO1 : Hid (OwnP 31 wp1 w3.heap.size v1 l1) := Lib.hid (by rw [hl1]; exact ho1)
        have hn1 : l1.length = (t.out).length + 1 := by rw [hl1]; simp
        have HLE1 := Lib.hid hl1
        have HLN1 := Lib.hid hn1
        clear hl1 hn1
        have HB1' := Lib.hid (HBb.out.trans hbl1)
        have HP1 := Lib.hid (hkp1 _ 42 _ (by decide) HPb.out)
        clear ho1 hbl1 hkp1 hlen1 hbs1
        clear xa0 xa1 xa2
        have ya0 := HP1.out.cell_ 0 (.int .i64 cx.x) rfl
        have ya1 := HP1.out.cell_ 1 (.int .i64 cx.y) rfl
        have ya2 := HP1.out.cell_ 2 (.int .i64 cx.s) rfl
        have yax := (HBR3.out.below HB1'.out HBR3.out.lt).cell_ 0 (.int .i64 bx) rfl
        go_upto_region 14 with fail
        clear yax
        clear ya0 ya1 ya2
        have hxG : wrap64 (cx.x - bx) = cx.x - bx := by have h1 := HWN.out.1.x0; have h2 := HWN.out.1.x1; have h3 := HWN.out.2.1.1; have h4 := HBB.out.1; unfold wrap64; omega
        have g0 := HP1.out.cell_ 0 (.int .i64 cx.x) rfl
        have g1 := HP1.out.cell_ 1 (.int .i64 cx.y) rfl
        have g2 := HP1.out.cell_ 2 (.int .i64 cx.s) rfl
        by_cases hG : bx < cx.x
        · have dG : decide (bx < cx.x) = true := decide_eq_true hG
          have HG := Lib.hid hG
          clear hG
          have hlen2 : (l1).length < 4294967296 := by have h1 := HWN.out.1.n; have h2 := HWN.out.2.2; have := HLN1.out; omega
          have hbs2 : w3.heap.size ≤ wp1.heap.size := HB1'.out.size
          go_wp2_with (at_builtin; refine wpList_pushPB rfl _ _ _ rfl w3.heap.size 31 Tryd.underlying28 Tryd.infoRun _ (l1) rfl HO1.out _ _ rfl hlen2 hbs2 ?_)
          intro v2 wp2 ho2 hbl2 hkp2
          obtain ⟨l2, hl2⟩ : ∃ l2, l2 = l1 ++ [(cx.x - bx, 0)] := ⟨_, rfl⟩
          have HO2 : Hid (OwnP 31 wp2 w3.heap.size v2 l2) := Lib.hid (by rw [hl2]; exact ho2)
          have hn2 : l2.length = (l1).length + 1 := by rw [hl2]; simp
          have HLE2 := Lib.hid hl2
          have HLN2 := Lib.hid hn2
          clear hl2 hn2
          have HB2' := Lib.hid (HB1'.out.trans hbl2)
          have HP2 := Lib.hid (hkp2 _ 42 _ (by decide) HP1.out)
          clear ho2 hbl2 hkp2 hlen2 hbs2
          clear g0 g1 g2
          have hll : l2.length ≤ 20000 := by have h1 := HWN.out.1.n; have h2 := HWN.out.2.2; have := HLN1.out; have := HLN2.out; omega
          obtain ⟨Ar, ar, hvr, hptr, hnr⟩ := HO2.out.pts
          subst hvr
          have hpos : 0 < l2.length := by have := HLN2.out; omega
          have dX : (cx.x == bx) = false := by have := HG.out; simp; omega
          have HI : Hid (incs ⟨l2, bx, cx.y⟩ bx cx = false) := Lib.hid (by unfold incs; rw [HLE2.out]; have := HG.out; simp; intro h; omega)
          clear hptr hnr
          by_cases hkn : 0 < k
          · have hk1 : 0 < k := hkn
            have dk1 : decide (0 < k) = true := decide_eq_true hkn
            clear HPV
            have f0 := HP2.out.cell_ 0 (.int .i64 cx.x) rfl
            have f1 := HP2.out.cell_ 1 (.int .i64 cx.y) rfl
            have f2 := HP2.out.cell_ 2 (.int .i64 cx.s) rfl
            go_upto_region 16 with fail
            go_quiet (fail)
            clear f0 f1 f2
            have HOq21 := Lib.hid (HO2.out.drewN nq)
            have HBq21 := Lib.hid (below_drewN HB2'.out nq)
            have HPq21 := Lib.hid (HP2.out.drewN nq)
            generalize wp2.drewN nq = wq21 at *
            have HST := Lib.hid (step_of (bx := bx) (t := t) (a := ⟨l1, bx, cx.y⟩) (g := ⟨l2, bx, cx.y⟩) (c := cx) (b := false) (by unfold lineE; rw [if_pos HLL.out, HLE1.out]) (by unfold gapE; (try dsimp only); rw [if_pos HG.out, HLE2.out]) (HI.out))
            have h0 := HPq21.out.cell_ 0 (.int .i64 cx.x) rfl
            have h1 := HPq21.out.cell_ 1 (.int .i64 cx.y) rfl
            have h2 := HPq21.out.cell_ 2 (.int .i64 cx.s) rfl
            have hlen3 : (l2).length < 4294967296 := by have h1 := HWN.out.1.n; have h2 := HWN.out.2.2; have := HLN1.out; have := HLN2.out; omega
            have hbs3 : w3.heap.size ≤ wq21.heap.size := HBq21.out.size
            go_wp2_with (at_builtin; refine wpList_pushPB rfl _ _ _ rfl w3.heap.size 31 Tryd.underlying28 Tryd.infoRun _ (l2) rfl HOq21.out _ _ rfl hlen3 hbs3 ?_)
            intro v3 wp3 ho3 hbl3 hkp3
            obtain ⟨l3, hl3⟩ : ∃ l3, l3 = l2 ++ [(1, cx.s)] := ⟨_, rfl⟩
            have HO3 : Hid (OwnP 31 wp3 w3.heap.size v3 l3) := Lib.hid (by rw [hl3]; exact ho3)
            have hn3 : l3.length = (l2).length + 1 := by rw [hl3]; simp
            have HLE3 := Lib.hid hl3
            have HLN3 := Lib.hid hn3
            clear hl3 hn3
            have HB3' := Lib.hid (HBq21.out.trans hbl3)
            have HP3 := Lib.hid (hkp3 _ 42 _ (by decide) HPq21.out)
            clear ho3 hbl3 hkp3 hlen3 hbs3
            clear h0 h1 h2
            have hwx : wrap64 (cx.x + 1) = cx.x + 1 := by have := HWN.out.2.1.1; unfold wrap64; omega
            have z0 := HP3.out.cell_ 0 (.int .i64 cx.x) rfl
            have z1 := HP3.out.cell_ 1 (.int .i64 cx.y) rfl
            have z2 := HP3.out.cell_ 2 (.int .i64 cx.s) rfl
            go_wp2
            go_roundw
            case rel =>
              refine ⟨k + 1, by omega, by go_num, by rw [HT.out, HST.out], by rw [HT.out, HST.out], ?_, HB3'⟩
              have hx := HO3.out
              rw [HLE3.out] at hx
              rw [HT.out, HST.out]
              exact Lib.hid hx
            case measure => simp [intOf]; omega
          · have dk1 : decide (0 < k) = false := decide_eq_false hkn
            clear HPV
            have f0 := HP2.out.cell_ 0 (.int .i64 cx.x) rfl
            have f1 := HP2.out.cell_ 1 (.int .i64 cx.y) rfl
            have f2 := HP2.out.cell_ 2 (.int .i64 cx.s) rfl
            go_upto_region 16 with fail
            go_quiet (fail)
            clear f0 f1 f2
            have HOq21 := Lib.hid (HO2.out.drewN nq)
            have HBq21 := Lib.hid (below_drewN HB2'.out nq)
            have HPq21 := Lib.hid (HP2.out.drewN nq)
            generalize wp2.drewN nq = wq21 at *
            have HST := Lib.hid (step_of (bx := bx) (t := t) (a := ⟨l1, bx, cx.y⟩) (g := ⟨l2, bx, cx.y⟩) (c := cx) (b := false) (by unfold lineE; rw [if_pos HLL.out, HLE1.out]) (by unfold gapE; (try dsimp only); rw [if_pos HG.out, HLE2.out]) (HI.out))
            have h0 := HPq21.out.cell_ 0 (.int .i64 cx.x) rfl
            have h1 := HPq21.out.cell_ 1 (.int .i64 cx.y) rfl
            have h2 := HPq21.out.cell_ 2 (.int .i64 cx.s) rfl
            have hlen3 : (l2).length < 4294967296 := by have h1 := HWN.out.1.n; have h2 := HWN.out.2.2; have := HLN1.out; have := HLN2.out; omega
            have hbs3 : w3.heap.size ≤ wq21.heap.size := HBq21.out.size
            go_wp2_with (at_builtin; refine wpList_pushPB rfl _ _ _ rfl w3.heap.size 31 Tryd.underlying28 Tryd.infoRun _ (l2) rfl HOq21.out _ _ rfl hlen3 hbs3 ?_)
            intro v3 wp3 ho3 hbl3 hkp3
            obtain ⟨l3, hl3⟩ : ∃ l3, l3 = l2 ++ [(1, cx.s)] := ⟨_, rfl⟩
            have HO3 : Hid (OwnP 31 wp3 w3.heap.size v3 l3) := Lib.hid (by rw [hl3]; exact ho3)
            have hn3 : l3.length = (l2).length + 1 := by rw [hl3]; simp
            have HLE3 := Lib.hid hl3
            have HLN3 := Lib.hid hn3
            clear hl3 hn3
            have HB3' := Lib.hid (HBq21.out.trans hbl3)
            have HP3 := Lib.hid (hkp3 _ 42 _ (by decide) HPq21.out)
            clear ho3 hbl3 hkp3 hlen3 hbs3
            clear h0 h1 h2
            have hwx : wrap64 (cx.x + 1) = cx.x + 1 := by have := HWN.out.2.1.1; unfold wrap64; omega
            have z0 := HP3.out.cell_ 0 (.int .i64 cx.x) rfl
            have z1 := HP3.out.cell_ 1 (.int .i64 cx.y) rfl
            have z2 := HP3.out.cell_ 2 (.int .i64 cx.s) rfl
            go_wp2
            go_roundw
            case rel =>
              refine ⟨k + 1, by omega, by go_num, by rw [HT.out, HST.out], by rw [HT.out, HST.out], ?_, HB3'⟩
              have hx := HO3.out
              rw [HLE3.out] at hx
              rw [HT.out, HST.out]
              exact Lib.hid hx
            case measure => simp [intOf]; omega
        · have dG : decide (bx < cx.x) = false := decide_eq_false hG
          have HG := Lib.hid hG
          clear hG
          have hll : l1.length ≤ 20000 := by have h1 := HWN.out.1.n; have h2 := HWN.out.2.2; have := HLN1.out; omega
          obtain ⟨Ar, ar, hvr, hptr, hnr⟩ := HO1.out.pts
          subst hvr
          have hpos : 0 < l1.length := by have := HLN1.out; omega
          have HI : Hid (incs ⟨l1, bx, cx.y⟩ bx cx = false) := Lib.hid (by unfold incs; rw [HLE1.out]; have := HWN.out.2.1.2.2; simp; intro h; omega)
          clear hptr hnr
          by_cases hkn : 0 < k
          · have hk1 : 0 < k := hkn
            have dk1 : decide (0 < k) = true := decide_eq_true hkn
            by_cases hX : cx.x = bx
            · have dX : (cx.x == bx) = true := by simp [hX]
              have dY : (pv.y == cx.y) = false := by have := HPV.out.2.2 hk1; have h := HLL.out; simp; omega
              clear hX
              obtain ⟨bq, oq, eq0, -, hq0, hq1, hq2⟩ := (ha.ext (HB3.out.trans (HB1'.out.mono HB3.out.size))).at_ (k := k - 1) (by omega)
              injection eq0 with eq0
              injection eq0 with eq1 eq2
              subst eq1 eq2
              rw [HPV.out.1] at hq0 hq1 hq2
              have f0 := HP1.out.cell_ 0 (.int .i64 cx.x) rfl
              have f1 := HP1.out.cell_ 1 (.int .i64 cx.y) rfl
              have f2 := HP1.out.cell_ 2 (.int .i64 cx.s) rfl
              go_upto_region 16 with fail
              go_quiet (fail)
              clear f0 f1 f2
              have HOq11 := Lib.hid (HO1.out.drewN nq)
              have HBq11 := Lib.hid (below_drewN HB1'.out nq)
              have HPq11 := Lib.hid (HP1.out.drewN nq)
              generalize wp1.drewN nq = wq11 at *
              clear hq0 hq1 hq2
              have HST := Lib.hid (step_of (bx := bx) (t := t) (a := ⟨l1, bx, cx.y⟩) (g := ⟨l1, bx, cx.y⟩) (c := cx) (b := false) (by unfold lineE; rw [if_pos HLL.out, HLE1.out]) (by unfold gapE; (try dsimp only); rw [if_neg (by have := HG.out; first | omega | (dsimp only; omega))]) (HI.out))
              have h0 := HPq11.out.cell_ 0 (.int .i64 cx.x) rfl
              have h1 := HPq11.out.cell_ 1 (.int .i64 cx.y) rfl
              have h2 := HPq11.out.cell_ 2 (.int .i64 cx.s) rfl
              have hlen2 : (l1).length < 4294967296 := by have h1 := HWN.out.1.n; have h2 := HWN.out.2.2; have := HLN1.out; omega
              have hbs2 : w3.heap.size ≤ wq11.heap.size := HBq11.out.size
              go_wp2_with (at_builtin; refine wpList_pushPB rfl _ _ _ rfl w3.heap.size 31 Tryd.underlying28 Tryd.infoRun _ (l1) rfl HOq11.out _ _ rfl hlen2 hbs2 ?_)
              intro v2 wp2 ho2 hbl2 hkp2
              obtain ⟨l2, hl2⟩ : ∃ l2, l2 = l1 ++ [(1, cx.s)] := ⟨_, rfl⟩
              have HO2 : Hid (OwnP 31 wp2 w3.heap.size v2 l2) := Lib.hid (by rw [hl2]; exact ho2)
              have hn2 : l2.length = (l1).length + 1 := by rw [hl2]; simp
              have HLE2 := Lib.hid hl2
              have HLN2 := Lib.hid hn2
              clear hl2 hn2
              have HB2' := Lib.hid (HBq11.out.trans hbl2)
              have HP2 := Lib.hid (hkp2 _ 42 _ (by decide) HPq11.out)
              clear ho2 hbl2 hkp2 hlen2 hbs2
              clear h0 h1 h2
              have hwx : wrap64 (cx.x + 1) = cx.x + 1 := by have := HWN.out.2.1.1; unfold wrap64; omega
              have z0 := HP2.out.cell_ 0 (.int .i64 cx.x) rfl
              have z1 := HP2.out.cell_ 1 (.int .i64 cx.y) rfl
              have z2 := HP2.out.cell_ 2 (.int .i64 cx.s) rfl
              go_wp2
              go_roundw
              case rel =>
                refine ⟨k + 1, by omega, by go_num, by rw [HT.out, HST.out], by rw [HT.out, HST.out], ?_, HB2'⟩
                have hx := HO2.out
                rw [HLE2.out] at hx
                rw [HT.out, HST.out]
                exact Lib.hid hx
              case measure => simp [intOf]; omega
            · have dX : (cx.x == bx) = false := by simpa using hX
              clear hX
              have f0 := HP1.out.cell_ 0 (.int .i64 cx.x) rfl
              have f1 := HP1.out.cell_ 1 (.int .i64 cx.y) rfl
              have f2 := HP1.out.cell_ 2 (.int .i64 cx.s) rfl
              go_upto_region 16 with fail
              go_quiet (fail)
              clear f0 f1 f2
              have HOq11 := Lib.hid (HO1.out.drewN nq)
              have HBq11 := Lib.hid (below_drewN HB1'.out nq)
              have HPq11 := Lib.hid (HP1.out.drewN nq)
              generalize wp1.drewN nq = wq11 at *
              have HST := Lib.hid (step_of (bx := bx) (t := t) (a := ⟨l1, bx, cx.y⟩) (g := ⟨l1, bx, cx.y⟩) (c := cx) (b := false) (by unfold lineE; rw [if_pos HLL.out, HLE1.out]) (by unfold gapE; (try dsimp only); rw [if_neg (by have := HG.out; first | omega | (dsimp only; omega))]) (HI.out))
              have h0 := HPq11.out.cell_ 0 (.int .i64 cx.x) rfl
              have h1 := HPq11.out.cell_ 1 (.int .i64 cx.y) rfl
              have h2 := HPq11.out.cell_ 2 (.int .i64 cx.s) rfl
              have hlen2 : (l1).length < 4294967296 := by have h1 := HWN.out.1.n; have h2 := HWN.out.2.2; have := HLN1.out; omega
              have hbs2 : w3.heap.size ≤ wq11.heap.size := HBq11.out.size
              go_wp2_with (at_builtin; refine wpList_pushPB rfl _ _ _ rfl w3.heap.size 31 Tryd.underlying28 Tryd.infoRun _ (l1) rfl HOq11.out _ _ rfl hlen2 hbs2 ?_)
              intro v2 wp2 ho2 hbl2 hkp2
              obtain ⟨l2, hl2⟩ : ∃ l2, l2 = l1 ++ [(1, cx.s)] := ⟨_, rfl⟩
              have HO2 : Hid (OwnP 31 wp2 w3.heap.size v2 l2) := Lib.hid (by rw [hl2]; exact ho2)
              have hn2 : l2.length = (l1).length + 1 := by rw [hl2]; simp
              have HLE2 := Lib.hid hl2
              have HLN2 := Lib.hid hn2
              clear hl2 hn2
              have HB2' := Lib.hid (HBq11.out.trans hbl2)
              have HP2 := Lib.hid (hkp2 _ 42 _ (by decide) HPq11.out)
              clear ho2 hbl2 hkp2 hlen2 hbs2
              clear h0 h1 h2
              have hwx : wrap64 (cx.x + 1) = cx.x + 1 := by have := HWN.out.2.1.1; unfold wrap64; omega
              have z0 := HP2.out.cell_ 0 (.int .i64 cx.x) rfl
              have z1 := HP2.out.cell_ 1 (.int .i64 cx.y) rfl
              have z2 := HP2.out.cell_ 2 (.int .i64 cx.s) rfl
              go_wp2
              go_roundw
              case rel =>
                refine ⟨k + 1, by omega, by go_num, by rw [HT.out, HST.out], by rw [HT.out, HST.out], ?_, HB2'⟩
                have hx := HO2.out
                rw [HLE2.out] at hx
                rw [HT.out, HST.out]
                exact Lib.hid hx
              case measure => simp [intOf]; omega
          · have dk1 : decide (0 < k) = false := decide_eq_false hkn
            clear HPV
            have f0 := HP1.out.cell_ 0 (.int .i64 cx.x) rfl
            have f1 := HP1.out.cell_ 1 (.int .i64 cx.y) rfl
            have f2 := HP1.out.cell_ 2 (.int .i64 cx.s) rfl
            go_upto_region 16 with fail
            go_quiet (fail)
            clear f0 f1 f2
            have HOq11 := Lib.hid (HO1.out.drewN nq)
            have HBq11 := Lib.hid (below_drewN HB1'.out nq)
            have HPq11 := Lib.hid (HP1.out.drewN nq)
            generalize wp1.drewN nq = wq11 at *
            have HST := Lib.hid (step_of (bx := bx) (t := t) (a := ⟨l1, bx, cx.y⟩) (g := ⟨l1, bx, cx.y⟩) (c := cx) (b := false) (by unfold lineE; rw [if_pos HLL.out, HLE1.out]) (by unfold gapE; (try dsimp only); rw [if_neg (by have := HG.out; first | omega | (dsimp only; omega))]) (HI.out))
            have h0 := HPq11.out.cell_ 0 (.int .i64 cx.x) rfl
            have h1 := HPq11.out.cell_ 1 (.int .i64 cx.y) rfl
            have h2 := HPq11.out.cell_ 2 (.int .i64 cx.s) rfl
            have hlen2 : (l1).length < 4294967296 := by have h1 := HWN.out.1.n; have h2 := HWN.out.2.2; have := HLN1.out; omega
            have hbs2 : w3.heap.size ≤ wq11.heap.size := HBq11.out.size
            go_wp2_with (at_builtin; refine wpList_pushPB rfl _ _ _ rfl w3.heap.size 31 Tryd.underlying28 Tryd.infoRun _ (l1) rfl HOq11.out _ _ rfl hlen2 hbs2 ?_)
            intro v2 wp2 ho2 hbl2 hkp2
            obtain ⟨l2, hl2⟩ : ∃ l2, l2 = l1 ++ [(1, cx.s)] := ⟨_, rfl⟩
            have HO2 : Hid (OwnP 31 wp2 w3.heap.size v2 l2) := Lib.hid (by rw [hl2]; exact ho2)
            have hn2 : l2.length = (l1).length + 1 := by rw [hl2]; simp
            have HLE2 := Lib.hid hl2
            have HLN2 := Lib.hid hn2
            clear hl2 hn2
            have HB2' := Lib.hid (HBq11.out.trans hbl2)
            have HP2 := Lib.hid (hkp2 _ 42 _ (by decide) HPq11.out)
            clear ho2 hbl2 hkp2 hlen2 hbs2
            clear h0 h1 h2
            have hwx : wrap64 (cx.x + 1) = cx.x + 1 := by have := HWN.out.2.1.1; unfold wrap64; omega
            have z0 := HP2.out.cell_ 0 (.int .i64 cx.x) rfl
            have z1 := HP2.out.cell_ 1 (.int .i64 cx.y) rfl
            have z2 := HP2.out.cell_ 2 (.int .i64 cx.s) rfl
            go_wp2
            go_roundw
            case rel =>
              refine ⟨k + 1, by omega, by go_num, by rw [HT.out, HST.out], by rw [HT.out, HST.out], ?_, HB2'⟩
              have hx := HO2.out
              rw [HLE2.out] at hx
              rw [HT.out, HST.out]
              exact Lib.hid hx
            case measure => simp [intOf]; omega
      · have dL : decide (t.y < cx.y) = false := decide_eq_false hL
        have HLL := Lib.hid hL
        clear hL
        subst e1
        have xa0 := HPb.out.cell_ 0 (.int .i64 cx.x) rfl
        have xa1 := HPb.out.cell_ 1 (.int .i64 cx.y) rfl
        have xa2 := HPb.out.cell_ 2 (.int .i64 cx.s) rfl
        go_upto_if 36 with fail
        rw [← HW.out]
        clear xa0 xa1 xa2
        have hxG : wrap64 (cx.x - t.x) = cx.x - t.x := by have h1 := HWN.out.1.x0; have h2 := HWN.out.1.x1; have h3 := HWN.out.2.1.1; have h4 := HBB.out.1; unfold wrap64; omega
        have g0 := HPb.out.cell_ 0 (.int .i64 cx.x) rfl
        have g1 := HPb.out.cell_ 1 (.int .i64 cx.y) rfl
        have g2 := HPb.out.cell_ 2 (.int .i64 cx.s) rfl
        by_cases hG : t.x < cx.x
        · have dG : decide (t.x < cx.x) = true := decide_eq_true hG
          have HG := Lib.hid hG
          clear hG
          have hlen1 : (t.out).length < 4294967296 := by have h1 := HWN.out.1.n; have h2 := HWN.out.2.2; omega
          have hbs1 : w3.heap.size ≤ wb.heap.size := HBb.out.size
          go_wp2_with (at_builtin; refine wpList_pushPB rfl _ _ _ rfl w3.heap.size 31 Tryd.underlying28 Tryd.infoRun _ (t.out) rfl HOb.out _ _ rfl hlen1 hbs1 ?_)
          intro v1 wp1 ho1 hbl1 hkp1
          obtain ⟨l1, hl1⟩ : ∃ l1, l1 = t.out ++ [(cx.x - t.x, 0)] := ⟨_, rfl⟩
          have HO1 : Hid (OwnP 31 wp1 w3.heap.size v1 l1) := Lib.hid (by rw [hl1]; exact ho1)
          have hn1 : l1.length = (t.out).length + 1 := by rw [hl1]; simp
          have HLE1 := Lib.hid hl1
          have HLN1 := Lib.hid hn1
          clear hl1 hn1
          have HB1' := Lib.hid (HBb.out.trans hbl1)
          have HP1 := Lib.hid (hkp1 _ 42 _ (by decide) HPb.out)
          clear ho1 hbl1 hkp1 hlen1 hbs1
          clear g0 g1 g2
          have hll : l1.length ≤ 20000 := by have h1 := HWN.out.1.n; have h2 := HWN.out.2.2; have := HLN1.out; omega
          obtain ⟨Ar, ar, hvr, hptr, hnr⟩ := HO1.out.pts
          subst hvr
          have hpos : 0 < l1.length := by have := HLN1.out; omega
          have dX : (cx.x == t.x) = false := by have := HG.out; simp; omega
          have HI : Hid (incs ⟨l1, t.x, t.y⟩ t.x cx = false) := Lib.hid (by unfold incs; rw [HLE1.out]; have := HG.out; simp; intro h; omega)
          clear hptr hnr
          by_cases hkn : 0 < k
          · have hk1 : 0 < k := hkn
            have dk1 : decide (0 < k) = true := decide_eq_true hkn
            clear HPV
            have f0 := HP1.out.cell_ 0 (.int .i64 cx.x) rfl
            have f1 := HP1.out.cell_ 1 (.int .i64 cx.y) rfl
            have f2 := HP1.out.cell_ 2 (.int .i64 cx.s) rfl
            go_upto_region 16 with fail
            go_quiet (fail)
            clear f0 f1 f2
            have HOq11 := Lib.hid (HO1.out.drewN nq)
            have HBq11 := Lib.hid (below_drewN HB1'.out nq)
            have HPq11 := Lib.hid (HP1.out.drewN nq)
            generalize wp1.drewN nq = wq11 at *
            have HST := Lib.hid (step_of (bx := bx) (t := t) (a := t) (g := ⟨l1, t.x, t.y⟩) (c := cx) (b := false) (by unfold lineE; rw [if_neg (by have := HLL.out; omega)]) (by unfold gapE; (try dsimp only); rw [if_pos HG.out, HLE1.out]) (HI.out))
            have h0 := HPq11.out.cell_ 0 (.int .i64 cx.x) rfl
            have h1 := HPq11.out.cell_ 1 (.int .i64 cx.y) rfl
            have h2 := HPq11.out.cell_ 2 (.int .i64 cx.s) rfl
            have hlen2 : (l1).length < 4294967296 := by have h1 := HWN.out.1.n; have h2 := HWN.out.2.2; have := HLN1.out; omega
            have hbs2 : w3.heap.size ≤ wq11.heap.size := HBq11.out.size
            go_wp2_with (at_builtin; refine wpList_pushPB rfl _ _ _ rfl w3.heap.size 31 Tryd.underlying28 Tryd.infoRun _ (l1) rfl HOq11.out _ _ rfl hlen2 hbs2 ?_)
            intro v2 wp2 ho2 hbl2 hkp2
            obtain ⟨l2, hl2⟩ : ∃ l2, l2 = l1 ++ [(1, cx.s)] := ⟨_, rfl⟩
            have HO2 : Hid (OwnP 31 wp2 w3.heap.size v2 l2) := Lib.hid (by rw [hl2]; exact ho2)
            have hn2 : l2.length = (l1).length + 1 := by rw [hl2]; simp
            have HLE2 := Lib.hid hl2
            have HLN2 := Lib.hid hn2
            clear hl2 hn2
            have HB2' := Lib.hid (HBq11.out.trans hbl2)
            have HP2 := Lib.hid (hkp2 _ 42 _ (by decide) HPq11.out)
            clear ho2 hbl2 hkp2 hlen2 hbs2
            clear h0 h1 h2
            have hwx : wrap64 (cx.x + 1) = cx.x + 1 := by have := HWN.out.2.1.1; unfold wrap64; omega
            have z0 := HP2.out.cell_ 0 (.int .i64 cx.x) rfl
            have z1 := HP2.out.cell_ 1 (.int .i64 cx.y) rfl
            have z2 := HP2.out.cell_ 2 (.int .i64 cx.s) rfl
            go_wp2
            go_roundw
            case rel =>
              refine ⟨k + 1, by omega, by go_num, by rw [HT.out, HST.out], by rw [HT.out, HST.out], ?_, HB2'⟩
              have hx := HO2.out
              rw [HLE2.out] at hx
              rw [HT.out, HST.out]
              exact Lib.hid hx
            case measure => simp [intOf]; omega
          · have dk1 : decide (0 < k) = false := decide_eq_false hkn
            clear HPV
            have f0 := HP1.out.cell_ 0 (.int .i64 cx.x) rfl
            have f1 := HP1.out.cell_ 1 (.int .i64 cx.y) rfl
            have f2 := HP1.out.cell_ 2 (.int .i64 cx.s) rfl
            go_upto_region 16 with fail
            go_quiet (fail)
            clear f0 f1 f2
            have HOq11 := Lib.hid (HO1.out.drewN nq)
            have HBq11 := Lib.hid (below_drewN HB1'.out nq)
            have HPq11 := Lib.hid (HP1.out.drewN nq)
            generalize wp1.drewN nq = wq11 at *
            have HST := Lib.hid (step_of (bx := bx) (t := t) (a := t) (g := ⟨l1, t.x, t.y⟩) (c := cx) (b := false) (by unfold lineE; rw [if_neg (by have := HLL.out; omega)]) (by unfold gapE; (try dsimp only); rw [if_pos HG.out, HLE1.out]) (HI.out))
            have h0 := HPq11.out.cell_ 0 (.int .i64 cx.x) rfl
            have h1 := HPq11.out.cell_ 1 (.int .i64 cx.y) rfl
            have h2 := HPq11.out.cell_ 2 (.int .i64 cx.s) rfl
            have hlen2 : (l1).length < 4294967296 := by have h1 := HWN.out.1.n; have h2 := HWN.out.2.2; have := HLN1.out; omega
            have hbs2 : w3.heap.size ≤ wq11.heap.size := HBq11.out.size
            go_wp2_with (at_builtin; refine wpList_pushPB rfl _ _ _ rfl w3.heap.size 31 Tryd.underlying28 Tryd.infoRun _ (l1) rfl HOq11.out _ _ rfl hlen2 hbs2 ?_)
            intro v2 wp2 ho2 hbl2 hkp2
            obtain ⟨l2, hl2⟩ : ∃ l2, l2 = l1 ++ [(1, cx.s)] := ⟨_, rfl⟩
            have HO2 : Hid (OwnP 31 wp2 w3.heap.size v2 l2) := Lib.hid (by rw [hl2]; exact ho2)
            have hn2 : l2.length = (l1).length + 1 := by rw [hl2]; simp
            have HLE2 := Lib.hid hl2
            have HLN2 := Lib.hid hn2
            clear hl2 hn2
            have HB2' := Lib.hid (HBq11.out.trans hbl2)
            have HP2 := Lib.hid (hkp2 _ 42 _ (by decide) HPq11.out)
            clear ho2 hbl2 hkp2 hlen2 hbs2
            clear h0 h1 h2
            have hwx : wrap64 (cx.x + 1) = cx.x + 1 := by have := HWN.out.2.1.1; unfold wrap64; omega
            have z0 := HP2.out.cell_ 0 (.int .i64 cx.x) rfl
            have z1 := HP2.out.cell_ 1 (.int .i64 cx.y) rfl
            have z2 := HP2.out.cell_ 2 (.int .i64 cx.s) rfl
            go_wp2
            go_roundw
            case rel =>
              refine ⟨k + 1, by omega, by go_num, by rw [HT.out, HST.out], by rw [HT.out, HST.out], ?_, HB2'⟩
              have hx := HO2.out
              rw [HLE2.out] at hx
              rw [HT.out, HST.out]
              exact Lib.hid hx
            case measure => simp [intOf]; omega
        · have dG : decide (t.x < cx.x) = false := decide_eq_false hG
          have HG := Lib.hid hG
          clear hG
          obtain ⟨l0, hl0⟩ : ∃ l0, l0 = t.out := ⟨_, rfl⟩
          have HLE0 := Lib.hid hl0
          rw [← hl0] at hv
          have HOl : Hid (OwnP 31 wb w3.heap.size u4 l0) := Lib.hid (by rw [hl0]; exact HOb.out)
          have hll : l0.length ≤ 20000 := by rw [hl0]; have h1 := HWN.out.1.n; have h2 := HWN.out.2.2; omega
          clear hl0
          subst hv
          have hptr := HOl.out.pts
          obtain ⟨Ar, ar, hvr, hptr, hnr⟩ := hptr
          injection hvr with hv1 hv2 hv3
          subst hv1 hv3
          clear hv2
          by_cases hkn : 0 < k
          · have hk1 : 0 < k := hkn
            have dk1 : decide (0 < k) = true := decide_eq_true hkn
            obtain ⟨mm, hmm⟩ := (HPV.out.2.1 hk1).2.2
            rw [← HLE0.out] at hmm
            obtain ⟨q, hl0⟩ : ∃ q, l0 = q ++ [(mm, pv.s)] := ⟨l0.dropLast, by rw [List.getLast?_eq_some_iff] at hmm; obtain ⟨ys, hys⟩ := hmm; rw [hys]; simp⟩
            clear hmm
            have hpos : 0 < l0.length := by rw [hl0]; simp
            have dge : decide ((0 : Int) ≤ (l0.length : Int) - 1) = true := decide_eq_true (by omega)
            have dge1 : decide ((1 : Int) ≤ (l0.length : Int)) = true := decide_eq_true (by omega)
            have dge2 : 1 ≤ l0.length := hpos
            obtain ⟨bR, oR, hAr, -, hr1, hr2⟩ := hptr.at_ (k := l0.length - 1) (by omega)
            have hlast : l0[l0.length - 1] = (mm, pv.s) := by simp [hl0]
            rw [hlast] at hr1 hr2
            clear hlast
            have HL0 := Lib.hid hl0
            have HIN : Hid (incs t t.x cx = (decide (cx.x = t.x) && decide (pv.s = cx.s))) := Lib.hid (by unfold incs; rw [← HLE0.out, hl0]; simp)
            clear hl0
            have dPY : (pv.y == t.y) = true := by have := (HPV.out.2.1 hk1).2.1; simp; omega
            have hwt : wrap64 (t.x - 1) = t.x - 1 := by have h1 := HWN.out.1.x0; have h2 := HWN.out.1.x1; unfold wrap64; omega
            have dPX : (pv.x == t.x - 1) = true := by have := (HPV.out.2.1 hk1).1; simp; omega
            by_cases hX : cx.x = t.x
            · have dX : (cx.x == t.x) = true := by simp [hX]
              by_cases hS : pv.s = cx.s
              · have dS : (pv.s == cx.s) = true := by simp [hS]
                have HI : Hid (incs t t.x cx = true) := Lib.hid (by rw [HIN.out, decide_eq_true hX, decide_eq_true hS]; rfl)
                have hrb : 0 ≤ mm ∧ mm ≤ k := HWN.out.1.c (mm, pv.s) (by rw [← HLE0.out, HL0.out]; simp) (by have := HWN.out.2.1.2.2; show 1 ≤ pv.s; rw [hS]; omega)
                have hwr : wrap64 (mm + 1) = mm + 1 := by unfold wrap64; omega
                clear hX hS hrb
                rcases HOl.out.2 with ⟨hz, -⟩ | ⟨gR, capR, curR, hz, hgb, hgr, hgx⟩
                · injection hz with hz1 hz2
                  omega
                · injection hz with hz1 hz2 hz3
                  subst hz1
                  injection hAr with hAr
                  injection hAr with hA1 hA2
                  subst hA1 hA2 hz3
                  simp only [Nat.zero_add] at hr1 hr2
                  have HGB := Lib.hid hgb
                  have HGR := Lib.hid hgr
                  clear hz2 hgb hgx hptr hnr hgr
                  obtain ⟨bq, oq, eq0, -, hq0, hq1, hq2⟩ := (ha.ext (HB3.out.trans (HBb.out.mono HB3.out.size))).at_ (k := k - 1) (by omega)
                  injection eq0 with eq0
                  injection eq0 with eq1 eq2
                  subst eq1 eq2
                  rw [HPV.out.1] at hq0 hq1 hq2
                  have f0 := HPb.out.cell_ 0 (.int .i64 cx.x) rfl
                  have f1 := HPb.out.cell_ 1 (.int .i64 cx.y) rfl
                  have f2 := HPb.out.cell_ 2 (.int .i64 cx.s) rfl
                  go_upto_region 16 with fail
                  go_quiet (fail)
                  clear f0 f1 f2
                  clear hq0 hq1 hq2
                  have hr3 : (wb.drewN nq).cell? ⟨gR, (l0.length - 1) * 2, none⟩ = some (.int .i64 mm) := hr1
                  have hgr2 : Blk (wb.drewN nq) gR 31 curR := HGR.out
                  clear hr1 hr2 HGR
                  have HOq01 := Lib.hid (HOl.out.drewN nq)
                  have HBq01 := Lib.hid (below_drewN HBb.out nq)
                  have HPq01 := Lib.hid (HPb.out.drewN nq)
                  generalize wb.drewN nq = wq01 at *
                  have HGR := Lib.hid hgr2
                  have hfz := hgr2.frozen ((l0.length - 1) * 2)
                  clear hgr2
                  go_upto_region 17 with fail
                  go_region
                  have hnq : l0.length - 1 = q.length := by rw [HL0.out]; simp
                  have hnl : l0.length = (q ++ [(mm + 1, pv.s)]).length := by rw [HL0.out]; simp
                  have hst := World.ownsRow.stored (w := wq01) (base := w3.heap.size) (e := 31) (size := 2) (n := l0.length) (xs := l0.flatMap ptCells) HOq01.out ((l0.length - 1) * 2) (.int .i64 (mm + 1))
                  have HOz : Hid (OwnP 31 ((wq01.setCell ⟨gR, (l0.length - 1) * 2, none⟩ (.int .i64 (mm + 1))).drew) w3.heap.size (.slice (some ⟨gR, 0, none⟩) l0.length a2) (q ++ [(mm + 1, pv.s)])) := Lib.hid (by
                    unfold OwnP
                    rw [← flat_snoc q (mm, pv.s) (mm + 1), ← hnl, ← hnq, ← HL0.out]
                    exact hst.1)
                  have HBz : Hid (Below w3.heap.size w3 ((wq01.setCell ⟨gR, (l0.length - 1) * 2, none⟩ (.int .i64 (mm + 1))).drew)) := Lib.hid (HBq01.out.setCell (p := ⟨gR, (l0.length - 1) * 2, none⟩) HGB.out _).drew
                  have HPz : Hid (Blk ((wq01.setCell ⟨gR, (l0.length - 1) * 2, none⟩ (.int .i64 (mm + 1))).drew) wr.heap.size 42 #[.int .i64 cx.x, .int .i64 cx.y, .int .i64 cx.s]) := Lib.hid (HPq01.out.far (p := ⟨gR, (l0.length - 1) * 2, none⟩) (HPq01.out.ne_ HGR.out (by decide)) _).drew
                  have HST := Lib.hid (step_of (bx := bx) (t := t) (a := t) (g := t) (c := cx) (b := true) (by unfold lineE; rw [if_neg (by have := HLL.out; omega)]) (by unfold gapE; rw [if_neg (by have := HG.out; omega)]) (HI.out))
                  have HBM : Hid (bump t.out = q ++ [(mm + 1, pv.s)]) := Lib.hid (by rw [← HLE0.out, HL0.out]; unfold bump; simp)
                  clear hnq hnl hst hfz hr3
                  generalize (wq01.setCell ⟨gR, (l0.length - 1) * 2, none⟩ (.int .i64 (mm + 1))).drew = wz at *
                  have z0 := HPz.out.cell_ 0 (.int .i64 cx.x) rfl
                  have z1 := HPz.out.cell_ 1 (.int .i64 cx.y) rfl
                  have z2 := HPz.out.cell_ 2 (.int .i64 cx.s) rfl
                  have hwx : wrap64 (cx.x + 1) = cx.x + 1 := by have := HWN.out.2.1.1; unfold wrap64; omega
                  go_wp2
                  go_roundw
                  case rel =>
                    refine ⟨k + 1, by omega, by go_num, by rw [HT.out, HST.out], by rw [HT.out, HST.out], ?_, HBz⟩
                    rw [HT.out, HST.out]
                    show Hid (OwnP 31 wz w3.heap.size _ (bump t.out))
                    rw [HBM.out]
                    exact HOz
                  case measure => simp [intOf]; omega
              · have dS : (pv.s == cx.s) = false := by simpa using hS
                have HI : Hid (incs t t.x cx = false) := Lib.hid (by rw [HIN.out, decide_eq_false hS, Bool.and_false])
                subst hAr
                clear hX hS
                obtain ⟨bq, oq, eq0, -, hq0, hq1, hq2⟩ := (ha.ext (HB3.out.trans (HBb.out.mono HB3.out.size))).at_ (k := k - 1) (by omega)
                injection eq0 with eq0
                injection eq0 with eq1 eq2
                subst eq1 eq2
                rw [HPV.out.1] at hq0 hq1 hq2
                have f0 := HPb.out.cell_ 0 (.int .i64 cx.x) rfl
                have f1 := HPb.out.cell_ 1 (.int .i64 cx.y) rfl
                have f2 := HPb.out.cell_ 2 (.int .i64 cx.s) rfl
                go_upto_region 16 with fail
                go_quiet (fail)
                clear f0 f1 f2
                have HOq01 := Lib.hid (HOl.out.drewN nq)
                have HBq01 := Lib.hid (below_drewN HBb.out nq)
                have HPq01 := Lib.hid (HPb.out.drewN nq)
                generalize wb.drewN nq = wq01 at *
                clear hq0 hq1 hq2
                have HST := Lib.hid (step_of (bx := bx) (t := t) (a := t) (g := t) (c := cx) (b := false) (by unfold lineE; rw [if_neg (by have := HLL.out; omega)]) (by unfold gapE; (try dsimp only); rw [if_neg (by have := HG.out; first | omega | (dsimp only; omega))]) (HI.out))
                have h0 := HPq01.out.cell_ 0 (.int .i64 cx.x) rfl
                have h1 := HPq01.out.cell_ 1 (.int .i64 cx.y) rfl
                have h2 := HPq01.out.cell_ 2 (.int .i64 cx.s) rfl
                have hlen1 : (l0).length < 4294967296 := by have h1 := HWN.out.1.n; have h2 := HWN.out.2.2; omega
                have hbs1 : w3.heap.size ≤ wq01.heap.size := HBq01.out.size
                go_wp2_with (at_builtin; refine wpList_pushPB rfl _ _ _ rfl w3.heap.size 31 Tryd.underlying28 Tryd.infoRun _ (l0) rfl HOq01.out _ _ rfl hlen1 hbs1 ?_)
                intro v1 wp1 ho1 hbl1 hkp1
                obtain ⟨l1, hl1⟩ : ∃ l1, l1 = l0 ++ [(1, cx.s)] := ⟨_, rfl⟩
                have HO1 : Hid (OwnP 31 wp1 w3.heap.size v1 l1) := Lib.hid (by rw [hl1]; exact ho1)
                have hn1 : l1.length = (l0).length + 1 := by rw [hl1]; simp
                have HLE1 := Lib.hid hl1
                have HLN1 := Lib.hid hn1
                clear hl1 hn1
                have HB1' := Lib.hid (HBq01.out.trans hbl1)
                have HP1 := Lib.hid (hkp1 _ 42 _ (by decide) HPq01.out)
                clear ho1 hbl1 hkp1 hlen1 hbs1
                clear h0 h1 h2
                have hwx : wrap64 (cx.x + 1) = cx.x + 1 := by have := HWN.out.2.1.1; unfold wrap64; omega
                have z0 := HP1.out.cell_ 0 (.int .i64 cx.x) rfl
                have z1 := HP1.out.cell_ 1 (.int .i64 cx.y) rfl
                have z2 := HP1.out.cell_ 2 (.int .i64 cx.s) rfl
                go_wp2
                go_roundw
                case rel =>
                  refine ⟨k + 1, by omega, by go_num, by rw [HT.out, HST.out], by rw [HT.out, HST.out], ?_, HB1'⟩
                  have hx := HO1.out
                  rw [HLE1.out] at hx
                  rw [HT.out, HST.out]
                  rw [HLE0.out] at hx
                  exact Lib.hid hx
                case measure => simp [intOf]; omega
            · have dX : (cx.x == t.x) = false := by simpa using hX
              have HI : Hid (incs t t.x cx = false) := Lib.hid (by rw [HIN.out, decide_eq_false hX]; rfl)
              clear hX hptr hnr hAr
              have f0 := HPb.out.cell_ 0 (.int .i64 cx.x) rfl
              have f1 := HPb.out.cell_ 1 (.int .i64 cx.y) rfl
              have f2 := HPb.out.cell_ 2 (.int .i64 cx.s) rfl
              go_upto_region 16 with fail
              go_quiet (fail)
              clear f0 f1 f2
              have HOq01 := Lib.hid (HOl.out.drewN nq)
              have HBq01 := Lib.hid (below_drewN HBb.out nq)
              have HPq01 := Lib.hid (HPb.out.drewN nq)
              generalize wb.drewN nq = wq01 at *
              have HST := Lib.hid (step_of (bx := bx) (t := t) (a := t) (g := t) (c := cx) (b := false) (by unfold lineE; rw [if_neg (by have := HLL.out; omega)]) (by unfold gapE; (try dsimp only); rw [if_neg (by have := HG.out; first | omega | (dsimp only; omega))]) (HI.out))
              have h0 := HPq01.out.cell_ 0 (.int .i64 cx.x) rfl
              have h1 := HPq01.out.cell_ 1 (.int .i64 cx.y) rfl
              have h2 := HPq01.out.cell_ 2 (.int .i64 cx.s) rfl
              have hlen1 : (l0).length < 4294967296 := by have h1 := HWN.out.1.n; have h2 := HWN.out.2.2; omega
              have hbs1 : w3.heap.size ≤ wq01.heap.size := HBq01.out.size
              go_wp2_with (at_builtin; refine wpList_pushPB rfl _ _ _ rfl w3.heap.size 31 Tryd.underlying28 Tryd.infoRun _ (l0) rfl HOq01.out _ _ rfl hlen1 hbs1 ?_)
              intro v1 wp1 ho1 hbl1 hkp1
              obtain ⟨l1, hl1⟩ : ∃ l1, l1 = l0 ++ [(1, cx.s)] := ⟨_, rfl⟩
              have HO1 : Hid (OwnP 31 wp1 w3.heap.size v1 l1) := Lib.hid (by rw [hl1]; exact ho1)
              have hn1 : l1.length = (l0).length + 1 := by rw [hl1]; simp
              have HLE1 := Lib.hid hl1
              have HLN1 := Lib.hid hn1
              clear hl1 hn1
              have HB1' := Lib.hid (HBq01.out.trans hbl1)
              have HP1 := Lib.hid (hkp1 _ 42 _ (by decide) HPq01.out)
              clear ho1 hbl1 hkp1 hlen1 hbs1
              clear h0 h1 h2
              have hwx : wrap64 (cx.x + 1) = cx.x + 1 := by have := HWN.out.2.1.1; unfold wrap64; omega
              have z0 := HP1.out.cell_ 0 (.int .i64 cx.x) rfl
              have z1 := HP1.out.cell_ 1 (.int .i64 cx.y) rfl
              have z2 := HP1.out.cell_ 2 (.int .i64 cx.s) rfl
              go_wp2
              go_roundw
              case rel =>
                refine ⟨k + 1, by omega, by go_num, by rw [HT.out, HST.out], by rw [HT.out, HST.out], ?_, HB1'⟩
                have hx := HO1.out
                rw [HLE1.out] at hx
                rw [HT.out, HST.out]
                rw [HLE0.out] at hx
                exact Lib.hid hx
              case measure => simp [intOf]; omega
          · have dk1 : decide (0 < k) = false := decide_eq_false hkn
            have HI : Hid (incs t t.x cx = false) := Lib.hid (by unfold incs; rw [HPZ.out (by omega)]; rfl)
            clear hptr hnr HPV
            have f0 := HPb.out.cell_ 0 (.int .i64 cx.x) rfl
            have f1 := HPb.out.cell_ 1 (.int .i64 cx.y) rfl
            have f2 := HPb.out.cell_ 2 (.int .i64 cx.s) rfl
            go_upto_region 16 with fail
            go_quiet (fail)
            clear f0 f1 f2
            have HOq01 := Lib.hid (HOl.out.drewN nq)
            have HBq01 := Lib.hid (below_drewN HBb.out nq)
            have HPq01 := Lib.hid (HPb.out.drewN nq)
            generalize wb.drewN nq = wq01 at *
            have HST := Lib.hid (step_of (bx := bx) (t := t) (a := t) (g := t) (c := cx) (b := false) (by unfold lineE; rw [if_neg (by have := HLL.out; omega)]) (by unfold gapE; (try dsimp only); rw [if_neg (by have := HG.out; first | omega | (dsimp only; omega))]) (HI.out))
            have h0 := HPq01.out.cell_ 0 (.int .i64 cx.x) rfl
            have h1 := HPq01.out.cell_ 1 (.int .i64 cx.y) rfl
            have h2 := HPq01.out.cell_ 2 (.int .i64 cx.s) rfl
            have hlen1 : (l0).length < 4294967296 := by have h1 := HWN.out.1.n; have h2 := HWN.out.2.2; omega
            have hbs1 : w3.heap.size ≤ wq01.heap.size := HBq01.out.size
            go_wp2_with (at_builtin; refine wpList_pushPB rfl _ _ _ rfl w3.heap.size 31 Tryd.underlying28 Tryd.infoRun _ (l0) rfl HOq01.out _ _ rfl hlen1 hbs1 ?_)
            intro v1 wp1 ho1 hbl1 hkp1
            obtain ⟨l1, hl1⟩ : ∃ l1, l1 = l0 ++ [(1, cx.s)] := ⟨_, rfl⟩
            have HO1 : Hid (OwnP 31 wp1 w3.heap.size v1 l1) := Lib.hid (by rw [hl1]; exact ho1)
            have hn1 : l1.length = (l0).length + 1 := by rw [hl1]; simp
            have HLE1 := Lib.hid hl1
            have HLN1 := Lib.hid hn1
            clear hl1 hn1
            have HB1' := Lib.hid (HBq01.out.trans hbl1)
            have HP1 := Lib.hid (hkp1 _ 42 _ (by decide) HPq01.out)
            clear ho1 hbl1 hkp1 hlen1 hbs1
            clear h0 h1 h2
            have hwx : wrap64 (cx.x + 1) = cx.x + 1 := by have := HWN.out.2.1.1; unfold wrap64; omega
            have z0 := HP1.out.cell_ 0 (.int .i64 cx.x) rfl
            have z1 := HP1.out.cell_ 1 (.int .i64 cx.y) rfl
            have z2 := HP1.out.cell_ 2 (.int .i64 cx.s) rfl
            go_wp2
            go_roundw
            case rel =>
              refine ⟨k + 1, by omega, by go_num, by rw [HT.out, HST.out], by rw [HT.out, HST.out], ?_, HB1'⟩
              have hx := HO1.out
              rw [HLE1.out] at hx
              rw [HT.out, HST.out]
              rw [HLE0.out] at hx
              exact Lib.hid hx
            case measure => simp [intOf]; omega
    · obtain rfl : k = ps.length := by omega
      obtain ⟨A2, a2, rfl, hpt, hnew⟩ := HO.out.pts
      have HR := Lib.hid (And.intro hpt hnew)
      clear hpt hnew
      go_wp2
      refine bodyPost_ret (v := .tuple #[.slice A2 (runsSt bx y0 ps ps.length).out.length a2, .int .i64 0]) (by simp [results, Tryd.results11, go_sem]) rfl ?_
      exact RetRuns.right HRT.out HF.out HR.out.1 (HR.out.2.mono HB3.out.size) HBW.out
end Go.Proofs.YtekmldneinnmoaaDoor
