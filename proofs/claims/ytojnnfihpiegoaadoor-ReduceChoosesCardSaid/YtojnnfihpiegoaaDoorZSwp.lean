/-
  reduce.swapped. No condition but bounds, and that the library's table is there.
-/
import Derived.Test.YtojnnfihpiegoaaDoorZCm
namespace Go.Proofs.YtojnnfihpiegoaaDoor
open Go.RowKit Go.Maps
set_option maxRecDepth 100000
set_option linter.unusedVariables false
set_option linter.unusedSimpArgs false

/-- it hands back a tree with the given neighbourhood and nodes of its own -/
def RetSw (st : Int) (A : Option Addr) (np c : Nat) (ns : List Nd) (w : World) (e : Ending) (w' : World) : Prop :=
  ∃ nv os, e = .returned (.agg #[.int .i64 st, .slice A np c, nv]) ∧ OwnNA w' w.heap.size nv os ∧ os.map Hd.nd = ns ∧ Below w.heap.size w w'
theorem zset {nx : List Int} {q : Nat} (h : nx.length < q) (v : Int) : (nx ++ List.replicate (q - nx.length) (0 : Int)).set nx.length v = (nx ++ [v]) ++ List.replicate (q - (nx ++ [v]).length) 0 := by
  rw [List.set_append_right _ _ (Nat.le_refl _), Nat.sub_self]
  obtain ⟨m, hm⟩ : ∃ m, q - nx.length = m + 1 := ⟨q - nx.length - 1, by omega⟩
  have hm2 : q - (nx ++ [v]).length = m := by simp; omega
  rw [hm, hm2, List.replicate_succ, List.set_cons_zero, List.append_assoc]
  rfl
theorem zfull {nx : List Int} {q : Nat} (h : nx.length = q) : nx ++ List.replicate (q - nx.length) (0 : Int) = nx := by
  rw [h, Nat.sub_self]
  simp
theorem kids_len {X : List Int} {n i : Nat} (hl : X.length = n) (hi : i ≤ n) : (X.take i ++ List.replicate (n - i) (0 : Int)).length = n := by
  rw [List.length_append, List.length_take, List.length_replicate]
  omega
theorem zset2 {nx : List Int} {q j : Nat} (hl : nx.length = j) (h : j < q) (v : Int) : (nx ++ List.replicate (q - nx.length) (0 : Int)).set j v = (nx ++ [v]) ++ List.replicate (q - (nx ++ [v]).length) 0 := by
  subst hl
  exact zset h v
theorem vnd_rng {q : Nat} {ns : List Nd} (hv : VNd q ns) {i : Nat} (hi : i < ns.length) (hq : q ≤ 8) (hn : ns.length ≤ 1000000000000) : ∀ z ∈ (ndAt ns i).2, 0 ≤ z ∧ z ≤ 1000000000000 := fun z hz => by
  have h1 := hv.lev.one i hi
  by_cases h : (ndAt ns i).1 = 1
  · have := hv.low i hi h z hz
    omega
  · have h2 := hv.lev.kids i hi (by omega) z hz
    have h3 := hv.lev.lt _ h2.2.1
    omega
theorem swp_le {q k n m : Nat} (h : n ≤ (q + 1) * k) (hq : q ≤ 8) (hk : k ≤ 20000000000) (hm : m ≤ q) : n + m ≤ 200000000000 := by
  have h1 : (q + 1) * k ≤ 9 * 20000000000 := Nat.mul_le_mul (by omega) hk
  omega
structure SwE (W : World) (Pt : Nat) (p : Nat) (Pr : Nat) (st : Int) (A : Option Addr) (c : Nat) (ps : List (Int × Int)) (An : Option Addr) (on : Nat) (cn : Nat) (gT : Nat) (n : Nat) (N1 : Nat) (r : Int) (ns : List Nd) (b0 b1 b2 b3 b4 b5 b6 b7 b8 b9 b10 b11 b12 b13 b14 : Bool) (v123 v124 v125 v126 v127 v128 v129 v130 v131 v132 v133 v134 v135 v136 : Value) (w : World) : Prop where
  h0 : b0 = true → v123 = .pointer (some ⟨Pt, 0, none⟩)
  h1 : b1 = true → v124 = .int .i64 st
  h2 : b2 = true → v125 = .pointer (some ⟨Pt, 1, none⟩)
  h3 : b3 = true → v126 = .slice A ps.length c
  h4 : b4 = true → v127 = .pointer (some ⟨p, 0, none⟩)
  h5 : b5 = true → v128 = .slice An on cn
  h6 : b6 = true → v129 = .slice (some ⟨gT, 0, none⟩) n n
  h7 : b7 = true → v130 = .slice (some ⟨gT, 0, none⟩) n n
  h8 : b8 = true → v131 = .int .i64 n
  h9 : b9 = true → v132 = .int .i64 N1
  h10 : b10 = true → v133 = .pointer (some ⟨gT, N1, none⟩)
  h11 : b11 = true → v134 = .int .i64 r
  below : b14 = false → Below W.heap.size W w
  hord : b14 = true → b1 = true ∧ b3 = true ∧ b5 = true ∧ b11 = true ∧ b12 = true ∧ b13 = true
  h12 : b12 = true → b14 = false → ∃ os2, OwnNA w W.heap.size v135 os2 ∧ os2.map Hd.nd = ns
  h13 : b13 = true → b14 = false → ∃ nv os2, v136 = .agg #[.int .i64 st, .slice A ps.length c, nv] ∧ OwnNA w W.heap.size nv os2 ∧ os2.map Hd.nd = ns
  h14 : b14 = true → ∃ nv os2 w5, Below W.heap.size W w5 ∧ OwnNA w5 W.heap.size nv os2 ∧ os2.map Hd.nd = ns ∧ w = ((w5.setCell ⟨Pr, 0, none⟩ (.int .i64 st)).setCell ⟨Pr, 1, none⟩ (.slice A ps.length c)).setCell ⟨Pr, 2, none⟩ nv
theorem own_moved {nv nv' : Value} {n gX : Nat} (hm : nv'.ownBlock = nv.ownBlock ∨ ∃ g, nv'.ownBlock = some g ∧ n ≤ g) (h : nv.ownBlock ≠ some gX) (hg : gX < n) : nv'.ownBlock ≠ some gX := fun e => by
  rcases hm with hm | ⟨g, h1, h2⟩
  · exact h (hm ▸ e)
  · rw [h1] at e
    injection e with e
    omega
set_option maxHeartbeats 32000000 in
theorem swapped_any (st : Int) (A : Option Addr) (c : Nat) (ps : List (Int × Int)) (Ab : Option Addr) (d : Nat) (hs : List Hd) (i up : Nat) (w : World) (hN : Nds w Ab hs) (ht : TabB w.heap.size w) (h1 : 2 ≤ st) (h2 : st ≤ 8) (hpl : ps.length ≤ 25) (hui : i + up = ps.length) (hup : 2 ≤ up)
    (hV : VNd st.toNat (hs.map Hd.nd)) (hp0 : 0 < hs.length) (hroot : (ndAt (hs.map Hd.nd) (hs.length - 1)).1 = (ps.length : Int)) (hlv : ∀ k, k < hs.length → (ndAt (hs.map Hd.nd) k).1 ≤ (ps.length : Int)) (hn : hs.length ≤ 20000000000) :
    Calls Tryd.prog 52 #[.agg #[.int .i64 st, .slice A ps.length c, .slice Ab hs.length d], .int .i64 i] w (RetSw st A ps.length c (swpN (hs.map Hd.nd) up) w) := by
  have hmm := @run_makeMap Tryd.prog
  have HN := Lib.hid hN
  have HT := Lib.hid ht
  have HST := Lib.hid (And.intro h1 h2)
  have HV := Lib.hid hV
  have HUP := Lib.hid (And.intro hup (And.intro hui hpl))
  have HRT := Lib.hid (And.intro hp0 hroot)
  have HLV := Lib.hid hlv
  have HNL := Lib.hid hn
  have hwu : wrap64 ((ps.length : Int) - (i : Int)) = (up : Int) := by unfold wrap64; omega
  clear hN ht h1 h2 hV hup hui hpl hp0 hroot hlv
  go_enter Tryd.func52, Tryd.ntmps52
  go_upto_region 3 with fail
  obtain ⟨w1, hw1⟩ : ∃ w1, w1 = (((w.alloc (.cells #[.int .i64 st, .slice A ps.length c, .slice Ab hs.length d] 25)).alloc (.cells #[.int .i64 0, .slice none 0 0, .slice none 0 0] 25)).alloc (.map #[] 0)).alloc (.cells #[.slice none 0 0, .map (some (w.heap.size + 1 + 1))] 64) := ⟨_, rfl⟩
  obtain ⟨hb1, hpt, hpr, hbl, hml⟩ := madeB w st A ps.length c Ab hs.length d w1 hw1
  rw [← hw1]
  obtain ⟨M, hM⟩ : ∃ M, M = w.heap.size + 1 + 1 := ⟨_, rfl⟩
  obtain ⟨p, hp⟩ : ∃ p, p = w.heap.size + 1 + 1 + 1 := ⟨_, rfl⟩
  have HM := Lib.hid (And.intro hM hp)
  rw [← hp, ← hM] at hbl
  rw [← hM] at hml
  rw [← hp, ← hM]
  have HB1 := Lib.hid hb1
  have HPT := Lib.hid hpt
  have HPR := Lib.hid hpr
  have HBL := Lib.hid hbl
  have HML := Lib.hid hml
  have hct := hpt.cell_ 2 (.slice Ab hs.length d) rfl
  obtain ⟨i0, hi0, hz0, hz1, hz2⟩ := info_parts Tryd.infoInt
  have hMw : M ≤ w1.heap.size := Nat.le_of_lt hml
  clear hw1 hb1 hpt hpr hbl hml hmm hM hp
  go_wp2_with (at_make; refine wpList_make_full _ rfl _ _ 31 rfl M 3 i0 _ 1 Tryd.underlying31 hi0 hz0 hz1 .i64 .i64 hs.length hs.length hs.length rfl rfl rfl rfl (by rw [hz2]; omega) (by unfold maxLen; omega) hMw ?_)
  intro w2 ho2 hg2
  have hb2 : Below w1.heap.size w1 w2 := (Below.refl _ w1).grown hg2 (Nat.le_refl _) (by intro k hk; cases hk)
  have hr2 : OwnIA w2 M (.slice (some ⟨w1.heap.size, 0, none⟩) hs.length hs.length) (List.replicate hs.length 0) := by
    unfold OwnIA OwnI
    rw [List.length_replicate, List.map_replicate]
    rw [toList_madeCells_one] at ho2
    exact ho2
  obtain ⟨gT, hgT⟩ : ∃ gT, gT = w1.heap.size := ⟨_, rfl⟩
  rw [← hgT] at hr2
  have HS0 : Hid (SwW M p M gT hs.length #[.slice none 0 0, .map (some M)] (.slice none 0 0) [] (.map []) (swpTo (hs.map Hd.nd) up 0).1 (swpTo (hs.map Hd.nd) up 0).2 w2) := Lib.hid
    ⟨HBL.out.ext hb2, rfl, by show OwnIA w2 M _ (List.replicate (hs.map Hd.nd).length 0); rw [List.length_map]; exact hr2, by show (List.replicate (hs.map Hd.nd).length (0 : Int)).length = _; simp, fun x hx => absurd hx (by simp)⟩
  have HB2 : Hid (Below w.heap.size w w2) := Lib.hid (HB1.out.trans (hb2.mono HB1.out.size))
  have HTB2 : Hid (TabB M w2) := Lib.hid ((HT.out.on HB2.out).up (by have := HM.out.1; omega))
  have HML2 : Hid (M < w2.heap.size) := Lib.hid (Nat.lt_of_lt_of_le HML.out hb2.size)
  have HM2 : Hid (M ≤ w2.heap.size) := Lib.hid (Nat.le_trans hMw hb2.size)
  have HPT2 := Lib.hid (HPT.out.below hb2 HPT.out.lt)
  have HPR2 := Lib.hid (HPR.out.below hb2 HPR.out.lt)
  have hct := HPT2.out.cell_ 2 (.slice Ab hs.length d) rfl
  rw [← hgT]
  clear hb2 hr2 ho2 hg2 hMw hgT hn
  go_wp2
  clear hct
  go_loopw [30] (fun iv wr => ∃ (k : Nat) (cs : Array Value) (nv : Value) (os : List Hd) (D : DataW Unit), k ≤ hs.length ∧ iv = .int .i64 k ∧ Hid (SwW M p M gT hs.length cs nv os D (swpTo (hs.map Hd.nd) up k).1 (swpTo (hs.map Hd.nd) up k).2 wr) ∧ Hid (Below M w2 wr)) (fun iv _ => hs.length - (intOf iv).toNat)
  case atStart => exact ⟨0, _, _, _, _, Nat.zero_le _, rfl, HS0, Lib.hid (Below.refl _ _)⟩
  case round =>
    clear HS0
    obtain ⟨k, cs, nv, os, D, hk, rfl, HSW, HBR⟩ := hrel
    have hwk : wrap64 ((k : Int) + 1) = (k : Int) + 1 := by have := HNL.out; unfold wrap64; omega
    have hMr : M ≤ wr.heap.size := Nat.le_trans HM2.out HBR.out.size
    have HBW : Hid (Below w.heap.size w wr) := Lib.hid (HB2.out.trans (HBR.out.mono (by have := HM.out.1; omega)))
    have HMR := Lib.hid hMr
    by_cases hkl : k < hs.length
    · have hkl2 : k < (hs.map Hd.nd).length := by rw [List.length_map]; exact hkl
      have hndk := nd_at hs hkl
      have hlq := HV.out.lev.len k hkl2
      have hl1 := HV.out.lev.one k hkl2
      have hlL := HLV.out k hkl
      have hSI := SwI.all HV.out HUP.out.1 k (Nat.le_of_lt hkl2)
      have hok := fun hne => swpNode_ok HV.out HUP.out.1 hSI hkl2 hne
      obtain ⟨nb, no, eB, hnb, -⟩ : ∃ b o, Ab = some ⟨b, o, none⟩ ∧ b < w.heap.size ∧ True := by
        obtain ⟨b, o, h1, h2, -⟩ := HN.out.at_ hkl
        exact ⟨b, o, h1, h2, trivial⟩
      have hat : ∀ V, Below w.heap.size w V → ∀ j (hj : j < hs.length), V.cell? ⟨nb, no + j * 2, none⟩ = some (.int .i64 hs[j].lv) ∧ V.cell? ⟨nb, no + j * 2 + 1, none⟩ = some (.slice hs[j].A hs[j].zs.length hs[j].c) ∧ Ints V hs[j].A hs[j].zs := fun V hV j hj => by
        obtain ⟨b, o, h1, -, h2, h3, h4⟩ := (HN.out.ext hV).at_ hj
        rw [eB] at h1
        injection h1 with h1
        injection h1 with h5 h6
        subst h5 h6
        exact ⟨h2, h3, h4⟩
      have HAT := Lib.hid hat
      obtain ⟨g0, g1, gz⟩ := hat wr HBW.out k hkl
      have hkids := HV.out.lev.kids k hkl2
      have hord := HV.out.ordk k hkl2
      have hzall : ∀ V, Below w.heap.size w V → Ints V hs[k].A hs[k].zs := fun V hV => (hat V hV k hkl).2.2
      obtain ⟨x, hx⟩ : ∃ x, x = hs[k] := ⟨_, rfl⟩
      rw [← hx] at hndk g0 g1 gz hzall
      obtain ⟨lv, zA, zc, zs⟩ := x
      dsimp only at g0 g1 gz hzall
      have HZALL := Lib.hid hzall
      clear hzall
      change ndAt (hs.map Hd.nd) k = (lv, zs) at hndk
      rw [hndk] at hlq hl1 hlL hok hkids hord
      dsimp only at hlq hl1 hlL hok hkids hord
      have hstep : swpTo (hs.map Hd.nd) up (k + 1) = if lv = (up : Int) - 1 then swpTo (hs.map Hd.nd) up k else
          ((addN (swpNode (hs.map Hd.nd) up (swpTo (hs.map Hd.nd) up k) (lv, zs)).1 (lv, (swpNode (hs.map Hd.nd) up (swpTo (hs.map Hd.nd) up k) (lv, zs)).2)).2, (swpTo (hs.map Hd.nd) up k).2.set k ((addN (swpNode (hs.map Hd.nd) up (swpTo (hs.map Hd.nd) up k) (lv, zs)).1 (lv, (swpNode (hs.map Hd.nd) up (swpTo (hs.map Hd.nd) up k) (lv, zs)).2)).1 : Int)) := by
        show swpStep (hs.map Hd.nd) up (swpTo (hs.map Hd.nd) up k) k = _
        unfold swpStep
        rw [hndk]
      have HKL := Lib.hid hkl
      have HSTEP := Lib.hid hstep
      have HSI := Lib.hid hSI
      have HOK := Lib.hid hok
      have HLL := Lib.hid (And.intro hl1 hlL)
      have HZQ := Lib.hid hlq
      have HKD := Lib.hid hkids
      have HOD := Lib.hid hord
      have HZI := Lib.hid gz
      have HNBL := Lib.hid hnb
      obtain ⟨stK, hstK⟩ : ∃ stK, stK = swpTo (hs.map Hd.nd) up k := ⟨_, rfl⟩
      rw [← hstK] at HSW HSTEP HSI HOK
      have HWU1 : Hid (wrap64 ((up : Int) - 1) = (up : Int) - 1) := Lib.hid (by have := HUP.out.2; unfold wrap64; omega)
      have hwu1 := HWU1.out
      subst eB
      have HND := Lib.hid hndk
      clear hx hndk hlq hl1 hlL hok hkids hord hstep hSI hat gz hnb hkl2 hstK
      -- the copy of the node
      obtain ⟨wx, hwx⟩ : ∃ wx, wx = wr.alloc (.cells #[.int .i64 lv, .slice zA zs.length zc] 53) := ⟨_, rfl⟩
      have hbx : Below wr.heap.size wr wx := by rw [hwx]; exact below_new _ _
      have hgx : Blk wx wr.heap.size 53 #[.int .i64 lv, .slice zA zs.length zc] := by rw [hwx]; exact Blk.new _ _ _
      obtain ⟨gX, hgX⟩ : ∃ gX, gX = wr.heap.size := ⟨_, rfl⟩
      rw [← hgX] at hgx
      have HBX := Lib.hid hbx
      have HG := Lib.hid hgx
      have HWX := Lib.hid hwx
      have HGX := Lib.hid hgX
      have x0 := hgx.cell_ 0 (.int .i64 lv) rfl
      clear hbx hgx hwx hgX
      by_cases hlo : lv = (up : Int) - 1
      · have d1 : (lv == (up : Int) - 1) = true := by simp [hlo]
        have HNX : Hid (swpTo (hs.map Hd.nd) up (k + 1) = stK) := Lib.hid (by rw [HSTEP.out, if_pos hlo])
        have HSX := Lib.hid (HSW.out.ext HBX.out)
        have HBRX : Hid (Below M w2 wx) := Lib.hid (HBR.out.trans (HBX.out.mono HMR.out))
        clear hlo hk hMr
        go_upto_region 7 with fail
        rw [← HWX.out, ← HGX.out]
        clear g0 g1
        go_wp2
        go_roundw
        case rel => exact ⟨k + 1, cs, nv, os, D, HKL.out, (by first | rfl | (rw [hwk]; rfl)), Lib.hid (by rw [HNX.out]; exact HSX.out), HBRX⟩
        case measure => (try rw [hwk]); exact meas_step HKL.out
      · have d1 : (lv == (up : Int) - 1) = false := by simpa using hlo
        have HNX : Hid (swpTo (hs.map Hd.nd) up (k + 1) = ((addN (swpNode (hs.map Hd.nd) up stK (lv, zs)).1 (lv, (swpNode (hs.map Hd.nd) up stK (lv, zs)).2)).2, stK.2.set k ((addN (swpNode (hs.map Hd.nd) up stK (lv, zs)).1 (lv, (swpNode (hs.map Hd.nd) up stK (lv, zs)).2)).1 : Int))) := Lib.hid (by rw [HSTEP.out, if_neg hlo])
        have HOK2 := Lib.hid (HOK.out hlo)
        obtain ⟨q, hq⟩ : ∃ q, q = st.toNat := ⟨_, rfl⟩
        have hzq : zs.length = q := by rw [hq]; exact HZQ.out
        have hsq : st = (q : Int) := by have := HST.out.1; omega
        have hq8 : q ≤ 8 := by have := HST.out.2; omega
        have hq1 : 0 < q := by have := HST.out.1; omega
        have HQS := Lib.hid hq
        have HQ := Lib.hid (And.intro hzq (And.intro hsq (And.intro hq8 hq1)))
        rw [← hq] at HOK2
        have HSX := Lib.hid (HSW.out.ext HBX.out)
        have HBRX : Hid (Below M w2 wx) := Lib.hid (HBR.out.trans (HBX.out.mono HMR.out))
        have hptx := HPT2.out.below (HBRX.out.mono (Nat.le_refl _)) (by have := HM.out.1; omega)
        have e0 := hptx.cell_ 0 (.int .i64 st) rfl
        rw [hsq] at e0
        have x1 := HG.out.cell_ 1 (.slice zA zs.length zc) rfl
        have hMx : M ≤ wx.heap.size := Nat.le_trans HMR.out HBX.out.size
        clear hlo hk hMr hzq hsq hq hptx
        go_upto_region 8 with fail
        rw [← HWX.out, ← HGX.out]
        clear g0 g1
        go_wp2_with (at_make; refine wpList_make_full _ rfl _ _ 31 rfl M 3 i0 _ 1 Tryd.underlying31 hi0 hz0 hz1 .i64 .i64 q q q rfl rfl rfl rfl (by rw [hz2]; omega) (by unfold maxLen; omega) hMx ?_)
        intro wn hon hgn
        have hbn : Below wx.heap.size wx wn := (Below.refl _ wx).grown hgn (Nat.le_refl _) (by intro k hk; cases hk)
        have hrn : OwnIA wn M (.slice (some ⟨wx.heap.size, 0, none⟩) q q) (List.replicate q 0) := by
          unfold OwnIA OwnI
          rw [List.length_replicate, List.map_replicate]
          rw [toList_madeCells_one] at hon
          exact hon
        have HSN := Lib.hid (HSX.out.ext hbn)
        have HFN := Lib.hid (FreeR.new HSX.out hrn (by simp) (Nat.le_refl _))
        have HBN : Hid (Below M w2 wn) := Lib.hid (HBRX.out.trans (hbn.mono hMx))
        have HGN := Lib.hid (HG.out.below hbn HG.out.lt)
        have HNV : Hid (nv.ownBlock ≠ some gX) := Lib.hid (fun e => by
          have h1 := (own_lt' HSW.out.bld.own.1 e).1
          rw [HGX.out] at h1
          exact Nat.lt_irrefl _ h1)
        have HPX : Hid (gX ≠ p ∧ gX ≠ M) := Lib.hid (by
          have h1 := HSW.out.bld.blk.lt
          have h2 := HML2.out
          have h3 := HBR.out.size
          have h4 := HGX.out
          omega)
        have HLE : Hid (∀ m, m ≤ q → stK.1.length + m ≤ 200000000000) := Lib.hid (fun m hm => swp_le (by have := HSI.out.le; rw [← HQS.out] at this; exact this) hq8 (Nat.le_trans (Nat.le_of_lt HKL.out) HNL.out) hm)
        have hgnx : gX < wx.heap.size := HG.out.lt
        obtain ⟨gN, hgN⟩ : ∃ gN, gN = wx.heap.size := ⟨_, rfl⟩
        have HGXN : Hid (gX < gN) := Lib.hid (by rw [hgN]; exact hgnx)
        rw [← hgN] at HFN ⊢
        have x1 := HGN.out.cell_ 1 (.slice zA zs.length zc) rfl
        clear hbn hrn hon hgn hgN hgnx e0 x0 hMx hq8 hq1
        by_cases hx : lv = (up : Int)
        · have HNO : Hid (swpNode (hs.map Hd.nd) up stK (lv, zs) = swpKids (hs.map Hd.nd) stK.2 up (lv, zs) stK.1 q) := Lib.hid (by
            unfold swpNode
            rw [if_pos hx, HQ.out.1])
          have HKO := Lib.hid (fun m hm => swpKids_ok HV.out HUP.out.1 HSI.out (by rw [List.length_map]; exact HKL.out) (by rw [HND.out]; exact hx) m hm)
          rw [HND.out, ← HQS.out] at HKO
          have d2 : (lv == (up : Int)) = true := by simp [hx]
          have HX := Lib.hid hx
          clear hx
          go_wp2
          clear x1
          go_loopw [46] (fun jv wj => ∃ (j : Nat) (cs' : Array Value) (nv' : Value) (os' : List Hd) (D' : DataW Unit), j ≤ q ∧ jv = .int .i64 j ∧ Hid (SwW M p M gT hs.length cs' nv' os' D' (swpKids (hs.map Hd.nd) stK.2 up (lv, zs) stK.1 j).1 stK.2 wj) ∧
            Hid (FreeR gT os' M gN q ((swpKids (hs.map Hd.nd) stK.2 up (lv, zs) stK.1 j).2 ++ List.replicate (q - (swpKids (hs.map Hd.nd) stK.2 up (lv, zs) stK.1 j).2.length) 0) wj) ∧ Hid (Below M w2 wj) ∧ Hid (nv'.ownBlock ≠ some gX) ∧ Hid (Blk wj gX 53 #[.int .i64 lv, .slice zA zs.length zc]) ∧ Hid (wn.heap.size ≤ wj.heap.size)) (fun jv _ => q - (intOf jv).toNat)
          case atStart => exact ⟨0, cs, nv, os, D, Nat.zero_le _, rfl, HSN, HFN, HBN, HNV, HGN, Lib.hid (Nat.le_refl _)⟩
          case round =>
            clear HSN HFN HBN HGN
            obtain ⟨j, cs', nv', os', D', hj, rfl, HSJ, HFJ, HBJ, HNJ, HGJ, HWS⟩ := hrel
            have HBWj : Hid (Below w.heap.size w wr) := Lib.hid (HB2.out.trans (HBJ.out.mono (Nat.le_trans (Nat.le_add_right _ 2) (Nat.le_of_eq HM.out.1.symm))))
            have hwj : wrap64 ((j : Int) + 1) = (j : Int) + 1 := by have := HQ.out.2.2.1; unfold wrap64; omega
            obtain ⟨a1, a2, a3, a4, a5, a6⟩ := HKO.out j hj
            by_cases hjq : j < q
            · have HJQ := Lib.hid hjq
              have hjz : j < zs.length := by rw [HQ.out.1]; exact hjq
              obtain ⟨bz, oz, ez, -, hcz⟩ := (HZALL.out wr HBWj.out).at_ hjz
              subst ez
              have hkz := (HKD.out (by rw [HX.out]; exact Int.lt_of_lt_of_le (by decide) (Int.ofNat_le.2 HUP.out.1)) _ (List.getElem_mem hjz)).1
              obtain ⟨kd, hkd⟩ : ∃ kd, kd = zs[j] := ⟨_, rfl⟩
              rw [← hkd] at hcz
              have hMj : M ≤ wr.heap.size := Nat.le_trans HM2.out HBJ.out.size
              have x0 := HGJ.out.cell_ 0 (.int .i64 lv) rfl
              have x1 := HGJ.out.cell_ 1 (.slice _ zs.length zc) rfl
              have hptj := HPT2.out.below HBJ.out (by have := HM.out.1; omega)
              have e0 := hptj.cell_ 0 (.int .i64 st) rfl
              rw [HQ.out.2.1] at e0
              have hq8 := HQ.out.2.2.1
              obtain ⟨Wj, hWj⟩ : ∃ Wj, Wj = wr := ⟨_, rfl⟩
              clear hkd hkz hptj a1 a2 a3 a4 a5 a6
              go_wp2_with (at_make; refine wpList_make_full _ rfl _ _ 31 rfl M 3 i0 _ 1 Tryd.underlying31 hi0 hz0 hz1 .i64 .i64 q q q rfl rfl rfl rfl (by rw [hz2]; omega) (by unfold maxLen; omega) hMj ?_)
              intro wI hoI hgI
              have hbI : Below wr.heap.size wr wI := (Below.refl _ wr).grown hgI (Nat.le_refl _) (by intro k hk; cases hk)
              have hrI : OwnIA wI M (.slice (some ⟨wr.heap.size, 0, none⟩) q q) (List.replicate q 0) := by
                unfold OwnIA OwnI
                rw [List.length_replicate, List.map_replicate]
                rw [toList_madeCells_one] at hoI
                exact hoI
              have HRI := Lib.hid hrI
              have HBI := Lib.hid hbI
              have hGI := HGJ.out.below hbI HGJ.out.lt
              have x1 := hGI.cell_ 1 (.slice _ zs.length zc) rfl
              obtain ⟨gI, hgI2⟩ : ∃ gI, gI = wr.heap.size := ⟨_, rfl⟩
              rw [← hgI2] at HRI ⊢
              have HGI := Lib.hid hgI2
              clear hoI hgI hbI hrI hGI hgI2 hq8 hMj e0 x0 hcz hj
              have HZL := Lib.hid hjz
              obtain ⟨X, hX⟩ : ∃ X, X = innerOf (hs.map Hd.nd) stK.2 up (lv, zs) j := ⟨_, rfl⟩
              have HXL : Hid (X.length = zs.length) := Lib.hid (by rw [hX]; unfold innerOf; exact List.length_map _)
              have HXE := Lib.hid hX
              clear hX
              go_wp2
              clear x1 hjz
              go_loopw [66] (fun rv wi => ∃ r : Nat, r ≤ zs.length ∧ rv = .int .i64 r ∧ Hid (OwnIA wi M (.slice (some ⟨gI, 0, none⟩) q q) (X.take r ++ List.replicate (zs.length - r) 0)) ∧ Hid (Below Wj.heap.size Wj wi)) (fun rv _ => zs.length - (intOf rv).toNat)
              case atStart => exact ⟨0, Nat.zero_le _, rfl, Lib.hid (by rw [HQ.out.1]; simpa using HRI.out), Lib.hid (by rw [hWj]; exact HBI.out)⟩
              case round =>
                clear HRI HBI
                obtain ⟨r, hr, rfl, HRI, HBI⟩ := hrel
                subst hWj
                have HBWi : Hid (Below w.heap.size w wr) := Lib.hid (HBWj.out.trans (HBI.out.mono HBWj.out.size))
                have hwr : wrap64 ((r : Int) + 1) = (r : Int) + 1 := by have := HQ.out.1; have := HQ.out.2.2.1; unfold wrap64; omega
                by_cases hrl : r < zs.length
                · have hgt : 1 < lv := by rw [HX.out]; exact Int.lt_of_lt_of_le (by decide) (Int.ofNat_le.2 HUP.out.1)
                  obtain ⟨k1, k2, k3⟩ := HKD.out hgt _ (List.getElem_mem hrl)
                  obtain ⟨on, hon⟩ : ∃ on : Nat, zs[r] = (on : Int) := ⟨zs[r].toNat, (Int.toNat_of_nonneg k1).symm⟩
                  rw [hon, Int.toNat_natCast] at k2 k3
                  have hon2 : on < hs.length := by rw [List.length_map] at k2; exact k2
                  obtain ⟨bz2, oz2, ez2, -, hcr⟩ := (HZALL.out wr HBWi.out).at_ hrl
                  rw [hon] at hcr
                  obtain ⟨h0, h1, hzi⟩ := HAT.out wr HBWi.out on hon2
                  have hnl := HV.out.lev.len on k2
                  have hna : ndAt (hs.map Hd.nd) on = hs[on].nd := nd_at hs hon2
                  rw [hna, ← HQS.out] at hnl
                  change hs[on].zs.length = q at hnl
                  have hjz : j < hs[on].zs.length := by rw [hnl]; exact HJQ.out
                  obtain ⟨bz3, oz3, ez3, -, hcz⟩ := hzi.at_ hjz
                  have hzv : (ndAt (hs.map Hd.nd) on).2.getD j 0 = hs[on].zs[j] := by
                    rw [hna]
                    show hs[on].zs.getD j 0 = _
                    rw [List.getD_eq_getElem?_getD, List.getElem?_eq_getElem hjz]
                    rfl
                  have hXr : X.getD r 0 = if 2 < up then stK.2.getD (hs[on].zs[j]).toNat 0 else hs[on].zs[j] := by
                    rw [HXE.out]
                    unfold innerOf
                    rw [getD_map hrl]
                    have hzr : zs.getD r 0 = (on : Int) := by rw [List.getD_eq_getElem?_getD, List.getElem?_eq_getElem hrl, ← hon]; rfl
                    rw [hzr, Int.toNat_natCast, hzv]
                  have hkz : 2 < up → 0 ≤ hs[on].zs[j] ∧ (hs[on].zs[j]).toNat < hs.length := fun h2 => by
                    have h3 : 1 < (ndAt (hs.map Hd.nd) on).1 := by rw [k3, HX.out]; omega
                    have h4 := HV.out.lev.kids on k2 h3 (hs[on].zs[j]) (by rw [hna]; exact List.getElem_mem hjz)
                    exact ⟨h4.1, by have := h4.2.1; rw [List.length_map] at this; exact this⟩
                  obtain ⟨hXlen, hXset⟩ := kids_set (v := X.getD r 0) HXL.out hrl rfl
                  obtain ⟨hci, hfi⟩ := HRI.out.cellk (k := r) (by rw [hXlen]; exact hrl)
                  obtain ⟨z, hz⟩ : ∃ z, z = hs[on].zs[j] := ⟨_, rfl⟩
                  rw [← hz] at hcz hXr hkz
                  rw [hnl] at h1
                  rw [ez3] at h1
                  obtain ⟨onc, honc⟩ : ∃ onc, onc = hs[on].c := ⟨_, rfl⟩
                  rw [← honc] at h1
                  have hset1 := OwnI.set HRI.out (by rw [hXlen]; exact HQ.out.1.symm) r z
                  have HSJi := Lib.hid (HSJ.out.ext HBI.out)
                  have hgTlt := (own_lt' HSJ.out.row (g := gT) rfl).1
                  have hgne : gT ≠ gI := fun e => by rw [e, HGI.out] at hgTlt; exact Nat.lt_irrefl _ hgTlt
                  have hpti := HPT2.out.below (HBJ.out.trans (HBI.out.mono (Nat.le_trans HM2.out HBJ.out.size))) (by have := HM.out.1; omega)
                  have e2 := hpti.cell_ 2 (.slice (some ⟨nb, no, none⟩) hs.length d) rfl
                  have HSET1 := Lib.hid hset1
                  have HXSET := Lib.hid hXset
                  have HXR := Lib.hid hXr
                  have HKZ := Lib.hid hkz
                  have HRL := Lib.hid hrl
                  have HGNE := Lib.hid hgne
                  have hjq := HJQ.out
                  cases ez2
                  obtain ⟨ws, hws⟩ : ∃ ws, ws = wr.setCell ⟨gI, r, none⟩ (.int .i64 z) := ⟨_, rfl⟩
                  have HWS2 := Lib.hid hws
                  have hgIle : Wj.heap.size ≤ gI := Nat.le_of_eq HGI.out.symm
                  have HBS : Hid (Below Wj.heap.size Wj ws) := Lib.hid (by rw [hws]; exact HBI.out.setCell (p := ⟨gI, r, none⟩) hgIle _)
                  have HGIL := Lib.hid hgIle
                  rw [← hws] at HSET1
                  clear hws hgt k1 k2 k3 hon hna hnl hjz hzv hXr hkz hXlen hXset hz honc hset1 hgTlt hgne hpti hgIle hr hzi ez3 hrl
                  have hrl := HRL.out
                  have hrq : r < q := Nat.lt_of_lt_of_eq HRL.out HQ.out.1
                  by_cases h2 : 2 < up
                  · have d3 : decide (2 < up) = true := decide_eq_true h2
                    have d4 : decide ((2 : Int) < (up : Int)) = true := decide_eq_true (Int.ofNat_lt.2 h2)
                    obtain ⟨z0, z1⟩ := HKZ.out h2
                    obtain ⟨zn, hzn⟩ : ∃ zn : Nat, z = zn := ⟨z.toNat, (Int.toNat_of_nonneg z0).symm⟩
                    subst hzn
                    rw [Int.toNat_natCast] at z1
                    have hss : ws.cell? ⟨gI, r, none⟩ = some (.int .i64 (zn : Int)) := by
                      have h9 := (HSET1.out.cellk (k := r) (by rw [List.length_set, kids_len HXL.out (Nat.le_of_lt HRL.out)]; exact HRL.out)).1
                      rw [getD_set (by rw [kids_len HXL.out (Nat.le_of_lt HRL.out)]; exact HRL.out), if_pos rfl] at h9
                      exact h9
                    have hfs := (HSET1.out.cellk (k := r) (by rw [List.length_set, kids_len HXL.out (Nat.le_of_lt HRL.out)]; exact HRL.out)).2
                    have HSJs := Lib.hid (HSJ.out.ext HBS.out)
                    obtain ⟨hct, -⟩ := HSJs.out.row.cellk (k := zn) (by rw [HSJs.out.len]; exact z1)
                    have HV2 : Hid (X.getD r 0 = stK.2.getD zn 0) := Lib.hid (by rw [HXR.out, if_pos h2, Int.toNat_natCast])
                    have hset2 := OwnI.set HSET1.out (by rw [List.length_set, kids_len HXL.out (Nat.le_of_lt HRL.out)]; exact HQ.out.1.symm) r (stK.2.getD zn 0)
                    rw [List.set_set, ← HV2.out, HXSET.out, HV2.out] at hset2
                    have HSET2 := Lib.hid hset2
                    have HBF : Hid (Below Wj.heap.size Wj (ws.setCell ⟨gI, r, none⟩ (.int .i64 (stK.2.getD zn 0)))) := Lib.hid (HBS.out.setCell (p := ⟨gI, r, none⟩) HGIL.out _)
                    have hz1l := z1
                    clear h2 z0 hset2
                    go_upto_region 19 with fail
                    rw [← HWS2.out]
                    clear h0 h1 hcr hcz hci hfi e2
                    go_wp2
                    go_roundw
                    case rel => exact ⟨r + 1, HRL.out, (by first | rfl | (rw [hwr]; rfl)), HSET2, HBF⟩
                    case measure => (try rw [hwr]); exact meas_step HRL.out
                  · have d3 : decide (2 < up) = false := decide_eq_false h2
                    have d4 : decide ((2 : Int) < (up : Int)) = false := decide_eq_false (fun h => h2 (Int.ofNat_lt.1 h))
                    have HSET2 : Hid (OwnIA ws M (.slice (some ⟨gI, 0, none⟩) q q) (X.take (r + 1) ++ List.replicate (zs.length - (r + 1)) 0)) := Lib.hid (by
                      have h9 := HSET1.out
                      have h8 : X.getD r 0 = z := by rw [HXR.out, if_neg h2]
                      rw [← HXSET.out, h8]
                      exact h9)
                    clear h2
                    go_upto_region 19 with fail
                    rw [← HWS2.out]
                    clear h0 h1 hcr hcz hci hfi e2
                    go_wp2
                    go_roundw
                    case rel => exact ⟨r + 1, HRL.out, (by first | rfl | (rw [hwr]; rfl)), HSET2, HBS⟩
                    case measure => (try rw [hwr]); exact meas_step HRL.out
                · have hre : r = zs.length := Nat.le_antisymm hr (Nat.le_of_not_lt hrl)
                  subst hre
                  have hrow := HRI.out
                  rw [Nat.sub_self, List.replicate_zero, List.append_nil, List.take_of_length_le (Nat.le_of_eq HXL.out)] at hrow
                  have HXQ : Hid (X.length = q) := Lib.hid (HXL.out.trans HQ.out.1)
                  have HSJi := Lib.hid (HSJ.out.ext HBI.out)
                  have HFJi := Lib.hid (HFJ.out.ext HBI.out)
                  have HFI := Lib.hid (FreeR.new HSJ.out hrow HXQ.out (Nat.le_of_eq HGI.out.symm))
                  have hgNl := (own_lt' HFJ.out.row (g := gN) rfl).1
                  have HGNI : Hid (gN ≠ gI) := Lib.hid (fun e => by rw [e, HGI.out] at hgNl; exact Nat.lt_irrefl _ hgNl)
                  have HMi : Hid (M ≤ wr.heap.size) := Lib.hid (Nat.le_trans HM2.out (Nat.le_trans HBJ.out.size HBI.out.size))
                  have HBJi : Hid (Below M w2 wr) := Lib.hid (HBJ.out.trans (HBI.out.mono (Nat.le_trans HM2.out HBJ.out.size)))
                  have HXLT : Hid (gX < wr.heap.size) := Lib.hid (Nat.lt_of_lt_of_le (Nat.lt_trans HGXN.out hgNl) HBI.out.size)
                  obtain ⟨b1, -, -, b4, b5, b6⟩ := HKO.out (j + 1) HJQ.out
                  obtain ⟨-, -, -, c4, c5, -⟩ := HKO.out j (Nat.le_of_lt HJQ.out)
                  obtain ⟨-, d7, d8⟩ := b6 j (Nat.lt_succ_self j)
                  have hrg := vnd_rng b1 d7 HQ.out.2.2.1 (Nat.le_trans b4 (Nat.le_trans (HLE.out _ HJQ.out) (by decide)))
                  rw [d8] at hrg
                  change ∀ z ∈ innerOf (hs.map Hd.nd) stK.2 up (lv, zs) j, _ at hrg
                  rw [← HXE.out] at hrg
                  have hosl : os'.length < 1000000000000 := by
                    have h1 := congrArg List.length HSJ.out.eq
                    rw [List.length_map] at h1
                    rw [h1]
                    exact Nat.lt_of_le_of_lt (Nat.le_trans c4 (HLE.out _ (Nat.le_of_lt HJQ.out))) (by decide)
                  have hnode := node_any M p M 64 cs' nv' os' D' wr HSJi.out.bld HMi.out (HTB2.out.on HBJi.out) (some ⟨gI, 0, none⟩) q X ((up : Int) - 1) (by rw [HXQ.out]; exact hrow) hrg
                    (by have := HUP.out; omega) (by rw [HXQ.out]; have := HQ.out.2.2.1; omega) hosl (by decide) (by decide)
                  rw [HXQ.out, HSJi.out.eq] at hnode
                  have HNODE := Lib.hid hnode
                  have HKS : Hid (swpKids (hs.map Hd.nd) stK.2 up (lv, zs) stK.1 (j + 1) = ((addN (swpKids (hs.map Hd.nd) stK.2 up (lv, zs) stK.1 j).1 ((up : Int) - 1, X)).2, (swpKids (hs.map Hd.nd) stK.2 up (lv, zs) stK.1 j).2 ++ [((addN (swpKids (hs.map Hd.nd) stK.2 up (lv, zs) stK.1 j).1 ((up : Int) - 1, X)).1 : Int)])) := Lib.hid (by rw [HXE.out]; rfl)
                  have HNJL := Lib.hid c5
                  have hwu1 := HWU1.out
                  obtain ⟨K0, hK0⟩ : ∃ K0, K0 = swpKids (hs.map Hd.nd) stK.2 up (lv, zs) stK.1 j := ⟨_, rfl⟩
                  rw [← hK0] at HNODE HKS HNJL HSJi HFJi
                  obtain ⟨ad, had⟩ : ∃ ad, ad = addN K0.1 ((up : Int) - 1, X) := ⟨_, rfl⟩
                  rw [← had] at HNODE HKS
                  clear had hK0 hrow hgNl b1 b4 b5 b6 c4 c5 d7 d8 hrg hosl hnode hr hrl hwr
                  go_wp2_with (go_at_call 61; refine HNODE.out.mono ?_; rintro e w6 ⟨nv6, hs6, D6, cs6, rfl, hb6, he6, hk6, hm6, hc6, hn6⟩; refine Hid.out ?_)
                  refine Lib.hid ?_
                  have HS6 := Lib.hid (HSJi.out.node HFI.out hb6 he6 hk6 hn6)
                  have HF6 := Lib.hid (HFJi.out.node HSJi.out hk6 hn6 HGNI.out)
                  have HBN6 : Hid (Below M w2 w6) := Lib.hid (HBJi.out.trans (HSJi.out.below hk6 HMi.out))
                  have HNV6 := Lib.hid (own_moved hm6 HNJ.out HXLT.out)
                  have HG6 : Hid (Blk w6 gX 53 #[.int .i64 lv, .slice _ zs.length zc]) := Lib.hid (hk6.blk (HGJ.out.below HBI.out HGJ.out.lt) (fun e => by
                    rcases e with e | e | e
                    · exact HPX.out.1 e
                    · exact HPX.out.2 e
                    · exact HNJ.out e))
                  have HS7 := Lib.hid (HS6.out.store HF6.out j (ad.1 : Int))
                  have hf7 := HF6.out.store j (ad.1 : Int)
                  rw [zset2 HNJL.out HJQ.out] at hf7
                  have HF7 := Lib.hid hf7
                  obtain ⟨hcn, hfn⟩ := HF6.out.row.cellk (k := j) (by rw [HF6.out.len]; exact HJQ.out)
                  have HB7 : Hid (Below M w2 (w6.setCell ⟨gN, j, none⟩ (.int .i64 (ad.1 : Int)))) := Lib.hid (HBN6.out.setCell (p := ⟨gN, j, none⟩) (own_lt' HF6.out.row (g := gN) rfl).2 _)
                  have HG7 := Lib.hid (HG6.out.far (p := ⟨gN, j, none⟩) (fun e => Nat.lt_irrefl _ (Nat.lt_of_lt_of_eq HGXN.out (Eq.symm e))) (.int .i64 (ad.1 : Int)))
                  have HW7 : Hid (wn.heap.size ≤ (w6.setCell ⟨gN, j, none⟩ (.int .i64 (ad.1 : Int))).heap.size) := Lib.hid (Nat.le_trans HWS.out (Nat.le_trans HBI.out.size ((HSJi.out.below hk6 HMi.out).setCell (p := ⟨gN, j, none⟩) (own_lt' HF6.out.row (g := gN) rfl).2 _).size))
                  have hjq := HJQ.out
                  clear hb6 he6 hk6 hm6 hc6 hn6 hf7 HNODE
                  go_wp2
                  go_roundw
                  case rel => exact ⟨j + 1, cs6, nv6, hs6, D6, HJQ.out, (by first | rfl | (rw [hwj]; rfl)), Lib.hid (by rw [HKS.out]; exact HS7.out), Lib.hid (by rw [HKS.out]; exact HF7.out), HB7, HNV6, HG7, HW7⟩
                  case measure => (try rw [hwj]); exact meas_step HJQ.out
            · have hje : q = j := Nat.le_antisymm (Nat.le_of_not_lt hjq) hj
              subst hje
              obtain ⟨-, -, -, -, c5, -⟩ := HKO.out q (Nat.le_refl _)
              have hf := HFJ.out
              rw [zfull c5] at hf
              have HSq : Hid (SwW M p M gT hs.length cs' nv' os' D' (swpNode (hs.map Hd.nd) up stK (lv, zs)).1 stK.2 wr) := Lib.hid (by rw [HNO.out]; exact HSJ.out)
              have HFq : Hid (FreeR gT os' M gN q (swpNode (hs.map Hd.nd) up stK (lv, zs)).2 wr) := Lib.hid (by rw [HNO.out]; exact hf)
              have HBq : Hid (Below M w2 wr) := HBJ
              have HGq := HGJ
              have hjz : ¬ q < zs.length := by rw [HQ.out.1]; exact Nat.lt_irrefl _
              clear hf c5 a1 a2 a3 a4 a5 a6 hj hjq hwj
              have HMq : Hid (M ≤ wr.heap.size) := Lib.hid (Nat.le_trans HM2.out HBq.out.size)
              obtain ⟨nd, hnd⟩ : ∃ nd, nd = swpNode (hs.map Hd.nd) up stK (lv, zs) := ⟨_, rfl⟩
              have hok2 := HOK2.out
              rw [← hnd] at hok2
              rw [← hnd] at HSq HFq HNX
              obtain ⟨-, -, -, c4, c5, c6, c7, -⟩ := hok2
              have hnl : nd.1.length ≤ 1000000000000 := Nat.le_trans c4 (Nat.le_trans (HLE.out q (Nat.le_refl _)) (by decide))
              have hrg : ∀ z ∈ nd.2, 0 ≤ z ∧ z ≤ 1000000000000 := fun z hz => by
                by_cases h1 : lv = 1
                · have h2 := c6 h1 z hz
                  have h3 := HQ.out.2.2.1
                  clear c6 c7
                  omega
                · have h2 := c7 (by have := HLL.out.1; omega) z hz
                  clear c6 c7
                  omega
              have hosl : os'.length < 1000000000000 := by
                have h1 := congrArg List.length HSq.out.eq
                rw [List.length_map] at h1
                rw [h1]
                exact Nat.lt_of_le_of_lt (Nat.le_trans c4 (HLE.out q (Nat.le_refl _))) (by decide)
              have hnode := node_any M p M 64 cs' nv' os' D' wr HSq.out.bld HMq.out (HTB2.out.on HBq.out) (some ⟨gN, 0, none⟩) q nd.2 lv (by rw [c5]; exact HFq.out.row) hrg
                (by have h1 := HLL.out; have h2 := HUP.out.2.2; clear c6 c7; omega) (by rw [c5]; have h1 := HQ.out.2.2.1; clear c6 c7; omega) hosl (by decide) (by decide)
              rw [c5, HSq.out.eq] at hnode
              have HNODE := Lib.hid hnode
              obtain ⟨ad, had⟩ : ∃ ad, ad = addN nd.1 (lv, nd.2) := ⟨_, rfl⟩
              rw [← had] at HNODE HNX
              have y0 := HGq.out.cell_ 0 (.int .i64 lv) rfl
              clear hnd c4 c5 c6 c7 hnl hrg hosl hnode had
              go_wp2_with (go_at_call 61; refine HNODE.out.mono ?_; rintro e w6 ⟨nv6, hs6, D6, cs6, rfl, hb6, he6, hk6, hm6, hc6, hn6⟩; refine Hid.out ?_)
              refine Lib.hid ?_
              have HS6 := Lib.hid (HSq.out.node HFq.out hb6 he6 hk6 hn6)
              have HBN6 : Hid (Below M w2 w6) := Lib.hid (HBq.out.trans (HSq.out.below hk6 HMq.out))
              have HS7 := Lib.hid (HS6.out.setTo k (ad.1 : Int))
              obtain ⟨hcn, hfn⟩ := HS6.out.row.cellk (k := k) (by rw [HS6.out.len]; exact HKL.out)
              have HB7 : Hid (Below M w2 (w6.setCell ⟨gT, k, none⟩ (.int .i64 (ad.1 : Int)))) := Lib.hid (HBN6.out.setCell (p := ⟨gT, k, none⟩) (own_lt' HS6.out.row (g := gT) rfl).2 _)
              have hkl := HKL.out
              clear hb6 he6 hk6 hm6 hc6 hn6 HNODE y0
              go_wp2
              go_roundw
              case rel => exact ⟨k + 1, cs6, nv6, hs6, D6, HKL.out, (by first | rfl | (rw [hwk]; rfl)), Lib.hid (by rw [HNX.out]; exact HS7.out), HB7⟩
              case measure => (try rw [hwk]); exact meas_step HKL.out
        · have HNO : Hid (swpNode (hs.map Hd.nd) up stK (lv, zs) = (stK.1, if 1 < lv then zs.map (fun z => stK.2.getD z.toNat 0) else zs)) := Lib.hid (by
            unfold swpNode
            rw [if_neg hx])
          have d2 : (lv == (up : Int)) = false := by simpa using hx
          obtain ⟨X, hX⟩ : ∃ X, X = (swpNode (hs.map Hd.nd) up stK (lv, zs)).2 := ⟨_, rfl⟩
          have HXL : Hid (X.length = q) := Lib.hid (by
            rw [hX, HNO.out]
            show (if 1 < lv then _ else _ : List Int).length = q
            split
            · rw [List.length_map]; exact HQ.out.1
            · exact HQ.out.1)
          have HXE := Lib.hid hX
          clear hx hX
          go_wp2
          clear x1
          go_loopw [46] (fun jv wj => ∃ j : Nat, j ≤ q ∧ jv = .int .i64 j ∧ Hid (SwW M p M gT hs.length cs nv os D stK.1 stK.2 wj) ∧ Hid (FreeR gT os M gN q (X.take j ++ List.replicate (q - j) 0) wj) ∧ Hid (Below M w2 wj) ∧
            Hid (Blk wj gX 53 #[.int .i64 lv, .slice zA zs.length zc])) (fun jv _ => q - (intOf jv).toNat)
          case atStart => exact ⟨0, Nat.zero_le _, rfl, HSN, Lib.hid (by simpa using HFN.out), HBN, HGN⟩
          case round =>
            clear HSN HFN HBN HGN
            obtain ⟨j, hj, rfl, HSJ, HFJ, HBJ, HGJ⟩ := hrel
            have HBWj : Hid (Below w.heap.size w wr) := Lib.hid (HB2.out.trans (HBJ.out.mono (Nat.le_trans (Nat.le_add_right _ 2) (Nat.le_of_eq HM.out.1.symm))))
            have hwj : wrap64 ((j : Int) + 1) = (j : Int) + 1 := by have := HQ.out.2.2.1; unfold wrap64; omega
            by_cases hjq : j < q
            · have HJQ := Lib.hid hjq
              have hjz : j < zs.length := by rw [HQ.out.1]; exact hjq
              obtain ⟨bz, oz, ez, -, hcz⟩ := (HZALL.out wr HBWj.out).at_ hjz
              subst ez
              have hkz := fun h1 => HKD.out h1 _ (List.getElem_mem hjz)
              have hgd : zs.getD j 0 = zs[j] := by rw [List.getD_eq_getElem?_getD, List.getElem?_eq_getElem hjz]; rfl
              have hXv : X.getD j 0 = if 1 < lv then stK.2.getD (zs[j]).toNat 0 else zs[j] := by
                rw [HXE.out, HNO.out]
                show (if 1 < lv then _ else _ : List Int).getD j 0 = _
                split
                · rw [getD_map hjz, hgd]
                · exact hgd
              obtain ⟨z, hz⟩ : ∃ z, z = zs[j] := ⟨_, rfl⟩
              rw [← hz] at hcz hXv hkz
              clear hgd
              have x0 := HGJ.out.cell_ 0 (.int .i64 lv) rfl
              have x1 := HGJ.out.cell_ 1 (.slice _ zs.length zc) rfl
              obtain ⟨hXlen, hXset⟩ := kids_set (v := X.getD j 0) HXL.out hjq rfl
              obtain ⟨hcn, hfn⟩ := HFJ.out.row.cellk (k := j) (by rw [HFJ.out.len]; exact hjq)
              have hf7 := HFJ.out.store j (X.getD j 0)
              rw [hXset] at hf7
              have HF7 := Lib.hid hf7
              have HS7 := Lib.hid (HSJ.out.store HFJ.out j (X.getD j 0))
              have HB7 : Hid (Below M w2 (wr.setCell ⟨gN, j, none⟩ (.int .i64 (X.getD j 0)))) := Lib.hid (HBJ.out.setCell (p := ⟨gN, j, none⟩) (own_lt' HFJ.out.row (g := gN) rfl).2 _)
              have HG7 := Lib.hid (HGJ.out.far (p := ⟨gN, j, none⟩) (fun e => Nat.lt_irrefl _ (Nat.lt_of_lt_of_eq HGXN.out (Eq.symm e))) (.int .i64 (X.getD j 0)))
              obtain ⟨Xj, hXj⟩ : ∃ Xj, Xj = X.getD j 0 := ⟨_, rfl⟩
              rw [← hXj] at hXv HF7 HS7 HB7 HG7
              by_cases h1 : 1 < lv
              · have d3 : decide (1 < lv) = true := decide_eq_true h1
                obtain ⟨z0, z1, -⟩ := hkz h1
                obtain ⟨zn, hzn⟩ : ∃ zn : Nat, z = zn := ⟨z.toNat, (Int.toNat_of_nonneg z0).symm⟩
                subst hzn
                rw [Int.toNat_natCast, List.length_map] at z1
                rw [if_pos h1, Int.toNat_natCast] at hXv
                obtain ⟨hct, -⟩ := HSJ.out.row.cellk (k := zn) (by rw [HSJ.out.len]; exact z1)
                rw [← hXv] at hct
                clear h1 z0 hXv hkz hz hf7 hXset hXlen hXj hj
                go_wp2
                go_roundw
                case rel => exact ⟨j + 1, HJQ.out, (by first | rfl | (rw [hwj]; rfl)), HS7, HF7, HB7, HG7⟩
                case measure => (try rw [hwj]); exact meas_step HJQ.out
              · have d3 : decide (1 < lv) = false := decide_eq_false h1
                rw [if_neg h1] at hXv
                subst hXv
                clear h1 hkz hz hf7 hXset hXlen hXj hj
                go_wp2
                go_roundw
                case rel => exact ⟨j + 1, HJQ.out, (by first | rfl | (rw [hwj]; rfl)), HS7, HF7, HB7, HG7⟩
                case measure => (try rw [hwj]); exact meas_step HJQ.out
            · have hje : q = j := Nat.le_antisymm (Nat.le_of_not_lt hjq) hj
              subst hje
              have hf := HFJ.out
              rw [Nat.sub_self, List.replicate_zero, List.append_nil, List.take_of_length_le (Nat.le_of_eq HXL.out), HXE.out] at hf
              have HSq : Hid (SwW M p M gT hs.length cs nv os D (swpNode (hs.map Hd.nd) up stK (lv, zs)).1 stK.2 wr) := Lib.hid (by rw [HNO.out]; exact HSJ.out)
              have HFq : Hid (FreeR gT os M gN q (swpNode (hs.map Hd.nd) up stK (lv, zs)).2 wr) := Lib.hid hf
              have HBq : Hid (Below M w2 wr) := HBJ
              have HGq := HGJ
              have hjz : ¬ q < zs.length := by rw [HQ.out.1]; exact Nat.lt_irrefl _
              clear hf hj hjq hwj
              have HMq : Hid (M ≤ wr.heap.size) := Lib.hid (Nat.le_trans HM2.out HBq.out.size)
              obtain ⟨nd, hnd⟩ : ∃ nd, nd = swpNode (hs.map Hd.nd) up stK (lv, zs) := ⟨_, rfl⟩
              have hok2 := HOK2.out
              rw [← hnd] at hok2
              rw [← hnd] at HSq HFq HNX
              obtain ⟨-, -, -, c4, c5, c6, c7, -⟩ := hok2
              have hnl : nd.1.length ≤ 1000000000000 := Nat.le_trans c4 (Nat.le_trans (HLE.out q (Nat.le_refl _)) (by decide))
              have hrg : ∀ z ∈ nd.2, 0 ≤ z ∧ z ≤ 1000000000000 := fun z hz => by
                by_cases h1 : lv = 1
                · have h2 := c6 h1 z hz
                  have h3 := HQ.out.2.2.1
                  clear c6 c7
                  omega
                · have h2 := c7 (by have := HLL.out.1; omega) z hz
                  clear c6 c7
                  omega
              have hosl : os.length < 1000000000000 := by
                have h1 := congrArg List.length HSq.out.eq
                rw [List.length_map] at h1
                rw [h1]
                exact Nat.lt_of_le_of_lt (Nat.le_trans c4 (HLE.out q (Nat.le_refl _))) (by decide)
              have hnode := node_any M p M 64 cs nv os D wr HSq.out.bld HMq.out (HTB2.out.on HBq.out) (some ⟨gN, 0, none⟩) q nd.2 lv (by rw [c5]; exact HFq.out.row) hrg
                (by have h1 := HLL.out; have h2 := HUP.out.2.2; clear c6 c7; omega) (by rw [c5]; have h1 := HQ.out.2.2.1; clear c6 c7; omega) hosl (by decide) (by decide)
              rw [c5, HSq.out.eq] at hnode
              have HNODE := Lib.hid hnode
              obtain ⟨ad, had⟩ : ∃ ad, ad = addN nd.1 (lv, nd.2) := ⟨_, rfl⟩
              rw [← had] at HNODE HNX
              have y0 := HGq.out.cell_ 0 (.int .i64 lv) rfl
              clear hnd c4 c5 c6 c7 hnl hrg hosl hnode had
              go_wp2_with (go_at_call 61; refine HNODE.out.mono ?_; rintro e w6 ⟨nv6, hs6, D6, cs6, rfl, hb6, he6, hk6, hm6, hc6, hn6⟩; refine Hid.out ?_)
              refine Lib.hid ?_
              have HS6 := Lib.hid (HSq.out.node HFq.out hb6 he6 hk6 hn6)
              have HBN6 : Hid (Below M w2 w6) := Lib.hid (HBq.out.trans (HSq.out.below hk6 HMq.out))
              have HS7 := Lib.hid (HS6.out.setTo k (ad.1 : Int))
              obtain ⟨hcn, hfn⟩ := HS6.out.row.cellk (k := k) (by rw [HS6.out.len]; exact HKL.out)
              have HB7 : Hid (Below M w2 (w6.setCell ⟨gT, k, none⟩ (.int .i64 (ad.1 : Int)))) := Lib.hid (HBN6.out.setCell (p := ⟨gT, k, none⟩) (own_lt' HS6.out.row (g := gT) rfl).2 _)
              have hkl := HKL.out
              clear hb6 he6 hk6 hm6 hc6 hn6 HNODE y0
              go_wp2
              go_roundw
              case rel => exact ⟨k + 1, cs6, nv6, hs6, D6, HKL.out, (by first | rfl | (rw [hwk]; rfl)), Lib.hid (by rw [HNX.out]; exact HS7.out), HB7⟩
              case measure => (try rw [hwk]); exact meas_step HKL.out
    · have hke : k = hs.length := Nat.le_antisymm hk (Nat.le_of_not_lt hkl)
      subst hke
      have hpos := HRT.out.1
      obtain ⟨N1, hN1e⟩ : ∃ N1, N1 = hs.length - 1 := ⟨_, rfl⟩
      have hN1l : N1 < hs.length := by rw [hN1e]; exact Nat.sub_lt hpos Nat.one_pos
      have hSI := SwI.all HV.out HUP.out.1 hs.length (by rw [List.length_map]; exact Nat.le_refl _)
      have hlvN : (ndAt (hs.map Hd.nd) N1).1 = (ps.length : Int) := by rw [hN1e]; exact HRT.out.2
      obtain ⟨a1, a2, a3, -⟩ := hSI.eqv N1 hN1l (by rw [hlvN]; have h1 := HUP.out.2.1; clear hSI; omega)
      obtain ⟨hct, -⟩ := HSW.out.row.cellk (k := N1) (by rw [HSW.out.len]; exact hN1l)
      obtain ⟨An, cn, hnv, hnd, -⟩ := HSW.out.bld.own.nds
      obtain ⟨r, hr⟩ : ∃ r, r = (swpTo (hs.map Hd.nd) up hs.length).2.getD N1 0 := ⟨_, rfl⟩
      rw [← hr] at hct a1 a2 a3
      have hlr : (ndAt (os.map Hd.nd) r.toNat).1 ≤ (100 : Nat) := by
        rw [HSW.out.eq, a3, hlvN]
        have h1 := HUP.out.2.2
        clear hSI a1 a2 a3
        omega
      have hLev : Lev st.toNat (os.map Hd.nd) (· < (os.map Hd.nd).length) := by rw [HSW.out.eq]; exact hSI.v.lev
      have hosl : os.length < 1000000000000 := by
        have h1 := hSI.le
        rw [← HSW.out.eq, List.length_map] at h1
        exact Nat.lt_of_le_of_lt (swp_le (m := 0) h1 (by have := HST.out; clear hSI a1 a2 a3; omega) HNL.out (Nat.zero_le _)) (by decide)
      have hred : swpN (hs.map Hd.nd) up = ord (os.map Hd.nd) 100 r.toNat := by
        unfold swpN
        rw [List.length_map, HSW.out.eq, hr, hN1e]
      have HORD : Hid (∀ W', Below wr.heap.size wr W' → Calls Tryd.prog 47 #[.slice An os.length cn, .int .i64 r] W' (RetNds (swpN (hs.map Hd.nd) up) W')) := Lib.hid (fun W' hb => by
        have h := ordered_any An cn os W' (hnd.ext hb) st.toNat (· < (os.map Hd.nd).length) (by have := HST.out; clear hSI a1 a2 a3; omega) (by have := HST.out; clear hSI a1 a2 a3; omega) hLev hosl 100 r.toNat hlr (by rw [HSW.out.eq]; exact a2)
        rw [toNat_cast a1, ← hred] at h
        exact h)
      have hptw := HPT2.out.below HBR.out (by have := HM.out.1; clear hSI a1 a2 a3; omega)
      have hprw := HPR2.out.below HBR.out (by have := HM.out.1; clear hSI a1 a2 a3; omega)
      have hc0 := hptw.cell_ 0 (.int .i64 st) rfl
      have hc1 := hptw.cell_ 1 (.slice A ps.length c) rfl
      have hcb := HSW.out.bld.blk.cell_ 0 nv HSW.out.bld.c0
      rw [hnv] at hcb
      have HCE := Lib.hid (And.intro hptw.lt (And.intro hc0 (And.intro hc1 (And.intro HSW.out.bld.blk.lt (And.intro hcb (And.intro (own_lt' HSW.out.row (g := gT) rfl).1 hct))))))
      have HPRW := Lib.hid hprw
      have HWO := HBW
      have hwN : wrap64 ((hs.length : Int) - 1) = (N1 : Int) := by have := HNL.out; clear hSI a1 a2 a3; unfold wrap64; omega
      have HWN := Lib.hid (And.intro hwN hN1l)
      clear hpos hN1e hN1l hSI hlvN a1 a2 a3 hct hnv hnd hr hlr hLev hosl hred hptw hprw hc0 hc1 hcb hwN hk hkl hwk hMr
      go_upto_region 28 with fail
      refine wp_region_J (by kernel_rfl) (fun listed act w' => ∃ b0 b1 b2 b3 b4 b5 b6 b7 b8 b9 b10 b11 b12 b13 b14 v123 v124 v125 v126 v127 v128 v129 v130 v131 v132 v133 v134 v135 v136, listed = #[b0, b1, b2, b3, b4, b5, b6, b7, b8, b9, b10, b11, b12, b13, b14] ∧ act = Act.mk #[.agg #[.int .i64 st, .slice A ps.length c, .slice Ab hs.length d], .int .i64 i, .pointer (some ⟨w.heap.size, 0, none⟩), undef, .pointer (some ⟨w.heap.size + 1, 0, none⟩), .int .i64 up, .pointer (some ⟨p, 0, none⟩), .slice (some ⟨gT, 0, none⟩) hs.length hs.length, u8, u9, u10, u11, u12, u13, u14, u15, .pointer (some ⟨w.heap.size, 1, none⟩), .slice A ps.length c, .int .i64 ps.length, .int .i64 i, .int .i64 up, .map (some M), .agg #[.slice none 0 0, .map (some M)], .pointer (some ⟨w.heap.size, 2, none⟩), .slice Ab hs.length d, .int .i64 hs.length, .slice (some ⟨gT, 0, none⟩) hs.length hs.length, .pointer (some ⟨w.heap.size, 2, none⟩), .slice Ab hs.length d, .int .i64 hs.length, .int .i64 hs.length, .bool false, u32, u33, u34, u35, u36, u37, u38, u39, u40, u41, u42, u43, u44, u45, u46, u47, u48, u49, u50, u51, u52, u53, u54, u55, u56, u57, u58, u59, u60, u61, u62, u63, u64, u65, u66, u67, u68, u69, u70, u71, u72, u73, u74, u75, u76, u77, u78, u79, u80, u81, u82, u83, u84, u85, u86, u87, u88, u89, u90, u91, u92, u93, u94, u95, u96, u97, u98, u99, u100, u101, u102, u103, u104, u105, u106, u107, u108, u109, u110, u111, u112, u113, u114, u115, u116, u117, u118, u119, u120, u121, u122, v123, v124, v125, v126, v127, v128, v129, v130, v131, v132, v133, v134, v135, v136] [] ∧ SwE wr w.heap.size p (w.heap.size + 1) st A c ps An os.length cn gT hs.length N1 r (swpN (hs.map Hd.nd) up) b0 b1 b2 b3 b4 b5 b6 b7 b8 b9 b10 b11 b12 b13 b14 v123 v124 v125 v126 v127 v128 v129 v130 v131 v132 v133 v134 v135 v136 w') ?_ ?_ ?_
      · exact ⟨_, _, _, _, _, _, _, _, _, _, _, _, _, _, _, _, _, _, _, _, _, _, _, _, _, _, _, _, _, rfl, rfl, ⟨(by simp), (by simp), (by simp), (by simp), (by simp), (by simp), (by simp), (by simp), (by simp), (by simp), (by simp), (by simp), (fun _ => (Below.refl _ wr).drew), (by simp), (by simp), (by simp), (by simp)⟩⟩
      · rintro i listed act w' hi ⟨b0, b1, b2, b3, b4, b5, b6, b7, b8, b9, b10, b11, b12, b13, b14, v123, v124, v125, v126, v127, v128, v129, v130, v131, v132, v133, v134, v135, v136, rfl, rfl, H⟩
        have hi16 : i < 15 := by
          obtain ⟨-, o, ho, -⟩ := mem_ready.1 hi
          exact (Array.getElem?_eq_some_iff.1 ho).1
        obtain rfl | rfl | rfl | rfl | rfl | rfl | rfl | rfl | rfl | rfl | rfl | rfl | rfl | rfl | rfl : i = 0 ∨ i = 1 ∨ i = 2 ∨ i = 3 ∨ i = 4 ∨ i = 5 ∨ i = 6 ∨ i = 7 ∨ i = 8 ∨ i = 9 ∨ i = 10 ∨ i = 11 ∨ i = 12 ∨ i = 13 ∨ i = 14 := by omega
        all_goals simp [mem_ready, Region.binds] at hi
        · refine wpOp_hidden rfl fun K hK => ?_
          go_wp2
          refine OnlyN.mk (hK.out _ _ ⟨true, _, _, _, _, _, _, _, _, _, _, _, _, _, _, .pointer (some ⟨w.heap.size, 0, none⟩), _, _, _, _, _, _, _, _, _, _, _, _, _, rfl, rfl, ⟨fun _ => rfl, H.h1, H.h2, H.h3, H.h4, H.h5, H.h6, H.h7, H.h8, H.h9, H.h10, H.h11, H.below, H.hord, H.h12, H.h13, H.h14⟩⟩)
        · have b14f : b14 = false := by
            cases hb : b14 with
            | false => rfl
            | true => exact absurd (H.hord hb).1 (by simp [hi])
          have cc0 := ((H.below b14f).cell (p := ⟨w.heap.size, 0, none⟩) HCE.out.1).trans HCE.out.2.1
          obtain rfl := H.h0 (by simp [hi])
          clear b14f
          refine wpOp_hidden rfl fun K hK => ?_
          go_wp2
          refine OnlyN.mk (hK.out _ _ ⟨_, true, _, _, _, _, _, _, _, _, _, _, _, _, _, _, .int .i64 st, _, _, _, _, _, _, _, _, _, _, _, _, rfl, rfl, ⟨H.h0, fun _ => rfl, H.h2, H.h3, H.h4, H.h5, H.h6, H.h7, H.h8, H.h9, H.h10, H.h11, H.below, fun h => ⟨rfl, (H.hord h).2.1, (H.hord h).2.2.1, (H.hord h).2.2.2.1, (H.hord h).2.2.2.2.1, (H.hord h).2.2.2.2.2⟩, H.h12, H.h13, H.h14⟩⟩)
        · refine wpOp_hidden rfl fun K hK => ?_
          go_wp2
          refine OnlyN.mk (hK.out _ _ ⟨_, _, true, _, _, _, _, _, _, _, _, _, _, _, _, _, _, .pointer (some ⟨w.heap.size, 1, none⟩), _, _, _, _, _, _, _, _, _, _, _, rfl, rfl, ⟨H.h0, H.h1, fun _ => rfl, H.h3, H.h4, H.h5, H.h6, H.h7, H.h8, H.h9, H.h10, H.h11, H.below, H.hord, H.h12, H.h13, H.h14⟩⟩)
        · have b14f : b14 = false := by
            cases hb : b14 with
            | false => rfl
            | true => exact absurd (H.hord hb).2.1 (by simp [hi])
          have cc1 := ((H.below b14f).cell (p := ⟨w.heap.size, 1, none⟩) HCE.out.1).trans HCE.out.2.2.1
          obtain rfl := H.h2 (by simp [hi])
          clear b14f
          refine wpOp_hidden rfl fun K hK => ?_
          go_wp2
          refine OnlyN.mk (hK.out _ _ ⟨_, _, _, true, _, _, _, _, _, _, _, _, _, _, _, _, _, _, .slice A ps.length c, _, _, _, _, _, _, _, _, _, _, rfl, rfl, ⟨H.h0, H.h1, H.h2, fun _ => rfl, H.h4, H.h5, H.h6, H.h7, H.h8, H.h9, H.h10, H.h11, H.below, fun h => ⟨(H.hord h).1, rfl, (H.hord h).2.2.1, (H.hord h).2.2.2.1, (H.hord h).2.2.2.2.1, (H.hord h).2.2.2.2.2⟩, H.h12, H.h13, H.h14⟩⟩)
        · refine wpOp_hidden rfl fun K hK => ?_
          go_wp2
          refine OnlyN.mk (hK.out _ _ ⟨_, _, _, _, true, _, _, _, _, _, _, _, _, _, _, _, _, _, _, .pointer (some ⟨p, 0, none⟩), _, _, _, _, _, _, _, _, _, rfl, rfl, ⟨H.h0, H.h1, H.h2, H.h3, fun _ => rfl, H.h5, H.h6, H.h7, H.h8, H.h9, H.h10, H.h11, H.below, H.hord, H.h12, H.h13, H.h14⟩⟩)
        · have b14f : b14 = false := by
            cases hb : b14 with
            | false => rfl
            | true => exact absurd (H.hord hb).2.2.1 (by simp [hi])
          have cc2 := ((H.below b14f).cell (p := ⟨p, 0, none⟩) HCE.out.2.2.2.1).trans HCE.out.2.2.2.2.1
          obtain rfl := H.h4 (by simp [hi])
          clear b14f
          refine wpOp_hidden rfl fun K hK => ?_
          go_wp2
          refine OnlyN.mk (hK.out _ _ ⟨_, _, _, _, _, true, _, _, _, _, _, _, _, _, _, _, _, _, _, _, .slice An os.length cn, _, _, _, _, _, _, _, _, rfl, rfl, ⟨H.h0, H.h1, H.h2, H.h3, H.h4, fun _ => rfl, H.h6, H.h7, H.h8, H.h9, H.h10, H.h11, H.below, fun h => ⟨(H.hord h).1, (H.hord h).2.1, rfl, (H.hord h).2.2.2.1, (H.hord h).2.2.2.2.1, (H.hord h).2.2.2.2.2⟩, H.h12, H.h13, H.h14⟩⟩)
        · refine wpOp_hidden rfl fun K hK => ?_
          go_wp2
          refine OnlyN.mk (hK.out _ _ ⟨_, _, _, _, _, _, true, _, _, _, _, _, _, _, _, _, _, _, _, _, _, .slice (some ⟨gT, 0, none⟩) hs.length hs.length, _, _, _, _, _, _, _, rfl, rfl, ⟨H.h0, H.h1, H.h2, H.h3, H.h4, H.h5, fun _ => rfl, H.h7, H.h8, H.h9, H.h10, H.h11, H.below, H.hord, H.h12, H.h13, H.h14⟩⟩)
        · refine wpOp_hidden rfl fun K hK => ?_
          go_wp2
          refine OnlyN.mk (hK.out _ _ ⟨_, _, _, _, _, _, _, true, _, _, _, _, _, _, _, _, _, _, _, _, _, _, .slice (some ⟨gT, 0, none⟩) hs.length hs.length, _, _, _, _, _, _, rfl, rfl, ⟨H.h0, H.h1, H.h2, H.h3, H.h4, H.h5, H.h6, fun _ => rfl, H.h8, H.h9, H.h10, H.h11, H.below, H.hord, H.h12, H.h13, H.h14⟩⟩)
        · obtain rfl := H.h7 (by simp [hi])
          refine wpOp_hidden rfl fun K hK => ?_
          go_wp2
          refine OnlyN.mk (hK.out _ _ ⟨_, _, _, _, _, _, _, _, true, _, _, _, _, _, _, _, _, _, _, _, _, _, _, .int .i64 hs.length, _, _, _, _, _, rfl, rfl, ⟨H.h0, H.h1, H.h2, H.h3, H.h4, H.h5, H.h6, H.h7, fun _ => rfl, H.h9, H.h10, H.h11, H.below, H.hord, H.h12, H.h13, H.h14⟩⟩)
        · obtain rfl := H.h8 (by simp [hi])
          have hwN := HWN.out.1
          refine wpOp_hidden rfl fun K hK => ?_
          go_wp2
          refine OnlyN.mk (hK.out _ _ ⟨_, _, _, _, _, _, _, _, _, true, _, _, _, _, _, _, _, _, _, _, _, _, _, _, .int .i64 N1, _, _, _, _, rfl, rfl, ⟨H.h0, H.h1, H.h2, H.h3, H.h4, H.h5, H.h6, H.h7, H.h8, fun _ => rfl, H.h10, H.h11, H.below, H.hord, H.h12, H.h13, H.h14⟩⟩)
        · obtain rfl := H.h6 (by simp [hi])
          obtain rfl := H.h9 (by simp [hi])
          have hN1l := HWN.out.2
          refine wpOp_hidden rfl fun K hK => ?_
          go_wp2
          refine OnlyN.mk (hK.out _ _ ⟨_, _, _, _, _, _, _, _, _, _, true, _, _, _, _, _, _, _, _, _, _, _, _, _, _, .pointer (some ⟨gT, N1, none⟩), _, _, _, rfl, rfl, ⟨H.h0, H.h1, H.h2, H.h3, H.h4, H.h5, H.h6, H.h7, H.h8, H.h9, fun _ => rfl, H.h11, H.below, H.hord, H.h12, H.h13, H.h14⟩⟩)
        · have b14f : b14 = false := by
            cases hb : b14 with
            | false => rfl
            | true => exact absurd (H.hord hb).2.2.2.1 (by simp [hi])
          have cc3 := ((H.below b14f).cell (p := ⟨gT, N1, none⟩) HCE.out.2.2.2.2.2.1).trans HCE.out.2.2.2.2.2.2
          obtain rfl := H.h10 (by simp [hi])
          clear b14f
          refine wpOp_hidden rfl fun K hK => ?_
          go_wp2
          refine OnlyN.mk (hK.out _ _ ⟨_, _, _, _, _, _, _, _, _, _, _, true, _, _, _, _, _, _, _, _, _, _, _, _, _, _, .int .i64 r, _, _, rfl, rfl, ⟨H.h0, H.h1, H.h2, H.h3, H.h4, H.h5, H.h6, H.h7, H.h8, H.h9, H.h10, fun _ => rfl, H.below, fun h => ⟨(H.hord h).1, (H.hord h).2.1, (H.hord h).2.2.1, rfl, (H.hord h).2.2.2.2.1, (H.hord h).2.2.2.2.2⟩, H.h12, H.h13, H.h14⟩⟩)
        · have b14f : b14 = false := by
            cases hb : b14 with
            | false => rfl
            | true => exact absurd (H.hord hb).2.2.2.2.1 (by simp [hi])
          obtain rfl := H.h5 (by simp [hi])
          obtain rfl := H.h11 (by simp [hi])
          have HB0 := Lib.hid (H.below b14f)
          have HCX := Lib.hid (HORD.out w' HB0.out)
          clear b14f
          refine wpOp_hidden rfl fun K hK => ?_
          go_wp2_with (go_at_call 47; refine HCX.out.mono ?_)
          rintro e w9 ⟨v9, os9, rfl, ho9, he9, hb9⟩
          have HO9 := Lib.hid (And.intro (show OwnNA w9 wr.heap.size v9 os9 from ⟨own_down ho9.1 HB0.out.size, fun x hx => (ho9.2 x hx).down HB0.out.size⟩) he9)
          have HB9 := Lib.hid hb9
          clear ho9 he9 hb9 HCX
          go_wp2
          refine OnlyN.mk (hK.out _ _ ⟨_, _, _, _, _, _, _, _, _, _, _, _, true, _, _, _, _, _, _, _, _, _, _, _, _, _, _, v9, _, rfl, rfl, ⟨H.h0, H.h1, H.h2, H.h3, H.h4, H.h5, H.h6, H.h7, H.h8, H.h9, H.h10, H.h11, fun h => (H.below h).trans (HB9.out.mono (H.below h).size), fun h => ⟨(H.hord h).1, (H.hord h).2.1, (H.hord h).2.2.1, (H.hord h).2.2.2.1, rfl, (H.hord h).2.2.2.2.2⟩, fun _ _ => ⟨os9, HO9.out.1, HO9.out.2⟩, fun h h2 => (by obtain ⟨nv, os2, x1, x2, x3⟩ := H.h13 h h2; exact ⟨nv, os2, x1, x2.ext HB9.out, x3⟩), fun h => absurd (H.hord h).2.2.2.2.1 (by simp [hi])⟩⟩)
        · have b14f : b14 = false := by
            cases hb : b14 with
            | false => rfl
            | true => exact absurd (H.hord hb).2.2.2.2.2 (by simp [hi])
          obtain rfl := H.h1 (by simp [hi])
          obtain rfl := H.h3 (by simp [hi])
          obtain ⟨os9, h12, h12e⟩ := H.h12 (by simp [hi]) b14f
          obtain ⟨An9, cn9, env, -, -⟩ := h12.nds
          have HO12 := Lib.hid (And.intro h12 h12e)
          clear h12 h12e b14f
          subst env
          refine wpOp_hidden rfl fun K hK => ?_
          go_wp2
          refine OnlyN.mk (hK.out _ _ ⟨_, _, _, _, _, _, _, _, _, _, _, _, _, true, _, _, _, _, _, _, _, _, _, _, _, _, _, _, .agg #[.int .i64 st, .slice A ps.length c, .slice An9 os9.length cn9], rfl, rfl, ⟨H.h0, H.h1, H.h2, H.h3, H.h4, H.h5, H.h6, H.h7, H.h8, H.h9, H.h10, H.h11, H.below, fun h => ⟨(H.hord h).1, (H.hord h).2.1, (H.hord h).2.2.1, (H.hord h).2.2.2.1, (H.hord h).2.2.2.2.1, rfl⟩, H.h12, fun _ _ => ⟨_, os9, rfl, HO12.out.1, HO12.out.2⟩, fun h => absurd (H.hord h).2.2.2.2.2 (by simp [hi])⟩⟩)
        · obtain ⟨nv9, os9, hv136, h13, h13e⟩ := H.h13 (by simp [hi]) (by simp [hi])
          subst hv136
          obtain ⟨An9, cn9, env, hnds9, -⟩ := h13.nds
          have HO13 := Lib.hid (And.intro h13 h13e)
          have hpw := HPRW.out.below (H.below (by simp [hi])) HPRW.out.lt
          have HBL := Lib.hid (H.below (by simp [hi]))
          have cc0 := hpw.cell_ 0 (.int .i64 0) rfl
          have cc1 := hpw.cell_ 1 (.slice none 0 0) rfl
          have cc2 := hpw.cell_ 2 (.slice none 0 0) rfl
          have ff0 := hpw.frozen 0
          have ff1 := hpw.frozen 1
          have ff2 := hpw.frozen 2
          subst env
          clear h13 h13e hnds9 hpw
          refine wpOp_hidden rfl fun K hK => ?_
          go_wp2
          refine OnlyN.mk (hK.out _ _ ⟨_, _, _, _, _, _, _, _, _, _, _, _, _, _, true, _, _, _, _, _, _, _, _, _, _, _, _, _, _, rfl, rfl, ⟨H.h0, H.h1, H.h2, H.h3, H.h4, H.h5, H.h6, H.h7, H.h8, H.h9, H.h10, H.h11, fun h => (by cases h), fun _ => (by simp [hi]), fun _ h => (by cases h), fun _ h => (by cases h), fun _ => ⟨_, os9, _, HBL.out, HO13.out.1, HO13.out.2, rfl⟩⟩⟩)
      · rintro listed act w' hr ⟨b0, b1, b2, b3, b4, b5, b6, b7, b8, b9, b10, b11, b12, b13, b14, v123, v124, v125, v126, v127, v128, v129, v130, v131, v132, v133, v134, v135, v136, rfl, rfl, H⟩
        have hn := List.eq_nil_iff_forall_not_mem.1 hr
        have r0 := hn 0
        simp [mem_ready, Region.binds] at r0
        subst r0
        have r1 := hn 1
        simp [mem_ready, Region.binds] at r1
        subst r1
        have r2 := hn 2
        simp [mem_ready, Region.binds] at r2
        subst r2
        have r3 := hn 3
        simp [mem_ready, Region.binds] at r3
        subst r3
        have r4 := hn 4
        simp [mem_ready, Region.binds] at r4
        subst r4
        have r5 := hn 5
        simp [mem_ready, Region.binds] at r5
        subst r5
        have r6 := hn 6
        simp [mem_ready, Region.binds] at r6
        subst r6
        have r7 := hn 7
        simp [mem_ready, Region.binds] at r7
        subst r7
        have r8 := hn 8
        simp [mem_ready, Region.binds] at r8
        subst r8
        have r9 := hn 9
        simp [mem_ready, Region.binds] at r9
        subst r9
        have r10 := hn 10
        simp [mem_ready, Region.binds] at r10
        subst r10
        have r11 := hn 11
        simp [mem_ready, Region.binds] at r11
        subst r11
        have r12 := hn 12
        simp [mem_ready, Region.binds] at r12
        subst r12
        have r13 := hn 13
        simp [mem_ready, Region.binds] at r13
        subst r13
        have r14 := hn 14
        simp [mem_ready, Region.binds] at r14
        subst r14
        try dsimp only
        obtain ⟨nv9, os9, w5, hb5, h13, h13e, hw5⟩ := H.h14 rfl
        obtain ⟨An9, cn9, env, -, -⟩ := h13.nds
        subst env
        have hpw := HPRW.out.below hb5 HPRW.out.lt
        have hp3 : Blk w' (w.heap.size + 1) 25 #[.int .i64 st, .slice A ps.length c, .slice An9 os9.length cn9] := by rw [hw5]; exact ((hpw.set_ 0 (.int .i64 st)).set_ 1 (.slice A ps.length c)).set_ 2 (.slice An9 os9.length cn9)
        have hk3 : Kept (fun g => g = w.heap.size + 1) w5 w' := by rw [hw5]; exact (((Kept.refl (fun g => g = w.heap.size + 1) w5).setCell (p := ⟨w.heap.size + 1, 0, none⟩) (Or.inl rfl) _).setCell (p := ⟨w.heap.size + 1, 1, none⟩) (Or.inl rfl) _).setCell (p := ⟨w.heap.size + 1, 2, none⟩) (Or.inl rfl) _
        have hwsz := HWO.out.size
        have ho13 : OwnNA w' w.heap.size (.slice An9 os9.length cn9) os9 := OwnN.kept ⟨own_down h13.1 hwsz, fun x hx => (h13.2 x hx).down hwsz⟩ hk3 (fun g e e2 => by subst e2; exact own_blk_ne' h13.1 hpw (by decide) e) (fun x hx g e e2 => by subst e2; exact own_blk_ne' (h13.2 x hx) hpw (by decide) e)
        have hbe : Below w.heap.size w w' := (HWO.out.trans (hb5.mono hwsz)).trans (hk3.to_below (Nat.le_trans hwsz hb5.size) (fun g hg e => by subst e; exact absurd hg (Nat.not_lt_of_le (Nat.le_succ _))))
        have cc0 := hp3.cell_ 0 (.int .i64 st) rfl
        have cc1 := hp3.cell_ 1 (.slice A ps.length c) rfl
        have cc2 := hp3.cell_ 2 (.slice An9 os9.length cn9) rfl
        have HFIN := Lib.hid (And.intro ho13 (And.intro h13e hbe))
        have HP3 := Lib.hid hp3
        clear H hr hn hb5 h13 h13e hpw hk3 hwsz ho13 hbe hp3 hw5
        go_wp2
        exact bodyPost_ret (results_cell_row Tryd.results52 _ _ (w.heap.size + 1) 25 #[.int .i64 st, .slice A ps.length c, .slice An9 os9.length cn9] (0, 0) _ rfl HP3.out Tryd.underlying25 rfl Tryd.sizeTree) rfl ⟨_, os9, rfl, HFIN.out.1, HFIN.out.2.1, HFIN.out.2.2⟩
end Go.Proofs.YtojnnfihpiegoaaDoor
