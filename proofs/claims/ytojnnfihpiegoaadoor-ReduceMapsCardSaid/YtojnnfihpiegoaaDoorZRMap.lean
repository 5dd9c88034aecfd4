/-
  cellularref13.Map, cellularref13.Fix. No condition but that numbers are those of Go.
-/
import Derived.BigRegion
import Derived.Test.YtojnnfihpiegoaaDoorZCj
import Derived.Deep.DeepCutAuto
import Derived.Deep.DeepFit
import Derived.Deep.CutBlock
namespace Go.Proofs.YtojnnfihpiegoaaDoor
open Go.RowKit
set_option maxRecDepth 100000
set_option linter.unusedVariables false
set_option linter.unusedSimpArgs false

theorem chg_take {ch : Int → List Int → List Int} {l : List Nd} {i : Nat} (hi : i < l.length) {lv : Int} {zs : List Int} (h : ndAt l i = (lv, zs)) : (chgL ch l).take (i + 1) = (chgL ch l).take i ++ [(lv, ch lv zs)] := by
  rw [List.take_succ_eq_append_getElem (by rw [chg_len]; exact hi)]
  have : (chgL ch l)[i]'(by rw [chg_len]; exact hi) = (lv, ch lv zs) := by
    have h2 := chg_at ch hi
    rw [ndAt_get _ (by rw [chg_len]; exact hi), h] at h2
    exact h2
  rw [this]
theorem chM_len (tz : List Int) (lv : Int) (zs : List Int) : (chM tz lv zs).length = zs.length := by
  unfold chM
  split
  · exact List.length_map _
  · rfl
theorem chM_take {tz : List Int} {lv : Int} {zs : List Int} {m : Nat} (hm : m < zs.length) : (chM tz lv zs).take (m + 1) = (chM tz lv zs).take m ++ [if lv = 1 then tz.getD (zs[m]).toNat 0 else zs[m]] := by
  rw [List.take_succ_eq_append_getElem (by rw [chM_len]; exact hm)]
  congr 2
  unfold chM
  split
  · exact List.getElem_map ..
  · rfl
theorem chF_len (L k s : Nat) (lv : Int) (zs : List Int) : (chF L k s lv zs).length = zs.length := by
  unfold chF
  split
  · exact List.length_replicate
  · rfl
theorem chF_take {L k s : Nat} {lv : Int} {zs : List Int} {m : Nat} (hm : m < zs.length) : (chF L k s lv zs).take (m + 1) = (chF L k s lv zs).take m ++ [if lv = (L : Int) - k then zs.getD s 0 else zs[m]] := by
  rw [List.take_succ_eq_append_getElem (by rw [chF_len]; exact hm)]
  congr 2
  unfold chF
  split
  · exact List.getElem_replicate ..
  · rfl
set_option maxHeartbeats 16000000 in
theorem rmap_any (st : Int) (A : Option Addr) (c : Nat) (ps : List (Int × Int)) (B : Option Addr) (d : Nat) (hs : List Hd) (At : Option Addr) (ct : Nat) (tz : List Int) (w : World) (hp : Pts w A ps) (hN : Nds w B hs) (hz : Ints w At tz) :
    Calls Tryd.prog 19 #[.agg #[.int .i64 st, .slice A ps.length c, .slice B hs.length d], .slice At tz.length ct] w (RetTEO A (mapT ⟨st, ps, hs.map Hd.nd⟩ tz) w) := by
  have htl := hz.le
  obtain ⟨w0, hw0⟩ : ∃ w0, w0 = (w.alloc (.cells #[.int .i64 st, .slice A ps.length c, .slice B hs.length d] 25)).alloc (.cells #[.int .i64 0, .slice none 0 0, .slice none 0 0] 25) := ⟨_, rfl⟩
  have hb1 := below_new w (.cells #[.int .i64 st, .slice A ps.length c, .slice B hs.length d] 25)
  have hb0 : Below w.heap.size w w0 := by rw [hw0]; exact hb1.alloc hb1.size _
  have p0 : Blk w0 w.heap.size 25 #[.int .i64 st, .slice A ps.length c, .slice B hs.length d] := by rw [hw0]; exact (Blk.new w _ _).alloc _
  have q0 : Blk w0 (w.heap.size + 1) 25 #[.int .i64 0, .slice none 0 0, .slice none 0 0] := by
    rw [hw0]
    have := Blk.new (w.alloc (.cells #[.int .i64 st, .slice A ps.length c, .slice B hs.length d] 25)) 25 #[.int .i64 0, .slice none 0 0, .slice none 0 0]
    simpa using this
  have HR := Lib.hid (rright_any st A c ps B d hs w0 (hp.ext hb0) (hN.ext hb0))
  have HPO := Lib.hid hp
  have HP := Lib.hid (hp.ext hb0)
  have HN := Lib.hid (hN.ext hb0)
  have HB0 := Lib.hid hb0
  have HP0 := Lib.hid p0
  have HQ0 := Lib.hid q0
  have HW0 := Lib.hid hw0
  have c0 := p0.cell_ 0 (.int .i64 st) rfl
  have c1 := p0.cell_ 1 (.slice A ps.length c) rfl
  have c2 := p0.cell_ 2 (.slice B hs.length d) rfl
  have HZ := Lib.hid (hz.ext hb0)
  clear hb1 hb0 p0 q0 hw0 hp hN hz
  cases hr : rightN st ps (hs.map Hd.nd) with
  | false =>
    have HE : Hid (mapT ⟨st, ps, hs.map Hd.nd⟩ tz = (PT.zero, 11)) := Lib.hid (by unfold mapT PT.right; rw [hr]; rfl)
    rw [hr] at HR
    clear hr
    go_enter Tryd.func19, Tryd.ntmps19
    go_upto_region 1 with fail
    rw [← HW0.out]
    go_wp2_with (go_at_call 26; refine HR.out.mono ?_)
    rintro e w1 ⟨rfl, hb⟩
    have HBr := Lib.hid hb
    have HBw := Lib.hid (HB0.out.trans (hb.mono HB0.out.size))
    clear hb c0 c1 c2
    have q1 := HQ0.out.below HBr.out HQ0.out.lt
    have HQ1 := Lib.hid q1
    have d0 := q1.cell_ 0 (.int .i64 0) rfl
    have d1x := q1.cell_ 1 (.slice none 0 0) rfl
    have d2 := q1.cell_ 2 (.slice none 0 0) rfl
    have f0 := q1.frozen 0
    have f1 := q1.frozen 1
    have f2 := q1.frozen 2
    clear q1
    go_wp2
    have hq : Blk (((w1.setCell ⟨w.heap.size + 1, 0, none⟩ (.int .i64 0)).setCell ⟨w.heap.size + 1, 1, none⟩ (.slice none 0 0)).setCell ⟨w.heap.size + 1, 2, none⟩ (.slice none 0 0)) (w.heap.size + 1) 25 #[.int .i64 0, .slice none 0 0, .slice none 0 0] := ((HQ1.out.set_ 0 (.int .i64 0)).set_ 1 (.slice none 0 0)).set_ 2 (.slice none 0 0)
    rw [HE.out]
    exact bodyPost_ret (results_ct Tryd.results19 _ _ (w.heap.size + 1) 25 #[.int .i64 0, .slice none 0 0, .slice none 0 0] (0, 0) _ rfl hq Tryd.underlying25 rfl Tryd.sizeTree) rfl
      ⟨none, 0, _, [], rfl, .inr rfl, Pts.nil, OwnN.nil _ _ _ _, rfl, ((HBw.out.setCell (p := ⟨w.heap.size + 1, 0, none⟩) (by show w.heap.size ≤ w.heap.size + 1; omega) _).setCell (p := ⟨w.heap.size + 1, 1, none⟩) (by show w.heap.size ≤ w.heap.size + 1; omega) _).setCell (p := ⟨w.heap.size + 1, 2, none⟩) (by show w.heap.size ≤ w.heap.size + 1; omega) _⟩
  | true =>
    rw [hr] at HR
    have HRR := Lib.hid hr
    clear hr
    have HRP := Lib.hid (rightN_parts HRR.out)
    have HV := Lib.hid HRP.out.2.2.2.2.2.2.2.1
    have HHL : Hid (hs.length ≤ 4096) := Lib.hid (by have := HRP.out.2.2.2.2.1; rwa [List.length_map] at this)
    by_cases hl : (tz.length : Int) = st
    · have n1 : ((tz.length : Int) != st) = false := by simp [hl]
      have HL := Lib.hid hl
      have HTL := Lib.hid (show tz.length ≤ 8 by have h2 := HRP.out.2.1; omega)
      clear hl htl
      go_enter Tryd.func19, Tryd.ntmps19
      go_upto_region 1 with fail
      rw [← HW0.out]
      go_wp2_with (go_at_call 26; refine HR.out.mono ?_)
      rintro e w1 ⟨rfl, hb⟩
      have HBr := Lib.hid hb
      have HBw := Lib.hid (HB0.out.trans (hb.mono HB0.out.size))
      clear hb c0 c1 c2
      have p1 := HP0.out.below HBr.out HP0.out.lt
      have e0 := p1.cell_ 0 (.int .i64 st) rfl
      have e1 := p1.cell_ 1 (.slice A ps.length c) rfl
      have e2 := p1.cell_ 2 (.slice B hs.length d) rfl
      clear p1
      go_wp2
      go_loopw [6] (fun i wr => ∃ m : Nat, m ≤ tz.length ∧ i = .int .i64 m ∧ Hid (Qt w1 wr) ∧ Hid (tz.any (badS st) = (tz.drop m).any (badS st))) (fun i _ => tz.length - (intOf i).toNat)
      case atStart => exact ⟨0, Nat.zero_le _, rfl, Lib.hid (Qt.refl _), Lib.hid (by simp)⟩
      case round =>
        clear e0 e1 e2
        obtain ⟨m, hm, rfl, HQT, HI⟩ := hrel
        have HBr : Hid (Below w0.heap.size w0 wr) := Lib.hid (HBr.out.trans (HQT.out.below _))
        have HBw : Hid (Below w.heap.size w wr) := Lib.hid (HBw.out.trans (HQT.out.below _))
        have p1 := HP0.out.below HBr.out HP0.out.lt
        have e0 := p1.cell_ 0 (.int .i64 st) rfl
        have e1 := p1.cell_ 1 (.slice A ps.length c) rfl
        have e2 := p1.cell_ 2 (.slice B hs.length d) rfl
        clear p1
        by_cases hml : m < tz.length
        · obtain ⟨bt, ot, et, -, hct⟩ := (HZ.out.ext HBr.out).at_ hml
          have hwm : wrap64 ((m : Int) + 1) = (m : Int) + 1 := by have := HTL.out; unfold wrap64; omega
          obtain ⟨z, hz⟩ : ∃ z, z = tz[m] := ⟨_, rfl⟩
          rw [← hz] at hct
          have hany : (tz.drop m).any (badS st) = (badS st z || (tz.drop (m + 1)).any (badS st)) := by rw [List.drop_eq_getElem_cons hml, List.any_cons, hz]
          have HA := Lib.hid hany
          subst et
          clear hz hany
          by_cases z0 : z < 0
          · have g0 : decide (z < 0) = true := decide_eq_true z0
            have HE : Hid (mapT ⟨st, ps, hs.map Hd.nd⟩ tz = (PT.zero, 10)) := Lib.hid (by
              unfold mapT PT.right
              rw [HRR.out, if_neg (by simp), if_neg (by simpa using HL.out), if_pos]
              dsimp only
              rw [HI.out, HA.out]; unfold badS; rw [g0]; rfl)
            clear z0
            go_wp2
            go_quiet (fail)
            have HBr : Hid (Below w0.heap.size w0 (wr.drewN nq)) := Lib.hid (below_drewN HBr.out _)
            have HBw : Hid (Below w.heap.size w (wr.drewN nq)) := Lib.hid (below_drewN HBw.out _)
            obtain ⟨wz, hwz⟩ : ∃ wz, wz = wr.drewN nq := ⟨_, rfl⟩
            rw [← hwz] at HBr HBw ⊢
            clear hwz e0 e1 e2 hct
            have q1 := HQ0.out.below HBr.out HQ0.out.lt
            have HQ1 := Lib.hid q1
            have d0 := q1.cell_ 0 (.int .i64 0) rfl
            have d1x := q1.cell_ 1 (.slice none 0 0) rfl
            have d2 := q1.cell_ 2 (.slice none 0 0) rfl
            have f0 := q1.frozen 0
            have f1 := q1.frozen 1
            have f2 := q1.frozen 2
            clear q1
            go_wp2
            have hq : Blk (((wz.setCell ⟨w.heap.size + 1, 0, none⟩ (.int .i64 0)).setCell ⟨w.heap.size + 1, 1, none⟩ (.slice none 0 0)).setCell ⟨w.heap.size + 1, 2, none⟩ (.slice none 0 0)) (w.heap.size + 1) 25 #[.int .i64 0, .slice none 0 0, .slice none 0 0] := ((HQ1.out.set_ 0 (.int .i64 0)).set_ 1 (.slice none 0 0)).set_ 2 (.slice none 0 0)
            rw [HE.out]
            exact bodyPost_ret (results_ct Tryd.results19 _ _ (w.heap.size + 1) 25 #[.int .i64 0, .slice none 0 0, .slice none 0 0] (0, 0) _ rfl hq Tryd.underlying25 rfl Tryd.sizeTree) rfl
              ⟨none, 0, _, [], rfl, .inr rfl, Pts.nil, OwnN.nil _ _ _ _, rfl, ((HBw.out.setCell (p := ⟨w.heap.size + 1, 0, none⟩) (by show w.heap.size ≤ w.heap.size + 1; omega) _).setCell (p := ⟨w.heap.size + 1, 1, none⟩) (by show w.heap.size ≤ w.heap.size + 1; omega) _).setCell (p := ⟨w.heap.size + 1, 2, none⟩) (by show w.heap.size ≤ w.heap.size + 1; omega) _⟩
          · have g0 : decide (z < 0) = false := decide_eq_false z0
            by_cases z1 : st ≤ z
            · have g1 : decide (st ≤ z) = true := decide_eq_true z1
              have HE : Hid (mapT ⟨st, ps, hs.map Hd.nd⟩ tz = (PT.zero, 10)) := Lib.hid (by
                unfold mapT PT.right
                rw [HRR.out, if_neg (by simp), if_neg (by simpa using HL.out), if_pos]
                dsimp only
                rw [HI.out, HA.out]; unfold badS; rw [g1]; simp)
              clear z0 z1
              go_wp2
              go_quiet (fail)
              have HBr : Hid (Below w0.heap.size w0 (wr.drewN nq)) := Lib.hid (below_drewN HBr.out _)
              have HBw : Hid (Below w.heap.size w (wr.drewN nq)) := Lib.hid (below_drewN HBw.out _)
              obtain ⟨wz, hwz⟩ : ∃ wz, wz = wr.drewN nq := ⟨_, rfl⟩
              rw [← hwz] at HBr HBw ⊢
              clear hwz e0 e1 e2 hct
              have q1 := HQ0.out.below HBr.out HQ0.out.lt
              have HQ1 := Lib.hid q1
              have d0 := q1.cell_ 0 (.int .i64 0) rfl
              have d1x := q1.cell_ 1 (.slice none 0 0) rfl
              have d2 := q1.cell_ 2 (.slice none 0 0) rfl
              have f0 := q1.frozen 0
              have f1 := q1.frozen 1
              have f2 := q1.frozen 2
              clear q1
              go_wp2
              have hq : Blk (((wz.setCell ⟨w.heap.size + 1, 0, none⟩ (.int .i64 0)).setCell ⟨w.heap.size + 1, 1, none⟩ (.slice none 0 0)).setCell ⟨w.heap.size + 1, 2, none⟩ (.slice none 0 0)) (w.heap.size + 1) 25 #[.int .i64 0, .slice none 0 0, .slice none 0 0] := ((HQ1.out.set_ 0 (.int .i64 0)).set_ 1 (.slice none 0 0)).set_ 2 (.slice none 0 0)
              rw [HE.out]
              exact bodyPost_ret (results_ct Tryd.results19 _ _ (w.heap.size + 1) 25 #[.int .i64 0, .slice none 0 0, .slice none 0 0] (0, 0) _ rfl hq Tryd.underlying25 rfl Tryd.sizeTree) rfl
                ⟨none, 0, _, [], rfl, .inr rfl, Pts.nil, OwnN.nil _ _ _ _, rfl, ((HBw.out.setCell (p := ⟨w.heap.size + 1, 0, none⟩) (by show w.heap.size ≤ w.heap.size + 1; omega) _).setCell (p := ⟨w.heap.size + 1, 1, none⟩) (by show w.heap.size ≤ w.heap.size + 1; omega) _).setCell (p := ⟨w.heap.size + 1, 2, none⟩) (by show w.heap.size ≤ w.heap.size + 1; omega) _⟩
            · have g1 : decide (st ≤ z) = false := decide_eq_false z1
              have HI2 : Hid (tz.any (badS st) = (tz.drop (m + 1)).any (badS st)) := Lib.hid (by rw [HI.out, HA.out]; unfold badS; rw [g0, g1]; rfl)
              have HML := Lib.hid hml
              clear z0 z1
              go_wp2
              go_quiet (fail)
              go_wp2
              go_roundw
              case rel => exact ⟨m + 1, HML.out, (by first | rfl | (rw [hwm]; rfl)), Lib.hid (HQT.out.step _), HI2⟩
              case measure => (try rw [hwm]); have := HML.out; simp [intOf]; omega
        · have HAL : Hid (tz.any (badS st) = false) := Lib.hid (by
            have h := HI.out
            rw [List.drop_of_length_le (by omega)] at h
            exact h)
          have HE : Hid (mapT ⟨st, ps, hs.map Hd.nd⟩ tz = (⟨st, ps, redN (chM tz) (hs.map Hd.nd)⟩, 0)) := Lib.hid (by
            unfold mapT PT.right
            rw [HRR.out, if_neg (by simp), if_neg (by simpa using HL.out)]
            dsimp only
            rw [HAL.out]
            rfl)
          have HCH : Hid (Chg st.toNat (chM tz)) := Lib.hid (by
            have hq : tz.length = st.toNat := by have := HL.out; have := HRP.out.1; omega
            refine chM_chg hq fun z hz => ?_
            have h := HAL.out
            rw [List.any_eq_false] at h
            have h2 := h z hz
            unfold badS at h2
            simp at h2
            have := HRP.out.1
            omega)
          obtain ⟨WQ, hWQ⟩ : ∃ WQ : World, WQ = wr := ⟨_, rfl⟩
          subst hWQ
          have hmk : m = tz.length := by omega
          subst hmk
          clear hm HI
          go_wp2
          clear e0 e1 e2
          go_loopw [7, 8] (fun lv i wr => ∃ (k : Nat) (osl : List Hd), k ≤ hs.length ∧ i = .int .i64 k ∧ Hid (OwnNA wr WQ.heap.size lv osl ∧ osl.map Hd.nd = (chgL (chM tz) (hs.map Hd.nd)).take k) ∧ Hid (Below WQ.heap.size WQ wr)) (fun _ i _ => hs.length - (intOf i).toNat)
          case atStart => exact ⟨0, [], Nat.zero_le _, rfl, Lib.hid ⟨OwnN.nil _ _ _ _, rfl⟩, Lib.hid (Below.refl _ _)⟩
          case round =>
            obtain ⟨i, osl, hi, rfl, HO, HBI⟩ := hrel
            have hr1 := HBr.out.trans (HBI.out.mono HBr.out.size)
            have HBi := Lib.hid hr1
            have p1 := HP0.out.below hr1 HP0.out.lt
            have e0 := p1.cell_ 0 (.int .i64 st) rfl
            have e1 := p1.cell_ 1 (.slice A ps.length c) rfl
            have e2 := p1.cell_ 2 (.slice B hs.length d) rfl
            have hwi : wrap64 ((i : Int) + 1) = (i : Int) + 1 := by have := HHL.out; unfold wrap64; omega
            have hol : osl.length = i := by
              have := congrArg List.length HO.out.2
              rw [List.length_map, List.length_take, chg_len, List.length_map] at this
              omega
            have HOL := Lib.hid hol
            clear p1 hr1 hol
            by_cases hil : i < hs.length
            · have hndk := nd_at hs hil
              have hlq := HV.out.lev.len i (by rw [List.length_map]; exact hil)
              have hlow := HV.out.low i (by rw [List.length_map]; exact hil)
              obtain ⟨nb, no, eB, hnb, -⟩ : ∃ b o, B = some ⟨b, o, none⟩ ∧ b < w0.heap.size ∧ True := by
                obtain ⟨b, o, h1, h2, -⟩ := HN.out.at_ hil
                exact ⟨b, o, h1, h2, trivial⟩
              have hat : ∀ V, Below w0.heap.size w0 V → V.cell? ⟨nb, no + i * 2, none⟩ = some (.int .i64 hs[i].lv) ∧ V.cell? ⟨nb, no + i * 2 + 1, none⟩ = some (.slice hs[i].A hs[i].zs.length hs[i].c) ∧ Ints V hs[i].A hs[i].zs := fun V hV => by
                obtain ⟨b, o, h1, -, h2, h3, h4⟩ := (HN.out.ext hV).at_ hil
                rw [eB] at h1
                injection h1 with h1
                injection h1 with h5 h6
                subst h5 h6
                exact ⟨h2, h3, h4⟩
              have hzA : ∀ ad, hs[i].A = some ad → 0 < hs[i].zs.length → ad.block < w0.heap.size := fun ad e hl => by
                obtain ⟨b, o, h1, h2, -⟩ := (hat w0 (Below.refl _ _)).2.2.at_ hl
                rw [e] at h1
                injection h1 with h1
                subst h1
                exact h2
              obtain ⟨x, hx⟩ : ∃ x, x = hs[i] := ⟨_, rfl⟩
              rw [← hx] at hndk hat hzA
              obtain ⟨lv, zA, zc, zs⟩ := x
              dsimp only at hat hzA
              change ndAt (hs.map Hd.nd) i = (lv, zs) at hndk
              rw [hndk] at hlq hlow
              dsimp only at hlq hlow
              have HTK := Lib.hid (chg_take (ch := chM tz) (by rw [List.length_map]; exact hil) hndk)
              have hzst : st = (zs.length : Int) := by have := HRP.out.1; omega
              have HZST := Lib.hid hzst
              have hz8 : zs.length ≤ 8 := by have := HRP.out.2.1; omega
              have HAT := Lib.hid hat
              have HZA := Lib.hid hzA
              have HLOW := Lib.hid hlow
              have HND := Lib.hid hndk
              have HNB := Lib.hid hnb
              have HZ8 := Lib.hid hz8
              obtain ⟨g0, g1, -⟩ := hat wr HBi.out
              rw [hzst] at e0
              subst eB
              have HIL := Lib.hid hil
              clear hx hat hlq hlow hndk hnb hzst hzA
              go_wp2
              have HX0 := Lib.hid (NxL.new wr lv)
              obtain ⟨wx, hwx⟩ : ∃ wx, wx = wr.alloc (.cells #[.int .i64 lv, .slice none 0 0] 53) := ⟨_, rfl⟩
              obtain ⟨gX, hgX⟩ : ∃ gX, gX = wr.heap.size := ⟨_, rfl⟩
              rw [← hwx]
              rw [← hwx] at HX0
              obtain ⟨Wi, rfl⟩ : ∃ Wi, Wi = wr := ⟨_, rfl⟩
              rw [← hgX]
              have HX0 : Hid (NxL gX Wi lv [] (.slice none 0 0) wx) := Lib.hid (by rw [hgX]; exact HX0.out)
              have HBX : Hid (∀ V, Below Wi.heap.size Wi V → Below w0.heap.size w0 V) := Lib.hid (fun V hV => HBi.out.trans (hV.mono HBi.out.size))
              clear hwx hgX e0 e1 e2 g0 g1 hi
              go_loopw [10] (fun s wj => ∃ (m : Nat) (xv : Value), m ≤ zs.length ∧ s = .int .i64 m ∧ Hid (NxL gX Wi lv ((chM tz lv zs).take m) xv wj)) (fun s _ => zs.length - (intOf s).toNat)
              case atStart => exact ⟨0, _, Nat.zero_le _, rfl, HX0⟩
              case round =>
                clear HX0
                obtain ⟨m, xv, hm, rfl, HNX⟩ := hrel
                have hbj := HBX.out _ HNX.out.below
                have HBj := Lib.hid hbj
                have p1 := HP0.out.below hbj HP0.out.lt
                have e0 := p1.cell_ 0 (.int .i64 st) rfl
                rw [HZST.out] at e0
                have e1 := p1.cell_ 1 (.slice A ps.length c) rfl
                have e2 := p1.cell_ 2 (.slice (some ⟨nb, no, none⟩) hs.length d) rfl
                obtain ⟨g0, g1, gz⟩ := HAT.out wr hbj
                have hx0 := HNX.out.G.cell_ 0 (.int .i64 lv) rfl
                have hx1 := HNX.out.G.cell_ 1 xv rfl
                have hf1 := HNX.out.G.frozen 1
                have hwm : wrap64 ((m : Int) + 1) = (m : Int) + 1 := by have := HZ8.out; unfold wrap64; omega
                have hil := HIL.out
                clear p1 hbj
                by_cases hml : m < zs.length
                · obtain ⟨bz, oz, ez, -, hcm⟩ := gz.at_ hml
                  have HST := Lib.hid (chM_take (tz := tz) (lv := lv) hml)
                  have hzl : lv = 1 → 0 ≤ zs[m] ∧ zs[m] < (tz.length : Int) := fun h => by
                    have h1 := HLOW.out h _ (List.getElem_mem hml)
                    have h2 := HL.out
                    omega
                  obtain ⟨z, hz⟩ : ∃ z, z = zs[m] := ⟨_, rfl⟩
                  rw [← hz] at hcm HST hzl
                  have hown := HNX.out.R
                  have hal : ((chM tz lv zs).take m).length < 1000000000000 := by rw [List.length_take, chM_len]; omega
                  have hws := HNX.out.below.size
                  subst ez
                  by_cases hl1 : lv = 1
                  · have d1 : (lv == 1) = true := by simp [hl1]
                    obtain ⟨z0, z1⟩ := hzl hl1
                    obtain ⟨zn, rfl⟩ : ∃ zn : Nat, z = zn := ⟨z.toNat, by omega⟩
                    have hzn : zn < tz.length := by omega
                    obtain ⟨bt, ot, et, -, hct⟩ := (HZ.out.ext HBj.out).at_ hzn
                    have hst := HST.out
                    rw [if_pos hl1, Int.toNat_natCast, List.getD_eq_getElem?_getD, List.getElem?_eq_getElem hzn, Option.getD_some] at hst
                    obtain ⟨y, hy⟩ : ∃ y, y = tz[zn] := ⟨_, rfl⟩
                    rw [← hy] at hct hst
                    have HSN := Lib.hid hst
                    have HML := Lib.hid hml
                    subst et
                    clear hl1 z0 z1 hst hy hz hzl
                    go_wp2_with (at_builtin; refine wpList_pushIk rfl _ _ _ rfl Wi.heap.size 3 Tryd.underlying31 Tryd.infoInt _ _ rfl hown _ rfl hal hws ?_)
                    intro xv' w6 ho6 hk6 hm6
                    rw [← HSN.out] at ho6
                    obtain ⟨xA', xc', hxv', -, -⟩ := ho6.ints
                    obtain ⟨n6, hn6⟩ : ∃ n6, n6 = ((chM tz lv zs).take (m + 1)).length := ⟨_, rfl⟩
                    rw [← hn6] at hxv'
                    subst hxv'
                    have hG6 := hk6.blk HNX.out.G (own_blk_ne' HNX.out.R HNX.out.G (by decide))
                    have hx6 := hG6.cell_ 1 xv rfl
                    have hf6 := hG6.frozen 1
                    rw [HSN.out] at ho6
                    have HN7 := Lib.hid (HNX.out.push ho6 hk6)
                    rw [← HSN.out] at HN7
                    clear ho6 hk6 hm6 hG6 hown hal hws hn6
                    go_wp2
                    go_roundw
                    case rel => exact ⟨m + 1, _, HML.out, (by first | rfl | (rw [hwm]; rfl)), HN7⟩
                    case measure => (try rw [hwm]); have := HML.out; simp [intOf]; omega
                  · have d1 : (lv == 1) = false := by simpa using hl1
                    have hst := HST.out
                    rw [if_neg hl1] at hst
                    have HSN := Lib.hid hst
                    have HML := Lib.hid hml
                    clear hl1 hst hz hzl
                    go_wp2_with (at_builtin; refine wpList_pushIk rfl _ _ _ rfl Wi.heap.size 3 Tryd.underlying31 Tryd.infoInt _ _ rfl hown _ rfl hal hws ?_)
                    intro xv' w6 ho6 hk6 hm6
                    rw [← HSN.out] at ho6
                    obtain ⟨xA', xc', hxv', -, -⟩ := ho6.ints
                    obtain ⟨n6, hn6⟩ : ∃ n6, n6 = ((chM tz lv zs).take (m + 1)).length := ⟨_, rfl⟩
                    rw [← hn6] at hxv'
                    subst hxv'
                    have hG6 := hk6.blk HNX.out.G (own_blk_ne' HNX.out.R HNX.out.G (by decide))
                    have hx6 := hG6.cell_ 1 xv rfl
                    have hf6 := hG6.frozen 1
                    rw [HSN.out] at ho6
                    have HN7 := Lib.hid (HNX.out.push ho6 hk6)
                    rw [← HSN.out] at HN7
                    clear ho6 hk6 hm6 hG6 hown hal hws hn6
                    go_wp2
                    go_roundw
                    case rel => exact ⟨m + 1, _, HML.out, (by first | rfl | (rw [hwm]; rfl)), HN7⟩
                    case measure => (try rw [hwm]); have := HML.out; simp [intOf]; omega
                · obtain rfl : m = zs.length := by omega
                  have HNXF : Hid (NxL gX Wi lv (chM tz lv zs) xv wr) := Lib.hid (by
                    have := HNX.out
                    rwa [List.take_of_length_le (by rw [chM_len]; exact Nat.le_refl _)] at this)
                  obtain ⟨acc, hacc⟩ : ∃ acc, acc = chM tz lv zs := ⟨_, rfl⟩
                  rw [← hacc] at HNXF HTK
                  obtain ⟨xA, xc, rfl, -, -⟩ := HNXF.out.R.ints
                  obtain ⟨lA, lc, rfl, -, -⟩ := HO.out.1.nds
                  have hown7 : OwnNA wr WQ.heap.size (.slice lA osl.length lc) osl := HO.out.1.ext HNXF.out.below
                  have hI7 : OwnIA wr WQ.heap.size (.slice xA acc.length xc) acc := own_down HNXF.out.R HBI.out.size
                  have hol : osl.length < 1000000000000 := by have := HOL.out; have := HHL.out; omega
                  have hws7 : WQ.heap.size ≤ wr.heap.size := Nat.le_trans HBI.out.size HNXF.out.below.size
                  clear hacc HNX
                  go_wp2_with (at_builtin; refine wpList_pushN rfl _ _ _ rfl WQ.heap.size 53 3 (by decide) Tryd.underlying23 Tryd.infoNode _ _ rfl hown7 _ _ _ _ hI7 rfl hol hws7 ?_)
                  intro v9 w9 hN9 hK9 hA9
                  have HN9 := Lib.hid hN9
                  have HB9 : Hid (Below WQ.heap.size WQ w9) := Lib.hid ((HBI.out.trans (HNXF.out.below.mono HBI.out.size)).trans (hK9.to_below hws7 (fun g hg e => by have := (own_lt' hown7.1 e).2; omega)))
                  have HM9 : Hid ((osl ++ [(⟨lv, xA, xc, acc⟩ : Hd)]).map Hd.nd = (chgL (chM tz) (hs.map Hd.nd)).take (i + 1)) := Lib.hid (by rw [HTK.out, List.map_append, HO.out.2]; rfl)
                  clear hN9 hK9 hA9 hown7 hI7 hol hws7
                  go_wp2
                  go_roundw
                  case rel => exact ⟨i + 1, _, HIL.out, (by first | rfl | (rw [hwi]; rfl)), Lib.hid ⟨HN9.out, HM9.out⟩, HB9⟩
                  case measure => (try rw [hwi]); have := HIL.out; simp [intOf]; omega
            · have hik : i = hs.length := by omega
              have hon : osl.map Hd.nd = chgL (chM tz) (hs.map Hd.nd) := by
                have := HO.out.2
                rwa [List.take_of_length_le (by rw [chg_len, List.length_map]; omega)] at this
              obtain ⟨lA, lc, rfl, hnds, -⟩ := HO.out.1.nds
              have hcall := rreduce_own st A c ps lA lc osl wr (HP.out.ext HBi.out) hnds
              rw [hon, redT_chg HRR.out HCH.out] at hcall
              have HCALL := Lib.hid hcall
              have HQi := Lib.hid (HQ0.out.below HBi.out HQ0.out.lt)
              have HBwi : Hid (Below w.heap.size w wr) := Lib.hid (HB0.out.trans (HBi.out.mono HB0.out.size))
              clear hon hnds hcall hik
              go_wp2_with (go_at_call 13; refine HCALL.out.mono ?_; rintro e w2 ⟨A', c', nv, os, rfl, hA', hp2, ho2, he2, hb2⟩; refine Hid.out ?_)
              refine Lib.hid ?_
              have hq2 := HQi.out.below hb2 HQi.out.lt
              have d0 := hq2.cell_ 0 (.int .i64 0) rfl
              have d1x := hq2.cell_ 1 (.slice none 0 0) rfl
              have d2' := hq2.cell_ 2 (.slice none 0 0) rfl
              have f0 := hq2.frozen 0
              have f1 := hq2.frozen 1
              have f2 := hq2.frozen 2
              obtain ⟨B2, d2, rfl, -, -⟩ := ho2.nds
              have HQ2 := Lib.hid hq2
              have HO2 := Lib.hid ho2
              have HB2 := Lib.hid hb2
              have HE2 := Lib.hid he2
              have HA2 := Lib.hid hA'
              have HP2 := Lib.hid hp2
              clear hq2 ho2 hb2 he2 hA' hp2 HCALL
              go_wp2
              have hq : Blk (((w2.setCell ⟨w.heap.size + 1, 0, none⟩ (.int .i64 st)).setCell ⟨w.heap.size + 1, 1, none⟩ (.slice A' ps.length c')).setCell ⟨w.heap.size + 1, 2, none⟩ (.slice B2 os.length d2)) (w.heap.size + 1) 25 #[.int .i64 st, .slice A' ps.length c', .slice B2 os.length d2] := ((HQ2.out.set_ 0 (.int .i64 st)).set_ 1 (.slice A' ps.length c')).set_ 2 (.slice B2 os.length d2)
              have hk : Kept (fun g => g = w.heap.size + 1) w2 (((w2.setCell ⟨w.heap.size + 1, 0, none⟩ (.int .i64 st)).setCell ⟨w.heap.size + 1, 1, none⟩ (.slice A' ps.length c')).setCell ⟨w.heap.size + 1, 2, none⟩ (.slice B2 os.length d2)) := (((Kept.refl (fun g => g = w.heap.size + 1) w2).setCell (p := ⟨w.heap.size + 1, 0, none⟩) (Or.inl rfl) _).setCell (p := ⟨w.heap.size + 1, 1, none⟩) (Or.inl rfl) _).setCell (p := ⟨w.heap.size + 1, 2, none⟩) (Or.inl rfl) _
              have hlt := HQi.out.lt
              have hbf : Below w.heap.size w (((w2.setCell ⟨w.heap.size + 1, 0, none⟩ (.int .i64 st)).setCell ⟨w.heap.size + 1, 1, none⟩ (.slice A' ps.length c')).setCell ⟨w.heap.size + 1, 2, none⟩ (.slice B2 os.length d2)) := (HBwi.out.trans (HB2.out.mono HBwi.out.size)).trans (hk.to_below (by have := HBwi.out.size; have := HB2.out.size; omega) (fun g hg e => by omega))
              have hown : OwnNA _ wr.heap.size (.slice B2 os.length d2) os := OwnN.kept HO2.out hk (fun g e e2 => by have := (own_lt' HO2.out.1 e).2; omega) (fun x hx g e e2 => by have := (own_lt' (HO2.out.2 x hx) e).2; omega)
              rw [HE.out]
              refine bodyPost_ret (results_ct Tryd.results19 _ _ (w.heap.size + 1) 25 #[.int .i64 st, .slice A' ps.length c', .slice B2 os.length d2] (0, 0) _ rfl hq Tryd.underlying25 rfl Tryd.sizeTree) rfl
                ⟨A', c', _, os, rfl, HA2.out, ?_, ⟨own_down hown.1 HBwi.out.size, fun x hx => (hown.2 x hx).down HBwi.out.size⟩, HE2.out, hbf⟩
              rcases HA2.out with e | e
              · subst e
                exact HPO.out.ext hbf
              · have e' : ps = [] := e
                subst e'
                exact Pts.nil
    · have n1 : ((tz.length : Int) != st) = true := by simpa using hl
      have HE : Hid (mapT ⟨st, ps, hs.map Hd.nd⟩ tz = (PT.zero, 2)) := Lib.hid (by unfold mapT PT.right; rw [HRR.out, if_neg (by simp), if_pos hl])
      clear hl
      go_enter Tryd.func19, Tryd.ntmps19
      go_upto_region 1 with fail
      rw [← HW0.out]
      go_wp2_with (go_at_call 26; refine HR.out.mono ?_)
      rintro e w1 ⟨rfl, hb⟩
      have HBr := Lib.hid hb
      have HBw := Lib.hid (HB0.out.trans (hb.mono HB0.out.size))
      clear hb c0 c1 c2
      have p1 := HP0.out.below HBr.out HP0.out.lt
      have e0 := p1.cell_ 0 (.int .i64 st) rfl
      have e1 := p1.cell_ 1 (.slice A ps.length c) rfl
      have e2 := p1.cell_ 2 (.slice B hs.length d) rfl
      clear p1
      have q1 := HQ0.out.below HBr.out HQ0.out.lt
      have HQ1 := Lib.hid q1
      have d0 := q1.cell_ 0 (.int .i64 0) rfl
      have d1x := q1.cell_ 1 (.slice none 0 0) rfl
      have d2 := q1.cell_ 2 (.slice none 0 0) rfl
      have f0 := q1.frozen 0
      have f1 := q1.frozen 1
      have f2 := q1.frozen 2
      clear q1
      go_wp2
      have hq : Blk (((w1.setCell ⟨w.heap.size + 1, 0, none⟩ (.int .i64 0)).setCell ⟨w.heap.size + 1, 1, none⟩ (.slice none 0 0)).setCell ⟨w.heap.size + 1, 2, none⟩ (.slice none 0 0)) (w.heap.size + 1) 25 #[.int .i64 0, .slice none 0 0, .slice none 0 0] := ((HQ1.out.set_ 0 (.int .i64 0)).set_ 1 (.slice none 0 0)).set_ 2 (.slice none 0 0)
      rw [HE.out]
      exact bodyPost_ret (results_ct Tryd.results19 _ _ (w.heap.size + 1) 25 #[.int .i64 0, .slice none 0 0, .slice none 0 0] (0, 0) _ rfl hq Tryd.underlying25 rfl Tryd.sizeTree) rfl
        ⟨none, 0, _, [], rfl, .inr rfl, Pts.nil, OwnN.nil _ _ _ _, rfl, ((HBw.out.setCell (p := ⟨w.heap.size + 1, 0, none⟩) (by show w.heap.size ≤ w.heap.size + 1; omega) _).setCell (p := ⟨w.heap.size + 1, 1, none⟩) (by show w.heap.size ≤ w.heap.size + 1; omega) _).setCell (p := ⟨w.heap.size + 1, 2, none⟩) (by show w.heap.size ≤ w.heap.size + 1; omega) _⟩
end Go.Proofs.YtojnnfihpiegoaaDoor
