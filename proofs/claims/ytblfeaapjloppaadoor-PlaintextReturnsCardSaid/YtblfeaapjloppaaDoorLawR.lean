/-
  cellularlaw31.PlaintextReturns: the walk. No condition.
-/
import Derived.Test.YtblfeaapjloppaaDoorRet2
import Derived.Test.YtblfeaapjloppaaDoorAwake
namespace Go.Proofs.YtblfeaapjloppaaDoor
open Go.RowKit
set_option maxRecDepth 100000
set_option linter.unusedVariables false
set_option linter.unusedSimpArgs false

set_option maxHeartbeats 8000000 in
theorem lawR_any (A : Option Addr) (c : Nat) (ps : List Cel) (s : ByteArray) (w : World) (ha : Cls w A ps) :
    Calls Tryd.prog 6 #[.slice A ps.length c, .string s] w fun e w' => e = .returned (.bool true) ∧ Below w.heap.size w w' := by
  have hn := ha.le
  have HB0 := Lib.hid (Below.refl w.heap.size w)
  by_cases hp : 300 < ps.length
  · have d1 : decide ((300 : Int) < (ps.length : Int)) = true := decide_eq_true (by omega)
    clear ha
    go_enter Tryd.func6, Tryd.ntmps6
    have HA := Lib.hid (awake_any w)
    go_wp2_with fail
    refine HA.out.mono ?_
    rintro e w9 ⟨rfl, hb9⟩
    have HB9 := Lib.hid (HB0.out.trans (hb9.mono HB0.out.size))
    clear hb9
    go_wp2
    go_ret
    exact ⟨rfl, HB9.out⟩
  have d1 : decide ((300 : Int) < (ps.length : Int)) = false := decide_eq_false (by omega)
  by_cases hs : 2000 < s.size
  · have d2 : decide ((2000 : Int) < (s.size : Int)) = true := decide_eq_true (by omega)
    clear ha
    go_enter Tryd.func6, Tryd.ntmps6
    have HA := Lib.hid (awake_any w)
    go_wp2_with fail
    refine HA.out.mono ?_
    rintro e w9 ⟨rfl, hb9⟩
    have HB9 := Lib.hid (HB0.out.trans (hb9.mono HB0.out.size))
    clear hb9
    go_wp2
    go_ret
    exact ⟨rfl, HB9.out⟩
  have d2 : decide ((2000 : Int) < (s.size : Int)) = false := decide_eq_false (by omega)
  have HS : Hid (s.size ≤ 2000) := Lib.hid (by omega)
  have HSL : Hid (s.data.toList.length = s.size) := Lib.hid rfl
  have HP : Hid (∀ W, Calls Tryd.prog 9 #[.string s] W (RetRead (rm s.data.toList ⟨[], 0, 0, false, true⟩) W)) := Lib.hid (fun W => parse_any s W (by have := HS.out; omega))
  have HRS := Lib.hid (read_good (l := s.data.toList) HS.out)
  have HA0 := Lib.hid ha
  have T1 := text_any A c ps w ha
  clear ha
  by_cases hz : (textT ps).2 = 0
  · obtain ⟨hr, hg, ht⟩ := text_zero hz
    have hbk := text_back hr hg
    rw [ht] at T1
    have HT1 := Lib.hid T1
    have hbl : (bodyT ps).length ≤ 65536 := by
      unfold textT at ht
      rw [if_neg (by simp [hr]), if_neg (by simp [hg])] at ht
      by_cases hbig : 65536 < (bodyT ps).length
      · rw [if_pos hbig] at ht
        have := congrArg Prod.snd ht
        cases this
      · omega
    have HP1 : Hid (∀ W, Calls Tryd.prog 9 #[.string ⟨(bodyT ps).toArray⟩] W (RetRead (ps, 0) W)) := Lib.hid (fun W => by
      have h := parse_any ⟨(bodyT ps).toArray⟩ W hbl
      rw [show (⟨(bodyT ps).toArray⟩ : ByteArray).data.toList = bodyT ps from rfl, hbk] at h
      exact h)
    clear hz hr hg ht hbk T1 hbl
    obtain ⟨bd, hbd⟩ : ∃ bd, bd = bodyT ps := ⟨_, rfl⟩
    rw [← hbd] at HT1 HP1
    clear hbd
    unfold RetRead at HP1
    unfold RetText at HT1
    dsimp only at HP1 HT1
    go_enter Tryd.func6, Tryd.ntmps6
    go_wp2_with fail
    refine HT1.out.mono ?_
    rintro e w1 ⟨rfl, hb1⟩
    have HB1 := Lib.hid hb1
    have HA1 := Lib.hid (HA0.out.ext hb1)
    clear hb1
    have F1 := Lib.hid (HP1.out w1)
    go_wp2_with fail
    refine F1.out.mono ?_
    rintro e w2 ⟨A2, c2, rfl, hc2, hb2⟩
    have HB2 := Lib.hid (HB1.out.trans (hb2.mono HB1.out.size))
    have F2 : Hid (Calls Tryd.prog 11 #[.slice A2 ps.length c2, .slice A ps.length c] w2 fun e w' => e = .returned (.bool true) ∧ Below w2.heap.size w2 w') := Lib.hid (by
      have h := rsame_any A2 A c2 c ps ps w2 hc2 (HA1.out.ext hb2)
      rw [show sameC ps ps = true from by unfold sameC; simp] at h
      exact h)
    clear hc2 hb2
    go_wp2_with fail
    refine F2.out.mono ?_
    rintro e w3 ⟨rfl, hb3⟩
    have HB3 := Lib.hid (HB2.out.trans (hb3.mono HB2.out.size))
    clear hb3
    rcases HRS.out with ⟨xs, hx1, hx2, hx3, hx4⟩ | hx1
    · have HPS : Hid (∀ W, Calls Tryd.prog 9 #[.string s] W (RetRead (xs, 0) W)) := Lib.hid (fun W => by
        have h := HP.out W
        rw [hx1] at h
        exact h)
      have HTU : Hid (∀ W B b, Cls W B xs → Calls Tryd.prog 12 #[.slice B xs.length b] W (RetText (bodyT xs, 0) W)) := Lib.hid (fun W B b hc => by
        have h := text_any B b xs W hc
        rw [hx2] at h
        exact h)
      have HPU : Hid (∀ W, Calls Tryd.prog 9 #[.string ⟨(bodyT xs).toArray⟩] W (RetRead (xs, 0) W)) := Lib.hid (fun W => by
        have h := parse_any ⟨(bodyT xs).toArray⟩ W (by show (bodyT xs).length ≤ _; rw [HSL.out] at hx4; have := HS.out; omega)
        rw [show (⟨(bodyT xs).toArray⟩ : ByteArray).data.toList = bodyT xs from rfl, hx3] at h
        exact h)
      obtain ⟨u, hu⟩ : ∃ u, u = bodyT xs := ⟨_, rfl⟩
      rw [← hu] at HTU HPU hx4
      have hul : decide ((u.length : Int) ≤ (s.size : Int) + 1) = true := decide_eq_true (by rw [HSL.out] at hx4; omega)
      have hws : wrap64 ((s.size : Int) + 1) = (s.size : Int) + 1 := by have := HS.out; unfold wrap64; omega
      have HUL := Lib.hid (And.intro hul hws)
      clear hx1 hx2 hx3 hx4 hu hul hws
      unfold RetRead at HPS HPU
      unfold RetText at HTU
      dsimp only at HPS HPU HTU
      have E1 := Lib.hid (HPS.out w3)
      go_wp2_with fail
      refine E1.out.mono ?_
      rintro e v1 ⟨B1, a1, rfl, hc1, hb1⟩
      have G1 := Lib.hid (HB3.out.trans (hb1.mono HB3.out.size))
      have K1 := Lib.hid hc1
      clear hc1 hb1
      have E2 := Lib.hid (HTU.out v1 B1 a1 K1.out)
      go_wp2_with fail
      refine E2.out.mono ?_
      rintro e v2 ⟨rfl, hb2⟩
      have G2 := Lib.hid (G1.out.trans (hb2.mono G1.out.size))
      have K2 := Lib.hid (K1.out.ext hb2)
      clear hb2
      have E3 := Lib.hid (HPU.out v2)
      go_wp2_with fail
      refine E3.out.mono ?_
      rintro e v3 ⟨B2, a2, rfl, hc3, hb3⟩
      have G3 := Lib.hid (G2.out.trans (hb3.mono G2.out.size))
      have K3 := Lib.hid (K2.out.ext hb3)
      have E4 : Hid (Calls Tryd.prog 11 #[.slice B1 xs.length a1, .slice B2 xs.length a2] v3 fun e w' => e = .returned (.bool true) ∧ Below v3.heap.size v3 w') := Lib.hid (by
        have h := rsame_any B1 B2 a1 a2 xs xs v3 K3.out hc3
        rw [show sameC xs xs = true from by unfold sameC; simp] at h
        exact h)
      clear hc3 hb3
      go_wp2_with fail
      refine E4.out.mono ?_
      rintro e v4 ⟨rfl, hb4⟩
      have G4 := Lib.hid (G3.out.trans (hb4.mono G3.out.size))
      clear hb4
      obtain ⟨hul, hws⟩ := HUL.out
      have HA := Lib.hid (awake_any v4)
      go_wp2_with fail
      refine HA.out.mono ?_
      rintro e w9 ⟨rfl, hb9⟩
      have HB9 := Lib.hid (G4.out.trans (hb9.mono G4.out.size))
      clear hb9
      go_wp2
      go_ret
      exact ⟨rfl, HB9.out⟩
    · have HPS : Hid (∀ W, Calls Tryd.prog 9 #[.string s] W (RetRead ([], 15) W)) := Lib.hid (fun W => by
        have h := HP.out W
        rw [hx1] at h
        exact h)
      clear hx1
      unfold RetRead at HPS
      dsimp only at HPS
      have E1 := Lib.hid (HPS.out w3)
      go_wp2_with fail
      refine E1.out.mono ?_
      rintro e v1 ⟨B1, a1, rfl, -, hb1⟩
      have G1 := Lib.hid (HB3.out.trans (hb1.mono HB3.out.size))
      clear hb1
      have HA := Lib.hid (awake_any v1)
      go_wp2_with fail
      refine HA.out.mono ?_
      rintro e w9 ⟨rfl, hb9⟩
      have HB9 := Lib.hid (G1.out.trans (hb9.mono G1.out.size))
      clear hb9
      go_wp2
      go_ret
      exact ⟨rfl, HB9.out⟩
  · obtain ⟨tt, ee⟩ : ∃ tt, tt = textT ps := ⟨_, rfl⟩
    rw [← ee] at T1 hz
    clear ee
    obtain ⟨tb, te⟩ := tt
    have hz2 : (te == 0) = false := by simpa using hz
    have HT1 := Lib.hid T1
    clear T1 hz
    unfold RetText at HT1
    dsimp only at HT1
    go_enter Tryd.func6, Tryd.ntmps6
    go_wp2_with fail
    refine HT1.out.mono ?_
    rintro e w1 ⟨rfl, hb1⟩
    have HB1 := Lib.hid hb1
    clear hb1
    rcases HRS.out with ⟨xs, hx1, hx2, hx3, hx4⟩ | hx1
    · have HPS : Hid (∀ W, Calls Tryd.prog 9 #[.string s] W (RetRead (xs, 0) W)) := Lib.hid (fun W => by
        have h := HP.out W
        rw [hx1] at h
        exact h)
      have HTU : Hid (∀ W B b, Cls W B xs → Calls Tryd.prog 12 #[.slice B xs.length b] W (RetText (bodyT xs, 0) W)) := Lib.hid (fun W B b hc => by
        have h := text_any B b xs W hc
        rw [hx2] at h
        exact h)
      have HPU : Hid (∀ W, Calls Tryd.prog 9 #[.string ⟨(bodyT xs).toArray⟩] W (RetRead (xs, 0) W)) := Lib.hid (fun W => by
        have h := parse_any ⟨(bodyT xs).toArray⟩ W (by show (bodyT xs).length ≤ _; rw [HSL.out] at hx4; have := HS.out; omega)
        rw [show (⟨(bodyT xs).toArray⟩ : ByteArray).data.toList = bodyT xs from rfl, hx3] at h
        exact h)
      obtain ⟨u, hu⟩ : ∃ u, u = bodyT xs := ⟨_, rfl⟩
      rw [← hu] at HTU HPU hx4
      have hul : decide ((u.length : Int) ≤ (s.size : Int) + 1) = true := decide_eq_true (by rw [HSL.out] at hx4; omega)
      have hws : wrap64 ((s.size : Int) + 1) = (s.size : Int) + 1 := by have := HS.out; unfold wrap64; omega
      have HUL := Lib.hid (And.intro hul hws)
      clear hx1 hx2 hx3 hx4 hu hul hws
      unfold RetRead at HPS HPU
      unfold RetText at HTU
      dsimp only at HPS HPU HTU
      have E1 := Lib.hid (HPS.out w1)
      go_wp2_with fail
      refine E1.out.mono ?_
      rintro e v1 ⟨B1, a1, rfl, hc1, hb1⟩
      have G1 := Lib.hid (HB1.out.trans (hb1.mono HB1.out.size))
      have K1 := Lib.hid hc1
      clear hc1 hb1
      have E2 := Lib.hid (HTU.out v1 B1 a1 K1.out)
      go_wp2_with fail
      refine E2.out.mono ?_
      rintro e v2 ⟨rfl, hb2⟩
      have G2 := Lib.hid (G1.out.trans (hb2.mono G1.out.size))
      have K2 := Lib.hid (K1.out.ext hb2)
      clear hb2
      have E3 := Lib.hid (HPU.out v2)
      go_wp2_with fail
      refine E3.out.mono ?_
      rintro e v3 ⟨B2, a2, rfl, hc3, hb3⟩
      have G3 := Lib.hid (G2.out.trans (hb3.mono G2.out.size))
      have K3 := Lib.hid (K2.out.ext hb3)
      have E4 : Hid (Calls Tryd.prog 11 #[.slice B1 xs.length a1, .slice B2 xs.length a2] v3 fun e w' => e = .returned (.bool true) ∧ Below v3.heap.size v3 w') := Lib.hid (by
        have h := rsame_any B1 B2 a1 a2 xs xs v3 K3.out hc3
        rw [show sameC xs xs = true from by unfold sameC; simp] at h
        exact h)
      clear hc3 hb3
      go_wp2_with fail
      refine E4.out.mono ?_
      rintro e v4 ⟨rfl, hb4⟩
      have G4 := Lib.hid (G3.out.trans (hb4.mono G3.out.size))
      clear hb4
      obtain ⟨hul, hws⟩ := HUL.out
      have HA := Lib.hid (awake_any v4)
      go_wp2_with fail
      refine HA.out.mono ?_
      rintro e w9 ⟨rfl, hb9⟩
      have HB9 := Lib.hid (G4.out.trans (hb9.mono G4.out.size))
      clear hb9
      go_wp2
      go_ret
      exact ⟨rfl, HB9.out⟩
    · have HPS : Hid (∀ W, Calls Tryd.prog 9 #[.string s] W (RetRead ([], 15) W)) := Lib.hid (fun W => by
        have h := HP.out W
        rw [hx1] at h
        exact h)
      clear hx1
      unfold RetRead at HPS
      dsimp only at HPS
      have E1 := Lib.hid (HPS.out w1)
      go_wp2_with fail
      refine E1.out.mono ?_
      rintro e v1 ⟨B1, a1, rfl, -, hb1⟩
      have G1 := Lib.hid (HB1.out.trans (hb1.mono HB1.out.size))
      clear hb1
      have HA := Lib.hid (awake_any v1)
      go_wp2_with fail
      refine HA.out.mono ?_
      rintro e w9 ⟨rfl, hb9⟩
      have HB9 := Lib.hid (G1.out.trans (hb9.mono G1.out.size))
      clear hb9
      go_wp2
      go_ret
      exact ⟨rfl, HB9.out⟩
end Go.Proofs.YtblfeaapjloppaaDoor
