/-
  cellularlaw09.GenerationsDies: the walk. No condition but that the package's variable is there.
-/
import Derived.Test.YtaofninfjdepfaaDoorLaw0
namespace Go.Proofs.YtaofninfjdepfaaDoor
open Go.RowKit
set_option maxRecDepth 100000
set_option linter.unusedVariables false
set_option linter.unusedSimpArgs false

theorem next_dies {t : TotL} (hr : rightT t = true) {s n : Int} (h0 : 2 ≤ s) (h1 : s + 1 < t.states) (h2 : 0 ≤ n) (h3 : n < t.hood.length) : nextT t s n = s + 1 := by
  unfold nextT
  rw [if_pos ⟨hr, by omega, by omega, h2, h3⟩, if_neg (by rintro (h | h) <;> omega), if_neg (by omega)]
theorem next_last {t : TotL} (hr : rightT t = true) (h0 : 3 ≤ t.states) : nextT t (t.states - 1) 0 = 0 := by
  unfold nextT
  have := (right_spec hr).2.1
  rw [if_pos ⟨hr, by omega, by omega, by omega, by omega⟩, if_neg (by rintro (h | h) <;> omega), if_pos (by omega)]
theorem wrap_step {n k : Nat} (h : n ≤ 20) (hk : k < n) : wrap64 ((k : Int) + 1) = ((k + 1 : Nat) : Int) := by unfold wrap64; omega
set_option maxHeartbeats 8000000 in
theorem lawD_any (A B C Z : Option Addr) (a b c z : Nat) (t : TotL) (s : Int) (zs : List Int) (w : World) (hg : Glob w) (ht : TotR w A B C t) (hz : Ints w Z zs) :
    Calls Tryd.prog 7 #[totV A a B b C c t, .int .i64 s, .slice Z zs.length z] w fun e w' => e = .returned (.bool true) ∧ Below w.heap.size w w' := by
  have HZ := Lib.hid (hz.ext (below_new w (.cells #[.slice A t.hood.length a, .int .i64 t.states, .slice B t.birth.length b, .slice C t.survive.length c] 26)))
  clear hz
  have hb0 := below_new w (.cells #[.slice A t.hood.length a, .int .i64 t.states, .slice B t.birth.length b, .slice C t.survive.length c] 26)
  have X1 := Lib.hid (Box.new ht a b c)
  have HB := Lib.hid hb0
  have HG := Lib.hid (hg.ext hb0)
  clear hb0 ht hg
  unfold totV at *
  cases s2 : fewT t
  · have HS := Lib.hid (few_box X1.out _ s2)
    clear s2
    go_enter Tryd.func7, Tryd.ntmps7
    have x1f0 := X1.out.c0
    have x1f1 := X1.out.c1
    have x1f2 := X1.out.c2
    have x1f3 := X1.out.c3
    go_wp2_with fail
    refine (HS.out).mono ?_
    rintro e w1 ⟨rfl, hb⟩
    clear x1f0 x1f1 x1f2 x1f3
    have X1n := Lib.hid (X1.out.ext hb)
    clear X1
    have X1 := X1n
    clear X1n
    have HGn := Lib.hid (HG.out.ext hb)
    clear HG
    have HG := HGn
    clear HGn
    have HBn := Lib.hid (HB.out.trans (hb.mono HB.out.size))
    clear HB hb
    have HB := HBn
    clear HBn
    clear HS
    go_wp2_with fail
    refine (awake_any _ HG.out).mono ?_
    rintro e w2 ⟨rfl, hb⟩
    have X1n := Lib.hid (X1.out.ext hb)
    clear X1
    have X1 := X1n
    clear X1n
    have HGn := Lib.hid (HG.out.ext hb)
    clear HG
    have HG := HGn
    clear HGn
    have HBn := Lib.hid (HB.out.trans (hb.mono HB.out.size))
    clear HB hb
    have HB := HBn
    clear HBn
    go_wp2_with fail
    go_ret
    exact ⟨rfl, HB.out⟩
  have HS := Lib.hid (few_box X1.out _ s2)
  clear s2
  have HR0 := Lib.hid (fun W h => rright_any A B C a b c t W h)
  unfold totV at HR0
  obtain ⟨kr, hkr⟩ : ∃ k, k = rightT t := ⟨_, rfl⟩
  rw [← hkr] at HR0
  cases kr
  · clear hkr
    go_enter Tryd.func7, Tryd.ntmps7
    have x1f0 := X1.out.c0
    have x1f1 := X1.out.c1
    have x1f2 := X1.out.c2
    have x1f3 := X1.out.c3
    go_wp2_with fail
    refine (HS.out).mono ?_
    rintro e w1 ⟨rfl, hb⟩
    clear x1f0 x1f1 x1f2 x1f3
    have X1n := Lib.hid (X1.out.ext hb)
    clear X1
    have X1 := X1n
    clear X1n
    have HZn := Lib.hid (HZ.out.ext hb)
    clear HZ
    have HZ := HZn
    clear HZn
    have HGn := Lib.hid (HG.out.ext hb)
    clear HG
    have HG := HGn
    clear HGn
    have HBn := Lib.hid (HB.out.trans (hb.mono HB.out.size))
    clear HB hb
    have HB := HBn
    clear HBn
    clear HS
    have x1f0 := X1.out.c0
    have x1f1 := X1.out.c1
    have x1f2 := X1.out.c2
    have x1f3 := X1.out.c3
    go_wp2_with fail
    refine (HR0.out _ X1.out.tot).mono ?_
    rintro e w2 ⟨rfl, hb⟩
    clear x1f0 x1f1 x1f2 x1f3
    have X1n := Lib.hid (X1.out.ext hb)
    clear X1
    have X1 := X1n
    clear X1n
    have HZn := Lib.hid (HZ.out.ext hb)
    clear HZ
    have HZ := HZn
    clear HZn
    have HGn := Lib.hid (HG.out.ext hb)
    clear HG
    have HG := HGn
    clear HGn
    have HBn := Lib.hid (HB.out.trans (hb.mono HB.out.size))
    clear HB hb
    have HB := HBn
    clear HBn
    clear HR0
    go_wp2_with fail
    refine (awake_any _ HG.out).mono ?_
    rintro e w3 ⟨rfl, hb⟩
    have X1n := Lib.hid (X1.out.ext hb)
    clear X1
    have X1 := X1n
    clear X1n
    have HGn := Lib.hid (HG.out.ext hb)
    clear HG
    have HG := HGn
    clear HGn
    have HBn := Lib.hid (HB.out.trans (hb.mono HB.out.size))
    clear HB hb
    have HB := HBn
    clear HBn
    go_wp2_with fail
    go_ret
    exact ⟨rfl, HB.out⟩
  by_cases k2 : s < 2
  · have d2 : decide (s < 2) = true := decide_eq_true k2
    clear hkr k2
    go_enter Tryd.func7, Tryd.ntmps7
    have x1f0 := X1.out.c0
    have x1f1 := X1.out.c1
    have x1f2 := X1.out.c2
    have x1f3 := X1.out.c3
    go_wp2_with fail
    refine (HS.out).mono ?_
    rintro e w1 ⟨rfl, hb⟩
    clear x1f0 x1f1 x1f2 x1f3
    have X1n := Lib.hid (X1.out.ext hb)
    clear X1
    have X1 := X1n
    clear X1n
    have HZn := Lib.hid (HZ.out.ext hb)
    clear HZ
    have HZ := HZn
    clear HZn
    have HGn := Lib.hid (HG.out.ext hb)
    clear HG
    have HG := HGn
    clear HGn
    have HBn := Lib.hid (HB.out.trans (hb.mono HB.out.size))
    clear HB hb
    have HB := HBn
    clear HBn
    clear HS
    have x1f0 := X1.out.c0
    have x1f1 := X1.out.c1
    have x1f2 := X1.out.c2
    have x1f3 := X1.out.c3
    go_wp2_with fail
    refine (HR0.out _ X1.out.tot).mono ?_
    rintro e w2 ⟨rfl, hb⟩
    clear x1f0 x1f1 x1f2 x1f3
    have X1n := Lib.hid (X1.out.ext hb)
    clear X1
    have X1 := X1n
    clear X1n
    have HZn := Lib.hid (HZ.out.ext hb)
    clear HZ
    have HZ := HZn
    clear HZn
    have HGn := Lib.hid (HG.out.ext hb)
    clear HG
    have HG := HGn
    clear HGn
    have HBn := Lib.hid (HB.out.trans (hb.mono HB.out.size))
    clear HB hb
    have HB := HBn
    clear HBn
    clear HR0
    go_wp2_with fail
    refine (awake_any _ HG.out).mono ?_
    rintro e w3 ⟨rfl, hb⟩
    have X1n := Lib.hid (X1.out.ext hb)
    clear X1
    have X1 := X1n
    clear X1n
    have HGn := Lib.hid (HG.out.ext hb)
    clear HG
    have HG := HGn
    clear HGn
    have HBn := Lib.hid (HB.out.trans (hb.mono HB.out.size))
    clear HB hb
    have HB := HBn
    clear HBn
    go_wp2_with fail
    go_ret
    exact ⟨rfl, HB.out⟩
  have d2 : decide (s < 2) = false := decide_eq_false k2
  by_cases k3 : t.states ≤ s
  · have d3 : decide (t.states ≤ s) = true := decide_eq_true k3
    clear hkr k2 k3
    go_enter Tryd.func7, Tryd.ntmps7
    have x1f0 := X1.out.c0
    have x1f1 := X1.out.c1
    have x1f2 := X1.out.c2
    have x1f3 := X1.out.c3
    go_wp2_with fail
    refine (HS.out).mono ?_
    rintro e w1 ⟨rfl, hb⟩
    clear x1f0 x1f1 x1f2 x1f3
    have X1n := Lib.hid (X1.out.ext hb)
    clear X1
    have X1 := X1n
    clear X1n
    have HZn := Lib.hid (HZ.out.ext hb)
    clear HZ
    have HZ := HZn
    clear HZn
    have HGn := Lib.hid (HG.out.ext hb)
    clear HG
    have HG := HGn
    clear HGn
    have HBn := Lib.hid (HB.out.trans (hb.mono HB.out.size))
    clear HB hb
    have HB := HBn
    clear HBn
    clear HS
    have x1f0 := X1.out.c0
    have x1f1 := X1.out.c1
    have x1f2 := X1.out.c2
    have x1f3 := X1.out.c3
    go_wp2_with fail
    refine (HR0.out _ X1.out.tot).mono ?_
    rintro e w2 ⟨rfl, hb⟩
    clear x1f0 x1f1 x1f2 x1f3
    have X1n := Lib.hid (X1.out.ext hb)
    clear X1
    have X1 := X1n
    clear X1n
    have HZn := Lib.hid (HZ.out.ext hb)
    clear HZ
    have HZ := HZn
    clear HZn
    have HGn := Lib.hid (HG.out.ext hb)
    clear HG
    have HG := HGn
    clear HGn
    have HBn := Lib.hid (HB.out.trans (hb.mono HB.out.size))
    clear HB hb
    have HB := HBn
    clear HBn
    clear HR0
    have x1g1 := X1.out.c1
    go_wp2_with fail
    refine (awake_any _ HG.out).mono ?_
    rintro e w3 ⟨rfl, hb⟩
    have X1n := Lib.hid (X1.out.ext hb)
    clear X1
    have X1 := X1n
    clear X1n
    have HGn := Lib.hid (HG.out.ext hb)
    clear HG
    have HG := HGn
    clear HGn
    have HBn := Lib.hid (HB.out.trans (hb.mono HB.out.size))
    clear HB hb
    have HB := HBn
    clear HBn
    go_wp2_with fail
    go_ret
    exact ⟨rfl, HB.out⟩
  have d3 : decide (t.states ≤ s) = false := decide_eq_false k3
  by_cases k4 : 20 < zs.length
  · have d4 : decide ((20 : Int) < (zs.length : Int)) = true := decide_eq_true (by omega)
    clear hkr k2 k3 k4
    go_enter Tryd.func7, Tryd.ntmps7
    have x1f0 := X1.out.c0
    have x1f1 := X1.out.c1
    have x1f2 := X1.out.c2
    have x1f3 := X1.out.c3
    go_wp2_with fail
    refine (HS.out).mono ?_
    rintro e w1 ⟨rfl, hb⟩
    clear x1f0 x1f1 x1f2 x1f3
    have X1n := Lib.hid (X1.out.ext hb)
    clear X1
    have X1 := X1n
    clear X1n
    have HZn := Lib.hid (HZ.out.ext hb)
    clear HZ
    have HZ := HZn
    clear HZn
    have HGn := Lib.hid (HG.out.ext hb)
    clear HG
    have HG := HGn
    clear HGn
    have HBn := Lib.hid (HB.out.trans (hb.mono HB.out.size))
    clear HB hb
    have HB := HBn
    clear HBn
    clear HS
    have x1f0 := X1.out.c0
    have x1f1 := X1.out.c1
    have x1f2 := X1.out.c2
    have x1f3 := X1.out.c3
    go_wp2_with fail
    refine (HR0.out _ X1.out.tot).mono ?_
    rintro e w2 ⟨rfl, hb⟩
    clear x1f0 x1f1 x1f2 x1f3
    have X1n := Lib.hid (X1.out.ext hb)
    clear X1
    have X1 := X1n
    clear X1n
    have HZn := Lib.hid (HZ.out.ext hb)
    clear HZ
    have HZ := HZn
    clear HZn
    have HGn := Lib.hid (HG.out.ext hb)
    clear HG
    have HG := HGn
    clear HGn
    have HBn := Lib.hid (HB.out.trans (hb.mono HB.out.size))
    clear HB hb
    have HB := HBn
    clear HBn
    clear HR0
    have x1g1 := X1.out.c1
    go_wp2_with fail
    refine (awake_any _ HG.out).mono ?_
    rintro e w3 ⟨rfl, hb⟩
    have X1n := Lib.hid (X1.out.ext hb)
    clear X1
    have X1 := X1n
    clear X1n
    have HGn := Lib.hid (HG.out.ext hb)
    clear HG
    have HG := HGn
    clear HGn
    have HBn := Lib.hid (HB.out.trans (hb.mono HB.out.size))
    clear HB hb
    have HB := HBn
    clear HBn
    go_wp2_with fail
    go_ret
    exact ⟨rfl, HB.out⟩
  have d4 : decide ((20 : Int) < (zs.length : Int)) = false := decide_eq_false (by omega)
  have RT := Lib.hid (right_states hkr.symm)
  have HK : Hid (2 ≤ s ∧ s < t.states ∧ zs.length ≤ 20 ∧ rightT t = true) := Lib.hid ⟨by omega, by omega, by omega, hkr.symm⟩
  have hws : wrap64 (t.states - 1) = t.states - 1 := by have := RT.out; unfold wrap64; omega
  have hw1 : wrap64 (s + 1) = s + 1 := by have := RT.out; have := HK.out; unfold wrap64; omega
  clear hkr k2 k3 k4
  go_enter Tryd.func7, Tryd.ntmps7
  have x1f0 := X1.out.c0
  have x1f1 := X1.out.c1
  have x1f2 := X1.out.c2
  have x1f3 := X1.out.c3
  go_wp2_with fail
  refine (HS.out).mono ?_
  rintro e w1 ⟨rfl, hb⟩
  clear x1f0 x1f1 x1f2 x1f3
  have X1n := Lib.hid (X1.out.ext hb)
  clear X1
  have X1 := X1n
  clear X1n
  have HZn := Lib.hid (HZ.out.ext hb)
  clear HZ
  have HZ := HZn
  clear HZn
  have HGn := Lib.hid (HG.out.ext hb)
  clear HG
  have HG := HGn
  clear HGn
  have HBn := Lib.hid (HB.out.trans (hb.mono HB.out.size))
  clear HB hb
  have HB := HBn
  clear HBn
  clear HS
  have x1f0 := X1.out.c0
  have x1f1 := X1.out.c1
  have x1f2 := X1.out.c2
  have x1f3 := X1.out.c3
  go_wp2_with fail
  refine (HR0.out _ X1.out.tot).mono ?_
  rintro e w2 ⟨rfl, hb⟩
  clear x1f0 x1f1 x1f2 x1f3
  have X1n := Lib.hid (X1.out.ext hb)
  clear X1
  have X1 := X1n
  clear X1n
  have HZn := Lib.hid (HZ.out.ext hb)
  clear HZ
  have HZ := HZn
  clear HZn
  have HGn := Lib.hid (HG.out.ext hb)
  clear HG
  have HG := HGn
  clear HGn
  have HBn := Lib.hid (HB.out.trans (hb.mono HB.out.size))
  clear HB hb
  have HB := HBn
  clear HBn
  clear HR0
  have x1g1 := X1.out.c1
  go_wp2_with fail
  go_loopw [35] (fun i wr => ∃ k : Nat, k ≤ zs.length ∧ i = .int .i64 k ∧ Hid (Box wr w.heap.size A a B b C c t) ∧ Hid (Ints wr Z zs) ∧ Hid (Glob wr) ∧ Hid (Below w.heap.size w wr)) (fun i _ => zs.length - (intOf i).toNat)
  case atStart => exact ⟨0, Nat.zero_le _, rfl, X1, HZ, HG, HB⟩
  case round =>
    clear X1 HZ HG HB x1g1
    obtain ⟨k, hk, rfl, X1, HZ, HG, HB⟩ := hrel
    by_cases hlt : k < zs.length
    · have hw2 : wrap64 (s + 1 + (k : Int)) = s + 1 + k := by have := RT.out; have := HK.out; unfold wrap64; omega
      have hw3 : wrap64 (s + 1 + (k : Int) - 1) = s + k := by have := RT.out; have := HK.out; unfold wrap64; omega
      obtain ⟨b1, o1, e1, -, hc⟩ := HZ.out.at_ hlt
      have HE1 := Lib.hid e1
      by_cases h5 : t.states ≤ s + 1 + (k : Int)
      · have d5 : decide (t.states ≤ s + 1 + (k : Int)) = true := decide_eq_true h5
        clear h5
        have x1g1 := X1.out.c1
        have HN := next_any A B C a b c t (t.states - 1) 0 _ X1.out.tot
        rw [next_last HK.out.2.2.2 (by have := HK.out; omega)] at HN
        unfold totV at HN
        have HN2 := Lib.hid HN
        clear HN
        have x1f0 := X1.out.c0
        have x1f1 := X1.out.c1
        have x1f2 := X1.out.c2
        have x1f3 := X1.out.c3
        go_wp2_with fail
        refine (HN2.out).mono ?_
        rintro e w6 ⟨rfl, hb⟩
        clear x1f0 x1f1 x1f2 x1f3
        have X1n := Lib.hid (X1.out.ext hb)
        clear X1
        have X1 := X1n
        clear X1n
        have HGn := Lib.hid (HG.out.ext hb)
        clear HG
        have HG := HGn
        clear HGn
        have HBn := Lib.hid (HB.out.trans (hb.mono HB.out.size))
        clear HB hb
        have HB := HBn
        clear HBn
        clear HN2
        go_wp2_with fail
        refine (awake_any _ HG.out).mono ?_
        rintro e w7 ⟨rfl, hb⟩
        have X1n := Lib.hid (X1.out.ext hb)
        clear X1
        have X1 := X1n
        clear X1n
        have HGn := Lib.hid (HG.out.ext hb)
        clear HG
        have HG := HGn
        clear HGn
        have HBn := Lib.hid (HB.out.trans (hb.mono HB.out.size))
        clear HB hb
        have HB := HBn
        clear HBn
        go_wp2_with fail
        go_ret
        exact ⟨rfl, HB.out⟩
      · have d5 : decide (t.states ≤ s + 1 + (k : Int)) = false := decide_eq_false h5
        have HK5 := Lib.hid h5
        clear h5
        have x1g0 := X1.out.c0
        have x1g1 := X1.out.c1
        by_cases h6 : zs[k] < 0
        · have d6 : decide (zs[k] < 0) = true := decide_eq_true h6
          clear h6
          subst e1
          go_upto_region 8 with fail
          go_quiet (fail)
          have HGn : Glob (wr.drewN nq) := HG.out
          have HBn := Lib.hid (below_drewN HB.out nq)
          go_wp2_with fail
          refine (awake_any _ HGn).mono ?_
          rintro e w9 ⟨rfl, hb⟩
          have HBF := Lib.hid (HBn.out.trans (hb.mono HBn.out.size))
          clear hb HBn
          go_wp2_with fail
          go_ret
          exact ⟨rfl, HBF.out⟩
        have d6 : decide (zs[k] < 0) = false := decide_eq_false h6
        by_cases h7 : (t.hood.length : Int) ≤ zs[k]
        · have d7 : decide ((t.hood.length : Int) ≤ zs[k]) = true := decide_eq_true h7
          clear h6 h7
          subst e1
          go_upto_region 8 with fail
          go_quiet (fail)
          have HGn : Glob (wr.drewN nq) := HG.out
          have HBn := Lib.hid (below_drewN HB.out nq)
          go_wp2_with fail
          refine (awake_any _ HGn).mono ?_
          rintro e w9 ⟨rfl, hb⟩
          have HBF := Lib.hid (HBn.out.trans (hb.mono HBn.out.size))
          clear hb HBn
          go_wp2_with fail
          go_ret
          exact ⟨rfl, HBF.out⟩
        have d7 : decide ((t.hood.length : Int) ≤ zs[k]) = false := decide_eq_false h7
        have HV : Hid (nextT t (s + k) zs[k] = s + 1 + k) := Lib.hid (by
          have h8 := HK5.out
          have := next_dies (s := s + k) HK.out.2.2.2 (by have := HK.out; omega) (by omega) (by omega : 0 ≤ zs[k]) (by omega)
          rw [this]; omega)
        clear h6 h7
        subst e1
        go_upto_region 8 with fail
        go_quiet (fail)
        have X1n := Lib.hid (X1.out.ext (below_drewN (Below.refl _ _) nq))
        have HZn : Hid (Ints (wr.drewN nq) (some ⟨b1, o1, none⟩) zs) := Lib.hid HZ.out
        have HGn : Hid (Glob (wr.drewN nq)) := Lib.hid HG.out
        have HBn := Lib.hid (below_drewN HB.out nq)
        have hcn : (wr.drewN nq).cell? ⟨b1, o1 + k, none⟩ = some (.int .i64 zs[k]) := hc
        clear X1 HZ HG HB hc x1g0 x1g1
        generalize wr.drewN nq = wq at *
        have X1 := X1n
        have HZ := HZn
        have HG := HGn
        have HB := HBn
        clear X1n HZn HGn HBn
        go_upto_region 10 with fail
        have hcr := cell_regrown hcn
        have x1k0 := cell_regrown X1.out.c0
        have x1k1 := cell_regrown X1.out.c1
        have x1k2 := cell_regrown X1.out.c2
        have x1k3 := cell_regrown X1.out.c3
        have cN := fun d os => Calls.regrown_of (next_any A B C a b c t (s + k) zs[k] _ (X1.out.tot.ext (below_regrown _ d os)))
        rw [HV.out] at cN
        unfold totV at cN
        have d8 : (s + 1 + (k : Int) != s + 1 + k) = false := by simp
        have CN := Lib.hid cN
        clear cN
        refine wp_region_quiet_below (by kernel_rfl) (by kernel_rfl) ?_
        repeat (go_big_quiet_step (first | with_reducible exact CN.out _ _))
        refine wpQuiet_nil ?_
        intro _ hw'
        obtain ⟨⟨dq, osq⟩, hw''⟩ := hw'
        subst hw''
        have hbq := below_regrown wq dq osq
        go_wp2_with fail
        go_roundw
        case rel =>
          refine ⟨k + 1, by omega, ?_, Lib.hid (X1.out.ext hbq), Lib.hid (HZ.out.ext hbq), Lib.hid (HG.out.ext hbq), Lib.hid (HB.out.trans (hbq.mono HB.out.size))⟩
          exact congrArg (Value.int .i64) (wrap_step HK.out.2.2.1 hlt)
        case measure =>
          rw [wrap_step HK.out.2.2.1 hlt]
          simp only [intOf, Int.toNat_natCast]
          omega
    · obtain rfl : k = zs.length := by omega
      have HN := next_any A B C a b c t (t.states - 1) 0 _ X1.out.tot
      rw [next_last HK.out.2.2.2 (by have := HK.out; omega)] at HN
      unfold totV at HN
      have HN2 := Lib.hid HN
      clear HN
      have x1f0 := X1.out.c0
      have x1f1 := X1.out.c1
      have x1f2 := X1.out.c2
      have x1f3 := X1.out.c3
      go_wp2_with fail
      refine (HN2.out).mono ?_
      rintro e w6 ⟨rfl, hb⟩
      clear x1f0 x1f1 x1f2 x1f3
      have X1n := Lib.hid (X1.out.ext hb)
      clear X1
      have X1 := X1n
      clear X1n
      have HGn := Lib.hid (HG.out.ext hb)
      clear HG
      have HG := HGn
      clear HGn
      have HBn := Lib.hid (HB.out.trans (hb.mono HB.out.size))
      clear HB hb
      have HB := HBn
      clear HBn
      clear HN2
      go_wp2_with fail
      refine (awake_any _ HG.out).mono ?_
      rintro e w7 ⟨rfl, hb⟩
      have X1n := Lib.hid (X1.out.ext hb)
      clear X1
      have X1 := X1n
      clear X1n
      have HGn := Lib.hid (HG.out.ext hb)
      clear HG
      have HG := HGn
      clear HGn
      have HBn := Lib.hid (HB.out.trans (hb.mono HB.out.size))
      clear HB hb
      have HB := HBn
      clear HBn
      go_wp2_with fail
      go_ret
      exact ⟨rfl, HB.out⟩
end Go.Proofs.YtaofninfjdepfaaDoor
