/-
  The reference's number and after. At most 2^31 bytes.
-/
import Derived.Test.YtekmldneinnmoaaDoorNumb
namespace Go.Proofs.YtekmldneinnmoaaDoor
open Go.RowKit
set_option maxRecDepth 100000
set_option linter.unusedVariables false
set_option linter.unusedSimpArgs false

def afterL (l : List UInt8) (p : Int) (t : List UInt8) : Int :=
  if 0 ≤ p ∧ p + t.length ≤ l.length ∧ (l.drop p.toNat).take t.length = t then p + t.length else -1
set_option maxHeartbeats 800000 in
theorem after_any (s t : ByteArray) (p : Int) (w : World) (hs : s.size ≤ 2147483648) (ht : t.size ≤ 10) (hp : p ≤ 2147483648) (hp2 : -10 ≤ p) :
    Calls Tryd.prog 53 #[.string s, .int .i64 p, .string t] w fun e w' => e = .returned (.int .i64 (afterL s.data.toList p t.data.toList)) ∧ w' = w := by
  by_cases h1 : p < 0
  · have d1 : decide (p < 0) = true := decide_eq_true h1
    have HN : Hid (afterL s.data.toList p t.data.toList = -1) := Lib.hid (by unfold afterL; rw [if_neg (by omega)])
    go_enter Tryd.func53, Tryd.ntmps53
    go_wp2
    go_ret
    exact ⟨ret_int HN.out.symm, rfl⟩
  · have d1 : decide (p < 0) = false := decide_eq_false h1
    by_cases h2 : (s.size : Int) < p + t.size
    · have d2 : decide ((s.size : Int) < p + t.size) = true := decide_eq_true h2
      have HN : Hid (afterL s.data.toList p t.data.toList = -1) := Lib.hid (by unfold afterL; rw [if_neg (by rw [← Lib.size_eq, ← Lib.size_eq]; omega)])
      go_enter Tryd.func53, Tryd.ntmps53
      go_wp2
      go_ret
      exact ⟨ret_int HN.out.symm, rfl⟩
    · have d2 : decide ((s.size : Int) < p + t.size) = false := decide_eq_false h2
      go_enter Tryd.func53, Tryd.ntmps53
      go_wp2
      · rename_i h
        have HN : afterL s.data.toList p t.data.toList = -1 := by
          unfold afterL
          rw [if_neg]
          rintro ⟨-, -, h3⟩
          rw [Lib.extract_toList, ByteArray.toList_eq] at h
          have e : (p + (t.size : Int)).toNat - p.toNat = t.data.toList.length := by rw [← Lib.size_eq]; omega
          rw [e, h3] at h
          simp at h
        go_ret
        exact ⟨ret_int HN.symm, rfl⟩
      · rename_i h
        have HN : afterL s.data.toList p t.data.toList = p + t.size := by
          unfold afterL
          have e : (p + (t.size : Int)).toNat - p.toNat = t.data.toList.length := by rw [← Lib.size_eq]; omega
          rw [Lib.extract_toList, ByteArray.toList_eq, e] at h
          have h3 : (s.data.toList.drop p.toNat).take t.data.toList.length = t.data.toList := by simpa using h
          rw [if_pos ⟨by omega, (by rw [← Lib.size_eq, ← Lib.size_eq]; omega), h3⟩, ← Lib.size_eq]
        go_ret
        exact ⟨ret_int HN.symm, rfl⟩
theorem numQ_bad {m p : Nat} {l : List UInt8} (h : okN m (digRun (l.drop p)) = false) : numQ m l p = (-1, (p : Int)) := by unfold numQ; rw [if_neg (by rw [h]; simp)]
theorem numQ_good {m p : Nat} {l : List UInt8} (h : okN m (digRun (l.drop p)) = true) : numQ m l p = (numL (digRun (l.drop p)), (p : Int) + (digRun (l.drop p)).length) := by unfold numQ; rw [if_pos h]
theorem head_run {l xs : List UInt8} {p : Nat} {m : Nat} (h : p < l.length) (h2 : digRun (l.drop p) ≠ []) : (digRun (l.drop p)).headD 0 = l[p] := by
  by_cases hd : isDig l[p] = true
  · rw [digRun_yes h hd]; rfl
  · rw [digRun_no h (by simpa using hd)] at h2
    exact absurd rfl h2
set_option maxHeartbeats 4000000 in
theorem numQ_any (s : ByteArray) (p m : Nat) (w : World) (hp : p ≤ s.size) (hs : s.size ≤ 2147483648) (hm : m ≤ 9) :
    Calls Tryd.prog 38 #[.string s, .int .i64 p, .int .i64 m] w fun e w' => e = .returned (.tuple #[.int .i64 (numQ m s.data.toList p).1, .int .i64 (numQ m s.data.toList p).2]) ∧ w' = w := by
  obtain ⟨l, hl⟩ : ∃ l, l = s.data.toList := ⟨_, rfl⟩
  have hgb : ∀ j (h : j < s.size) (h' : j < l.length), l[j] = s[j] := by subst hl; exact get_byte s
  have hlen : l.length = s.size := by rw [hl]; rfl
  rw [← hl]
  have HG := Lib.hid (And.intro hlen hgb)
  clear hl hgb hlen
  obtain ⟨ds, hds⟩ : ∃ ds, ds = digRun (l.drop p) := ⟨_, rfl⟩
  have HR := Lib.hid hds
  have HDA : Hid (∀ c ∈ ds, isDig c = true) := Lib.hid (by rw [hds]; exact digRun_all _)
  clear hds
  go_enter Tryd.func38, Tryd.ntmps38
  go_wp2
  go_loopw [8, 9] (fun n i wr => ∃ (j : Nat) (v : Int) (xs : List UInt8), p ≤ j ∧ j ≤ s.size ∧ i = .int .i64 j ∧ n = .int .i64 v ∧ wr = w ∧ xs.length + p = j ∧ xs.length ≤ m + 1 ∧ Hid (v = numL xs ∧ ds = xs ++ digRun (l.drop j))) (fun _ i _ => s.size - (intOf i).toNat)
  case atStart => exact ⟨p, 0, [], Nat.le_refl _, hp, rfl, rfl, rfl, by simp, by simp, Lib.hid ⟨rfl, HR.out⟩⟩
  case round =>
    obtain ⟨j, v, xs, hpj, hjs, rfl, rfl, hw, hxj, hxm, HT⟩ := hrel
    have hw2 := hw.symm
    clear hw
    subst hw2
    have hv0 : 0 ≤ v ∧ v < 10000000000 := by
      rw [HT.out.1]
      refine numL_bd (fun c hc => HDA.out c ?_) (by omega)
      rw [HT.out.2]
      exact List.mem_append_left _ hc
    have hwj : wrap64 ((j : Int) - (p : Int)) = (j : Int) - (p : Int) := by unfold wrap64; omega
    have HX : Hid (xs.length ≤ ds.length) := Lib.hid (by rw [HT.out.2]; simp)
    by_cases hlt : j < s.size
    · have hlt' : j < l.length := by rw [HG.out.1]; exact hlt
      have hc0 : (s[j].toNat : Int) ≤ 255 := by have := s[j].toNat_lt; omega
      have hdg : isDig l[j] = (decide ((48 : Int) ≤ s[j].toNat) && decide ((s[j].toNat : Int) ≤ 57)) := by rw [HG.out.2 j hlt hlt']; rfl
      have hdo : digOf l[j] = (s[j].toNat : Int) - 48 := by rw [HG.out.2 j hlt hlt']; rfl
      have HD := Lib.hid (And.intro hdg hdo)
      clear hdg hdo
      have d0 : decide ((j : Int) < (s.size : Int)) = true := decide_eq_true (by omega)
      by_cases h1 : 48 ≤ (s[j].toNat : Int)
      · by_cases h2 : (s[j].toNat : Int) ≤ 57
        · have d1 : decide ((48 : Int) ≤ s[j].toNat) = true := decide_eq_true h1
          have d2 : decide ((s[j].toNat : Int) ≤ 57) = true := decide_eq_true h2
          have HY : Hid (digRun (l.drop j) = l[j] :: digRun (l.drop (j + 1))) := Lib.hid (digRun_yes hlt' (by rw [HD.out.1, d1, d2]; rfl))
          by_cases h3 : xs.length ≤ m
          · have d3 : decide ((j : Int) - (p : Int) ≤ (m : Int)) = true := decide_eq_true (by omega)
            have HN : Hid (10 * v + ((s[j].toNat : Int) - 48) = numL (xs ++ [l[j]]) ∧ ds = (xs ++ [l[j]]) ++ digRun (l.drop (j + 1))) := Lib.hid ⟨by
              rw [numL_snoc, HD.out.2, HT.out.1], by rw [HT.out.2, HY.out, List.append_assoc]; rfl⟩
            go_wp2
            go_roundw
            case rel => exact ⟨j + 1, _, xs ++ [l[j]], by omega, by omega, by go_num, rfl, (by first | rfl | trivial), by simp; omega, by simp; omega, HN⟩
            case measure => simp [intOf]; omega
          · have d3 : decide ((j : Int) - (p : Int) ≤ (m : Int)) = false := decide_eq_false (by omega)
            have HV : Hid (ds = xs ∨ m + 1 = xs.length) := Lib.hid (.inr (by omega))
            by_cases k1 : xs.length = 0
            · have e1 : ((j : Int) == (p : Int)) = true := by simp; omega
              have HN : Hid (numQ m l p = (-1, (p : Int))) := Lib.hid (numQ_bad (by
                rw [← HR.out]
                rcases HV.out with h | h
                · rw [h, List.eq_nil_of_length_eq_zero k1]; exact okN_nil m
                · omega))
              have K1 := Lib.hid k1
              clear k1
              go_wp2
              go_ret2
              rw [HN.out]
              exact ⟨rfl, rfl⟩
            · have e1 : ((j : Int) == (p : Int)) = false := by simp; omega
              by_cases k2 : m < xs.length
              · have e2 : decide ((m : Int) < (j : Int) - (p : Int)) = true := decide_eq_true (by omega)
                have HN : Hid (numQ m l p = (-1, (p : Int))) := Lib.hid (numQ_bad (by
                  rw [← HR.out]
                  exact okN_long (by have := HX.out; omega)))
                go_wp2
                go_ret2
                rw [HN.out]
                exact ⟨rfl, rfl⟩
              · have e2 : decide ((m : Int) < (j : Int) - (p : Int)) = false := decide_eq_false (by omega)
                have HE : Hid (ds = xs) := Lib.hid (HV.out.elim id (fun h => by omega))
                have hps : p < s.size := by omega
                have hpl : p < l.length := by rw [HG.out.1]; exact hps
                have HH : Hid (ds.headD 0 = s[p]) := Lib.hid (by
                  rw [HR.out, head_run (xs := []) (m := 0) hpl, HG.out.2 p hps hpl]
                  rw [← HR.out, HE.out]
                  rintro rfl
                  exact k1 rfl)
                by_cases k3 : s[p] = 48
                · have e3 : ((s[p].toNat : Int) == 48) = true := by rw [k3]; rfl
                  by_cases k4 : 1 < xs.length
                  · have e4 : decide ((1 : Int) < (j : Int) - (p : Int)) = true := decide_eq_true (by omega)
                    have HN : Hid (numQ m l p = (-1, (p : Int))) := Lib.hid (numQ_bad (by
                      rw [← HR.out]
                      exact okN_zero (by rw [HE.out]; exact k4) (by rw [HH.out]; exact k3)))
                    clear k3
                    go_wp2
                    go_ret2
                    rw [HN.out]
                    exact ⟨rfl, rfl⟩
                  · have e4 : decide ((1 : Int) < (j : Int) - (p : Int)) = false := decide_eq_false (by omega)
                    have HN : Hid (numQ m l p = (v, (j : Int))) := Lib.hid (by
                      rw [numQ_good (by rw [← HR.out]; exact okN_yes (by rw [HE.out]; omega) (by rw [HE.out]; omega) (by rw [HE.out]; omega)), ← HR.out, HE.out, HT.out.1, show (p : Int) + xs.length = j from by omega])
                    clear k3
                    go_wp2
                    go_ret2
                    rw [HN.out]
                    exact ⟨rfl, rfl⟩
                · have e3 : ((s[p].toNat : Int) == 48) = false := by
                    simp only [beq_eq_false_iff_ne, ne_eq]
                    intro h
                    exact k3 (UInt8.toNat_inj.1 (by have : (48 : UInt8).toNat = 48 := rfl; omega))
                  have HN : Hid (numQ m l p = (v, (j : Int))) := Lib.hid (by
                    rw [numQ_good (by rw [← HR.out]; exact okN_yes (by rw [HE.out]; omega) (by rw [HE.out]; omega) (by rw [HH.out]; exact fun h => k3 h.2)), ← HR.out, HE.out, HT.out.1, show (p : Int) + xs.length = j from by omega])
                  clear k3
                  go_wp2
                  go_ret2
                  rw [HN.out]
                  exact ⟨rfl, rfl⟩
        · have d1 : decide ((48 : Int) ≤ s[j].toNat) = true := decide_eq_true h1
          have d2 : decide ((s[j].toNat : Int) ≤ 57) = false := decide_eq_false h2
          have HV : Hid (ds = xs ∨ m + 1 = xs.length) := Lib.hid (.inl (by rw [HT.out.2, digRun_no hlt' (by rw [HD.out.1, d1, d2]; rfl), List.append_nil]))
          by_cases k1 : xs.length = 0
          · have e1 : ((j : Int) == (p : Int)) = true := by simp; omega
            have HN : Hid (numQ m l p = (-1, (p : Int))) := Lib.hid (numQ_bad (by
              rw [← HR.out]
              rcases HV.out with h | h
              · rw [h, List.eq_nil_of_length_eq_zero k1]; exact okN_nil m
              · omega))
            have K1 := Lib.hid k1
            clear k1
            go_wp2
            go_ret2
            rw [HN.out]
            exact ⟨rfl, rfl⟩
          · have e1 : ((j : Int) == (p : Int)) = false := by simp; omega
            by_cases k2 : m < xs.length
            · have e2 : decide ((m : Int) < (j : Int) - (p : Int)) = true := decide_eq_true (by omega)
              have HN : Hid (numQ m l p = (-1, (p : Int))) := Lib.hid (numQ_bad (by
                rw [← HR.out]
                exact okN_long (by have := HX.out; omega)))
              go_wp2
              go_ret2
              rw [HN.out]
              exact ⟨rfl, rfl⟩
            · have e2 : decide ((m : Int) < (j : Int) - (p : Int)) = false := decide_eq_false (by omega)
              have HE : Hid (ds = xs) := Lib.hid (HV.out.elim id (fun h => by omega))
              have hps : p < s.size := by omega
              have hpl : p < l.length := by rw [HG.out.1]; exact hps
              have HH : Hid (ds.headD 0 = s[p]) := Lib.hid (by
                rw [HR.out, head_run (xs := []) (m := 0) hpl, HG.out.2 p hps hpl]
                rw [← HR.out, HE.out]
                rintro rfl
                exact k1 rfl)
              by_cases k3 : s[p] = 48
              · have e3 : ((s[p].toNat : Int) == 48) = true := by rw [k3]; rfl
                by_cases k4 : 1 < xs.length
                · have e4 : decide ((1 : Int) < (j : Int) - (p : Int)) = true := decide_eq_true (by omega)
                  have HN : Hid (numQ m l p = (-1, (p : Int))) := Lib.hid (numQ_bad (by
                    rw [← HR.out]
                    exact okN_zero (by rw [HE.out]; exact k4) (by rw [HH.out]; exact k3)))
                  clear k3
                  go_wp2
                  go_ret2
                  rw [HN.out]
                  exact ⟨rfl, rfl⟩
                · have e4 : decide ((1 : Int) < (j : Int) - (p : Int)) = false := decide_eq_false (by omega)
                  have HN : Hid (numQ m l p = (v, (j : Int))) := Lib.hid (by
                    rw [numQ_good (by rw [← HR.out]; exact okN_yes (by rw [HE.out]; omega) (by rw [HE.out]; omega) (by rw [HE.out]; omega)), ← HR.out, HE.out, HT.out.1, show (p : Int) + xs.length = j from by omega])
                  clear k3
                  go_wp2
                  go_ret2
                  rw [HN.out]
                  exact ⟨rfl, rfl⟩
              · have e3 : ((s[p].toNat : Int) == 48) = false := by
                  simp only [beq_eq_false_iff_ne, ne_eq]
                  intro h
                  exact k3 (UInt8.toNat_inj.1 (by have : (48 : UInt8).toNat = 48 := rfl; omega))
                have HN : Hid (numQ m l p = (v, (j : Int))) := Lib.hid (by
                  rw [numQ_good (by rw [← HR.out]; exact okN_yes (by rw [HE.out]; omega) (by rw [HE.out]; omega) (by rw [HH.out]; exact fun h => k3 h.2)), ← HR.out, HE.out, HT.out.1, show (p : Int) + xs.length = j from by omega])
                clear k3
                go_wp2
                go_ret2
                rw [HN.out]
                exact ⟨rfl, rfl⟩
      · have d1 : decide ((48 : Int) ≤ s[j].toNat) = false := decide_eq_false h1
        have HV : Hid (ds = xs ∨ m + 1 = xs.length) := Lib.hid (.inl (by rw [HT.out.2, digRun_no hlt' (by rw [HD.out.1, d1]; rfl), List.append_nil]))
        by_cases k1 : xs.length = 0
        · have e1 : ((j : Int) == (p : Int)) = true := by simp; omega
          have HN : Hid (numQ m l p = (-1, (p : Int))) := Lib.hid (numQ_bad (by
            rw [← HR.out]
            rcases HV.out with h | h
            · rw [h, List.eq_nil_of_length_eq_zero k1]; exact okN_nil m
            · omega))
          have K1 := Lib.hid k1
          clear k1
          go_wp2
          go_ret2
          rw [HN.out]
          exact ⟨rfl, rfl⟩
        · have e1 : ((j : Int) == (p : Int)) = false := by simp; omega
          by_cases k2 : m < xs.length
          · have e2 : decide ((m : Int) < (j : Int) - (p : Int)) = true := decide_eq_true (by omega)
            have HN : Hid (numQ m l p = (-1, (p : Int))) := Lib.hid (numQ_bad (by
              rw [← HR.out]
              exact okN_long (by have := HX.out; omega)))
            go_wp2
            go_ret2
            rw [HN.out]
            exact ⟨rfl, rfl⟩
          · have e2 : decide ((m : Int) < (j : Int) - (p : Int)) = false := decide_eq_false (by omega)
            have HE : Hid (ds = xs) := Lib.hid (HV.out.elim id (fun h => by omega))
            have hps : p < s.size := by omega
            have hpl : p < l.length := by rw [HG.out.1]; exact hps
            have HH : Hid (ds.headD 0 = s[p]) := Lib.hid (by
              rw [HR.out, head_run (xs := []) (m := 0) hpl, HG.out.2 p hps hpl]
              rw [← HR.out, HE.out]
              rintro rfl
              exact k1 rfl)
            by_cases k3 : s[p] = 48
            · have e3 : ((s[p].toNat : Int) == 48) = true := by rw [k3]; rfl
              by_cases k4 : 1 < xs.length
              · have e4 : decide ((1 : Int) < (j : Int) - (p : Int)) = true := decide_eq_true (by omega)
                have HN : Hid (numQ m l p = (-1, (p : Int))) := Lib.hid (numQ_bad (by
                  rw [← HR.out]
                  exact okN_zero (by rw [HE.out]; exact k4) (by rw [HH.out]; exact k3)))
                clear k3
                go_wp2
                go_ret2
                rw [HN.out]
                exact ⟨rfl, rfl⟩
              · have e4 : decide ((1 : Int) < (j : Int) - (p : Int)) = false := decide_eq_false (by omega)
                have HN : Hid (numQ m l p = (v, (j : Int))) := Lib.hid (by
                  rw [numQ_good (by rw [← HR.out]; exact okN_yes (by rw [HE.out]; omega) (by rw [HE.out]; omega) (by rw [HE.out]; omega)), ← HR.out, HE.out, HT.out.1, show (p : Int) + xs.length = j from by omega])
                clear k3
                go_wp2
                go_ret2
                rw [HN.out]
                exact ⟨rfl, rfl⟩
            · have e3 : ((s[p].toNat : Int) == 48) = false := by
                simp only [beq_eq_false_iff_ne, ne_eq]
                intro h
                exact k3 (UInt8.toNat_inj.1 (by have : (48 : UInt8).toNat = 48 := rfl; omega))
              have HN : Hid (numQ m l p = (v, (j : Int))) := Lib.hid (by
                rw [numQ_good (by rw [← HR.out]; exact okN_yes (by rw [HE.out]; omega) (by rw [HE.out]; omega) (by rw [HH.out]; exact fun h => k3 h.2)), ← HR.out, HE.out, HT.out.1, show (p : Int) + xs.length = j from by omega])
              clear k3
              go_wp2
              go_ret2
              rw [HN.out]
              exact ⟨rfl, rfl⟩
    · have d0 : decide ((j : Int) < (s.size : Int)) = false := decide_eq_false (by omega)
      have HV : Hid (ds = xs ∨ m + 1 = xs.length) := Lib.hid (.inl (by rw [HT.out.2, List.drop_of_length_le (by rw [HG.out.1]; omega), show digRun [] = [] from rfl, List.append_nil]))
      by_cases k1 : xs.length = 0
      · have e1 : ((j : Int) == (p : Int)) = true := by simp; omega
        have HN : Hid (numQ m l p = (-1, (p : Int))) := Lib.hid (numQ_bad (by
          rw [← HR.out]
          rcases HV.out with h | h
          · rw [h, List.eq_nil_of_length_eq_zero k1]; exact okN_nil m
          · omega))
        have K1 := Lib.hid k1
        clear k1
        go_wp2
        go_ret2
        rw [HN.out]
        exact ⟨rfl, rfl⟩
      · have e1 : ((j : Int) == (p : Int)) = false := by simp; omega
        by_cases k2 : m < xs.length
        · have e2 : decide ((m : Int) < (j : Int) - (p : Int)) = true := decide_eq_true (by omega)
          have HN : Hid (numQ m l p = (-1, (p : Int))) := Lib.hid (numQ_bad (by
            rw [← HR.out]
            exact okN_long (by have := HX.out; omega)))
          go_wp2
          go_ret2
          rw [HN.out]
          exact ⟨rfl, rfl⟩
        · have e2 : decide ((m : Int) < (j : Int) - (p : Int)) = false := decide_eq_false (by omega)
          have HE : Hid (ds = xs) := Lib.hid (HV.out.elim id (fun h => by omega))
          have hps : p < s.size := by omega
          have hpl : p < l.length := by rw [HG.out.1]; exact hps
          have HH : Hid (ds.headD 0 = s[p]) := Lib.hid (by
            rw [HR.out, head_run (xs := []) (m := 0) hpl, HG.out.2 p hps hpl]
            rw [← HR.out, HE.out]
            rintro rfl
            exact k1 rfl)
          by_cases k3 : s[p] = 48
          · have e3 : ((s[p].toNat : Int) == 48) = true := by rw [k3]; rfl
            by_cases k4 : 1 < xs.length
            · have e4 : decide ((1 : Int) < (j : Int) - (p : Int)) = true := decide_eq_true (by omega)
              have HN : Hid (numQ m l p = (-1, (p : Int))) := Lib.hid (numQ_bad (by
                rw [← HR.out]
                exact okN_zero (by rw [HE.out]; exact k4) (by rw [HH.out]; exact k3)))
              clear k3
              go_wp2
              go_ret2
              rw [HN.out]
              exact ⟨rfl, rfl⟩
            · have e4 : decide ((1 : Int) < (j : Int) - (p : Int)) = false := decide_eq_false (by omega)
              have HN : Hid (numQ m l p = (v, (j : Int))) := Lib.hid (by
                rw [numQ_good (by rw [← HR.out]; exact okN_yes (by rw [HE.out]; omega) (by rw [HE.out]; omega) (by rw [HE.out]; omega)), ← HR.out, HE.out, HT.out.1, show (p : Int) + xs.length = j from by omega])
              clear k3
              go_wp2
              go_ret2
              rw [HN.out]
              exact ⟨rfl, rfl⟩
          · have e3 : ((s[p].toNat : Int) == 48) = false := by
              simp only [beq_eq_false_iff_ne, ne_eq]
              intro h
              exact k3 (UInt8.toNat_inj.1 (by have : (48 : UInt8).toNat = 48 := rfl; omega))
            have HN : Hid (numQ m l p = (v, (j : Int))) := Lib.hid (by
              rw [numQ_good (by rw [← HR.out]; exact okN_yes (by rw [HE.out]; omega) (by rw [HE.out]; omega) (by rw [HH.out]; exact fun h => k3 h.2)), ← HR.out, HE.out, HT.out.1, show (p : Int) + xs.length = j from by omega])
            clear k3
            go_wp2
            go_ret2
            rw [HN.out]
            exact ⟨rfl, rfl⟩
end Go.Proofs.YtekmldneinnmoaaDoor
