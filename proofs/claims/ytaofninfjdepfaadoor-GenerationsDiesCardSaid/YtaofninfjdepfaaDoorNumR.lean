/-
  cellularref09.number: digits from an index on, as a number of at most 10000, and the index behind them; -1 where they are not one to three or begin with 0. At most 2^31 bytes.
-/
import Derived.Test.YtaofninfjdepfaaDoorAfter
namespace Go.Proofs.YtaofninfjdepfaaDoor
open Go.RowKit
set_option maxRecDepth 100000
set_option linter.unusedVariables false
set_option linter.unusedSimpArgs false

/-- the digits ahead -/
def digRun : List UInt8 → List UInt8
  | [] => []
  | c :: l => if isDig c then c :: digRun l else []
def numStep (n : Int) (c : UInt8) : Int := min 10000 (10 * n + digOf c)
def numV (l : List UInt8) : Int := l.foldl numStep 0
theorem digRun_yes {l : List UInt8} {j : Nat} (h : j < l.length) (hd : isDig l[j] = true) : digRun (l.drop j) = l[j] :: digRun (l.drop (j + 1)) := by
  rw [List.drop_eq_getElem_cons h]
  simp [digRun, hd]
theorem digRun_no {l : List UInt8} {j : Nat} (h : j < l.length) (hd : isDig l[j] = false) : digRun (l.drop j) = [] := by
  rw [List.drop_eq_getElem_cons h]
  simp [digRun, hd]
/-- what the reference's number answers from place p on -/
def numR (l : List UInt8) (p : Nat) : Int × Int :=
  if (digRun (l.drop p)).length = 0 ∨ 3 < (digRun (l.drop p)).length ∨ l.getD p 0 = 48 then (0, -1) else (numV (digRun (l.drop p)), (p : Int) + (digRun (l.drop p)).length)
set_option maxHeartbeats 1000000 in
theorem numR_any (s : ByteArray) (p : Nat) (w : World) (hp : p ≤ s.size) (hs : s.size ≤ 2147483648) :
    Calls Tryd.prog 33 #[.string s, .int .i64 p] w fun e w' => e = .returned (.tuple #[.int .i64 (numR s.data.toList p).1, .int .i64 (numR s.data.toList p).2]) ∧ w' = w := by
  obtain ⟨l, hl⟩ : ∃ l, l = s.data.toList := ⟨_, rfl⟩
  have hgb : ∀ j (h : j < s.size) (h' : j < l.length), l[j] = s[j] := by subst hl; exact get_byte s
  have hlen : l.length = s.size := by rw [hl]; rfl
  rw [← hl]
  have HG := Lib.hid (And.intro hlen hgb)
  clear hl hgb hlen
  obtain ⟨ds, hds⟩ : ∃ ds, ds = digRun (l.drop p) := ⟨_, rfl⟩
  have HR := Lib.hid hds
  clear hds
  go_enter Tryd.func33, Tryd.ntmps33
  go_wp2
  go_loopw [1, 6] (fun i n wr => ∃ (j : Nat) (m : Int) (xs : List UInt8), p ≤ j ∧ j ≤ s.size ∧ i = .int .i64 j ∧ n = .int .i64 m ∧ 0 ≤ m ∧ m ≤ 10000 ∧ wr = w ∧ xs.length + p = j ∧ Hid (m = numV xs ∧ ds = xs ++ digRun (l.drop j))) (fun i _ _ => s.size - (intOf i).toNat)
  case atStart => exact ⟨p, 0, [], Nat.le_refl _, hp, rfl, rfl, by omega, by omega, rfl, by simp, Lib.hid ⟨rfl, HR.out⟩⟩
  case round =>
    obtain ⟨j, m, xs, hpj, hjs, rfl, rfl, hm0, hm1, hw, hxj, HT⟩ := hrel
    have hw2 := hw.symm
    clear hw
    subst hw2
    by_cases hlt : j < s.size
    · have hlt' : j < l.length := by rw [HG.out.1]; exact hlt
      have hc0 : (s[j].toNat : Int) ≤ 255 := by have := s[j].toNat_lt; omega
      have hdg : isDig l[j] = (decide ((48 : Int) ≤ s[j].toNat) && decide ((s[j].toNat : Int) ≤ 57)) := by rw [HG.out.2 j hlt hlt']; rfl
      have hdo : digOf l[j] = (s[j].toNat : Int) - 48 := by rw [HG.out.2 j hlt hlt']; rfl
      have HD := Lib.hid (And.intro hdg hdo)
      clear hdg hdo
      by_cases h1 : 48 ≤ (s[j].toNat : Int)
      · by_cases h2 : (s[j].toNat : Int) ≤ 57
        · have d1 : decide ((48 : Int) ≤ s[j].toNat) = true := decide_eq_true h1
          have d2 : decide ((s[j].toNat : Int) ≤ 57) = true := decide_eq_true h2
          have HN : Hid (min 10000 (10 * m + ((s[j].toNat : Int) - 48)) = numV (xs ++ [l[j]]) ∧ ds = (xs ++ [l[j]]) ++ digRun (l.drop (j + 1))) := Lib.hid ⟨by
            unfold numV
            rw [List.foldl_append, List.foldl_cons, List.foldl_nil]
            unfold numStep
            rw [HD.out.2, HT.out.1]; rfl, by rw [HT.out.2, digRun_yes hlt' (by rw [HD.out.1, d1, d2]; rfl), List.append_assoc]; rfl⟩
          have hb0 : 0 ≤ min 10000 (10 * m + ((s[j].toNat : Int) - 48)) := by omega
          have hb1 : min 10000 (10 * m + ((s[j].toNat : Int) - 48)) ≤ 10000 := by omega
          go_wp2
          go_roundw
          case rel => exact ⟨j + 1, _, xs ++ [l[j]], by omega, by omega, by go_num, rfl, hb0, hb1, (by first | rfl | trivial), by simp; omega, HN⟩
          case measure => simp [intOf]; omega
        · have d1 : decide ((48 : Int) ≤ s[j].toNat) = true := decide_eq_true h1
          have d2 : decide ((s[j].toNat : Int) ≤ 57) = false := decide_eq_false h2
          have hno : ds = xs := by rw [HT.out.2, digRun_no hlt' (by rw [HD.out.1, d1, d2]; rfl), List.append_nil]
          have hmv : m = numV xs := HT.out.1
          have HV := Lib.hid (And.intro hno hmv)
          clear hno hmv
          by_cases k1 : xs.length = 0
          · have e1 : ((j : Int) == (p : Int)) = true := by simp; omega
            have HN : Hid (numR l p = (0, -1)) := Lib.hid (by unfold numR; rw [← HR.out, HV.out.1, if_pos (.inl k1)])
            have K1 := Lib.hid k1
            clear k1
            go_wp2
            go_ret2
            rw [HN.out]
            exact ⟨rfl, rfl⟩
          · have e1 : ((j : Int) == (p : Int)) = false := by simp; omega
            by_cases k2 : 3 < xs.length
            · have e2 : decide ((p : Int) + 3 < (j : Int)) = true := decide_eq_true (by omega)
              have HN : Hid (numR l p = (0, -1)) := Lib.hid (by unfold numR; rw [← HR.out, HV.out.1, if_pos (.inr (.inl k2))])
              go_wp2
              go_ret2
              rw [HN.out]
              exact ⟨rfl, rfl⟩
            · have e2 : decide ((p : Int) + 3 < (j : Int)) = false := decide_eq_false (by omega)
              have hps : p < s.size := by omega
              have hpl : p < l.length := by rw [HG.out.1]; exact hps
              have eg : l.getD p 0 = s[p] := by rw [← HG.out.2 p hps hpl]; simp [List.getD, hpl]
              by_cases k3 : s[p] = 48
              · have e3 : ((s[p].toNat : Int) == 48) = true := by rw [k3]; rfl
                have HN : Hid (numR l p = (0, -1)) := Lib.hid (by unfold numR; rw [← HR.out, HV.out.1, eg, if_pos (.inr (.inr k3))])
                clear k3 eg
                go_wp2
                go_ret2
                rw [HN.out]
                exact ⟨rfl, rfl⟩
              · have e3 : ((s[p].toNat : Int) == 48) = false := by
                  simp only [beq_eq_false_iff_ne, ne_eq]
                  intro h
                  exact k3 (UInt8.toNat_inj.1 (by have : (48 : UInt8).toNat = 48 := rfl; omega))
                have HN : Hid (numR l p = (m, (j : Int))) := Lib.hid (by
                  unfold numR
                  rw [← HR.out, HV.out.1, eg, if_neg (fun h => h.elim k1 fun h => h.elim k2 k3), HV.out.2, show (p : Int) + xs.length = j from by omega])
                clear k3 eg
                go_wp2
                go_ret2
                rw [HN.out]
                exact ⟨rfl, rfl⟩
      · have d1 : decide ((48 : Int) ≤ s[j].toNat) = false := decide_eq_false h1
        have hno : ds = xs := by rw [HT.out.2, digRun_no hlt' (by rw [HD.out.1, d1]; rfl), List.append_nil]
        have hmv : m = numV xs := HT.out.1
        have HV := Lib.hid (And.intro hno hmv)
        clear hno hmv
        by_cases k1 : xs.length = 0
        · have e1 : ((j : Int) == (p : Int)) = true := by simp; omega
          have HN : Hid (numR l p = (0, -1)) := Lib.hid (by unfold numR; rw [← HR.out, HV.out.1, if_pos (.inl k1)])
          have K1 := Lib.hid k1
          clear k1
          go_wp2
          go_ret2
          rw [HN.out]
          exact ⟨rfl, rfl⟩
        · have e1 : ((j : Int) == (p : Int)) = false := by simp; omega
          by_cases k2 : 3 < xs.length
          · have e2 : decide ((p : Int) + 3 < (j : Int)) = true := decide_eq_true (by omega)
            have HN : Hid (numR l p = (0, -1)) := Lib.hid (by unfold numR; rw [← HR.out, HV.out.1, if_pos (.inr (.inl k2))])
            go_wp2
            go_ret2
            rw [HN.out]
            exact ⟨rfl, rfl⟩
          · have e2 : decide ((p : Int) + 3 < (j : Int)) = false := decide_eq_false (by omega)
            have hps : p < s.size := by omega
            have hpl : p < l.length := by rw [HG.out.1]; exact hps
            have eg : l.getD p 0 = s[p] := by rw [← HG.out.2 p hps hpl]; simp [List.getD, hpl]
            by_cases k3 : s[p] = 48
            · have e3 : ((s[p].toNat : Int) == 48) = true := by rw [k3]; rfl
              have HN : Hid (numR l p = (0, -1)) := Lib.hid (by unfold numR; rw [← HR.out, HV.out.1, eg, if_pos (.inr (.inr k3))])
              clear k3 eg
              go_wp2
              go_ret2
              rw [HN.out]
              exact ⟨rfl, rfl⟩
            · have e3 : ((s[p].toNat : Int) == 48) = false := by
                simp only [beq_eq_false_iff_ne, ne_eq]
                intro h
                exact k3 (UInt8.toNat_inj.1 (by have : (48 : UInt8).toNat = 48 := rfl; omega))
              have HN : Hid (numR l p = (m, (j : Int))) := Lib.hid (by
                unfold numR
                rw [← HR.out, HV.out.1, eg, if_neg (fun h => h.elim k1 fun h => h.elim k2 k3), HV.out.2, show (p : Int) + xs.length = j from by omega])
              clear k3 eg
              go_wp2
              go_ret2
              rw [HN.out]
              exact ⟨rfl, rfl⟩
    · have d0 : decide ((j : Int) < (s.size : Int)) = false := decide_eq_false (by omega)
      have hno : ds = xs := by rw [HT.out.2, List.drop_of_length_le (by rw [HG.out.1]; omega), show digRun [] = [] from rfl, List.append_nil]
      have hmv : m = numV xs := HT.out.1
      have HV := Lib.hid (And.intro hno hmv)
      clear hno hmv
      by_cases k1 : xs.length = 0
      · have e1 : ((j : Int) == (p : Int)) = true := by simp; omega
        have HN : Hid (numR l p = (0, -1)) := Lib.hid (by unfold numR; rw [← HR.out, HV.out.1, if_pos (.inl k1)])
        have K1 := Lib.hid k1
        clear k1
        go_wp2
        go_ret2
        rw [HN.out]
        exact ⟨rfl, rfl⟩
      · have e1 : ((j : Int) == (p : Int)) = false := by simp; omega
        by_cases k2 : 3 < xs.length
        · have e2 : decide ((p : Int) + 3 < (j : Int)) = true := decide_eq_true (by omega)
          have HN : Hid (numR l p = (0, -1)) := Lib.hid (by unfold numR; rw [← HR.out, HV.out.1, if_pos (.inr (.inl k2))])
          go_wp2
          go_ret2
          rw [HN.out]
          exact ⟨rfl, rfl⟩
        · have e2 : decide ((p : Int) + 3 < (j : Int)) = false := decide_eq_false (by omega)
          have hps : p < s.size := by omega
          have hpl : p < l.length := by rw [HG.out.1]; exact hps
          have eg : l.getD p 0 = s[p] := by rw [← HG.out.2 p hps hpl]; simp [List.getD, hpl]
          by_cases k3 : s[p] = 48
          · have e3 : ((s[p].toNat : Int) == 48) = true := by rw [k3]; rfl
            have HN : Hid (numR l p = (0, -1)) := Lib.hid (by unfold numR; rw [← HR.out, HV.out.1, eg, if_pos (.inr (.inr k3))])
            clear k3 eg
            go_wp2
            go_ret2
            rw [HN.out]
            exact ⟨rfl, rfl⟩
          · have e3 : ((s[p].toNat : Int) == 48) = false := by
              simp only [beq_eq_false_iff_ne, ne_eq]
              intro h
              exact k3 (UInt8.toNat_inj.1 (by have : (48 : UInt8).toNat = 48 := rfl; omega))
            have HN : Hid (numR l p = (m, (j : Int))) := Lib.hid (by
              unfold numR
              rw [← HR.out, HV.out.1, eg, if_neg (fun h => h.elim k1 fun h => h.elim k2 k3), HV.out.2, show (p : Int) + xs.length = j from by omega])
            clear k3 eg
            go_wp2
            go_ret2
            rw [HN.out]
            exact ⟨rfl, rfl⟩
end Go.Proofs.YtaofninfjdepfaaDoor
