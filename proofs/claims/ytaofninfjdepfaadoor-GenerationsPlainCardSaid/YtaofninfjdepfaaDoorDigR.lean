/-
  cellularref09.digits: strictly ascending digits from an index on. At most 2^31 bytes.
-/
import Derived.Test.YtaofninfjdepfaaDoorDig
namespace Go.Proofs.YtaofninfjdepfaaDoor
open Go.RowKit
set_option maxRecDepth 100000
set_option linter.unusedVariables false

set_option maxHeartbeats 1000000 in
theorem digitsR_any (s : ByteArray) (p : Nat) (w : World) (hp : p ≤ s.size) (hs : s.size ≤ 2147483648) :
    Calls Tryd.prog 62 #[.string s, .int .i64 p] w (RetIntsN (digAsc (-1) (s.data.toList.drop p)) ((p : Int) + (digAsc (-1) (s.data.toList.drop p)).length) w) := by
  obtain ⟨l, hl⟩ : ∃ l, l = s.data.toList := ⟨_, rfl⟩
  have hgb : ∀ j (h : j < s.size) (h' : j < l.length), l[j] = s[j] := by subst hl; exact get_byte s
  have hlen : l.length = s.size := by rw [hl]; rfl
  rw [← hl]
  have HG := Lib.hid (And.intro hlen hgb)
  clear hl hgb hlen
  obtain ⟨zr, hzr⟩ : ∃ zr, zr = digAsc (-1) (l.drop p) := ⟨_, rfl⟩
  rw [← hzr]
  have HR := Lib.hid hzr
  clear hzr
  go_enter Tryd.func62, Tryd.ntmps62
  go_wp2
  go_loopw [1, 6] (fun i v wr => ∃ (j : Nat) (zs : List Int), p ≤ j ∧ j ≤ s.size ∧ i = .int .i64 j ∧ OwnI 3 wr w.heap.size v zs ∧ Below w.heap.size w wr ∧ zs.length + p ≤ j ∧ j ≤ zs.length + p ∧ Hid (zr = zs ++ digAsc (lastZ zs) (l.drop j))) (fun i _ _ => s.size - (intOf i).toNat)
  case atStart => exact ⟨p, [], Nat.le_refl _, hp, rfl, OwnI.nil _ _ _, Below.refl _ _, by simp, by simp, HR⟩
  case round =>
    obtain ⟨j, zs, hpj, hjs, rfl, hown, hb, hz1, hz2, HT⟩ := hrel
    obtain ⟨A, c, hv, hi, hnew⟩ := hown.ints
    subst hv
    by_cases hlt : j < s.size
    · have hlt' : j < l.length := by rw [HG.out.1]; exact hlt
      have hc0 : (s[j].toNat : Int) ≤ 255 := by have := s[j].toNat_lt; omega
      have hdg : isDig l[j] = (decide ((48 : Int) ≤ s[j].toNat) && decide ((s[j].toNat : Int) ≤ 57)) := by rw [HG.out.2 j hlt hlt']; rfl
      have hdo : digOf l[j] = (s[j].toNat : Int) - 48 := by rw [HG.out.2 j hlt hlt']; rfl
      have HD := Lib.hid (And.intro hdg hdo)
      clear hdg hdo
      by_cases h1 : (s[j].toNat : Int) < 48
      · have d0 : decide ((48 : Int) ≤ s[j].toNat) = false := decide_eq_false (by omega)
        have hno : zr = zs := by
          rw [HT.out, digAsc_no hlt' (.inl (by rw [HD.out.1, d0]; rfl)), List.append_nil]
        obtain rfl := hno
        go_wp2
        go_quiet (fail)
        go_wp2
        go_ret2
        exact ⟨_, c, ret_pair (by omega), hi.drewN _, hnew, below_drewN hb _⟩
      · have d0 : decide ((48 : Int) ≤ s[j].toNat) = true := decide_eq_true (by omega)
        by_cases h2 : (57 : Int) < s[j].toNat
        · have d1 : decide ((s[j].toNat : Int) ≤ 57) = false := decide_eq_false (by omega)
          have hno : zr = zs := by
            rw [HT.out, digAsc_no hlt' (.inl (by rw [HD.out.1, d0, d1]; rfl)), List.append_nil]
          obtain rfl := hno
          go_wp2
          go_quiet (fail)
          go_wp2
          go_ret2
          exact ⟨_, c, ret_pair (by omega), hi.drewN _, hnew, below_drewN hb _⟩
        · have d1 : decide ((s[j].toNat : Int) ≤ 57) = true := decide_eq_true (by omega)
          have hdig : isDig l[j] = true := by rw [HD.out.1, d0, d1]; rfl
          by_cases h3 : zs.length = 0
          · obtain rfl : zs = [] := List.eq_nil_of_length_eq_zero h3
            have hnx : zr = ([] ++ [(s[j].toNat : Int) - 48]) ++ digAsc (lastZ ([] ++ [(s[j].toNat : Int) - 48])) (l.drop (j + 1)) := by
              rw [lastZ_snoc, HT.out, digAsc_yes hlt' hdig (by rw [HD.out.2]; show (-1 : Int) < _; omega), HD.out.2]; rfl
            have HN := Lib.hid hnx
            have hlen0 : (([] : List Int).length : Int) = 0 := rfl
            clear hnx hdig h3
            go_wp2
            go_quiet (fail)
            go_wp2_with (at_builtin; refine wpList_pushI rfl _ _ _ rfl w.heap.size 3 Tryd.underlying24 Tryd.infoInt _ _ rfl (hown.drewN nq) _ rfl (by omega) hb.size ?_)
            intro v' w1 hown2 hb2
            have hb3 := (below_drewN hb nq).trans hb2
            go_wp2
            go_roundw
            case rel => exact ⟨j + 1, [] ++ [(s[j].toNat : Int) - 48], by omega, by omega, by go_num, hown2, hb3, by rw [List.length_append]; simp; omega, by rw [List.length_append]; simp; omega, HN⟩
            case measure => simp [intOf]; omega
          · have hpos : 0 < zs.length := by omega
            obtain ⟨b1, o1, hA, -, hc⟩ := hi.at_ (k := zs.length - 1) (by omega)
            subst hA
            have hlz : lastZ zs = zs[zs.length - 1] := lastZ_at (by rintro rfl; simp at h3)
            have HL := Lib.hid hlz
            have d2 : ((zs.length : Int) == 0) = false := by simp; intro h; subst h; simp at h3
            have hidx : ((zs.length : Int) - 1).toNat = zs.length - 1 := by omega
            clear hlz
            by_cases h4 : zs[zs.length - 1] < (s[j].toNat : Int) - 48
            · have d3 : decide (zs[zs.length - 1] < (s[j].toNat : Int) - 48) = true := decide_eq_true h4
              have hnx : zr = (zs ++ [(s[j].toNat : Int) - 48]) ++ digAsc (lastZ (zs ++ [(s[j].toNat : Int) - 48])) (l.drop (j + 1)) := by
                rw [lastZ_snoc, HT.out, digAsc_yes hlt' hdig (by rw [HD.out.2, HL.out]; exact h4), HD.out.2, List.append_assoc]; rfl
              have HN := Lib.hid hnx
              clear hnx hdig h3
              go_wp2
              go_quiet (fail)
              go_wp2_with (at_builtin; refine wpList_pushI rfl _ _ _ rfl w.heap.size 3 Tryd.underlying24 Tryd.infoInt _ _ rfl (hown.drewN nq) _ rfl (by omega) hb.size ?_)
              intro v' w1 hown2 hb2
              have hb3 := (below_drewN hb nq).trans hb2
              go_wp2
              go_roundw
              case rel => exact ⟨j + 1, zs ++ [(s[j].toNat : Int) - 48], by omega, by omega, by go_num, hown2, hb3, by rw [List.length_append]; simp; omega, by rw [List.length_append]; simp; omega, HN⟩
              case measure => simp [intOf]; omega
            · have d3 : decide (zs[zs.length - 1] < (s[j].toNat : Int) - 48) = false := decide_eq_false h4
              have hno : zr = zs := by
                rw [HT.out, digAsc_no hlt' (.inr (by rw [HD.out.2, HL.out]; exact h4)), List.append_nil]
              obtain rfl := hno
              clear hdig h3
              go_wp2
              go_quiet (fail)
              go_wp2
              go_ret2
              exact ⟨_, c, ret_pair (by omega), hi.drewN _, hnew, below_drewN hb _⟩
    · have hno : zr = zs := by
        rw [HT.out, List.drop_of_length_le (by rw [HG.out.1]; omega)]
        simp [digAsc]
      obtain rfl := hno
      obtain rfl : j = s.size := by omega
      have d0 : decide ((s.size : Int) < (s.size : Int)) = false := by simp
      have d0' : decide (s.size < s.size) = false := by simp
      go_wp2
      go_quiet (fail)
      go_wp2
      go_ret2
      exact ⟨_, c, ret_pair (by omega), hi.drewN _, hnew, below_drewN hb _⟩
end Go.Proofs.YtaofninfjdepfaaDoor
