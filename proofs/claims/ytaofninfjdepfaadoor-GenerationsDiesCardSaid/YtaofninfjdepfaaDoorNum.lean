/-
  generations.number: a number of one to three digits without a leading zero. At most 2^31 bytes.
-/
import Derived.Test.YtaofninfjdepfaaDoorDigR
namespace Go.Proofs.YtaofninfjdepfaaDoor
open Go.RowKit
set_option maxRecDepth 100000
set_option linter.unusedVariables false
set_option linter.unusedSimpArgs false

def numG (l : List UInt8) : Bool := l.all isDig && decide (1 ≤ l.length) && decide (l.length ≤ 3) && decide (l.getD 0 0 ≠ 48)
theorem all_take_snoc {l : List UInt8} {k : Nat} (hk : k < l.length) (h : (l.take k).all isDig = true) (hb : isDig l[k] = true) : (l.take (k + 1)).all isDig = true := by
  rw [List.take_succ_eq_append_getElem hk, List.all_append, h]
  simp [hb]
theorem numG_bad {l : List UInt8} {k : Nat} (hk : k < l.length) (hb : isDig l[k] = false) : numG l = false := by
  unfold numG
  have : l.all isDig = false := by
    cases h : l.all isDig
    · rfl
    · rw [List.all_eq_true] at h
      rw [h _ (List.getElem_mem hk)] at hb
      cases hb
  rw [this]; rfl
set_option maxHeartbeats 1000000 in
theorem number_any (s : ByteArray) (w : World) (hs : s.data.toList.length ≤ 2147483648) :
    Calls Tryd.prog 30 #[.string s] w fun e w' => e = .returned (.bool (numG s.data.toList)) ∧ Below w.heap.size w w' := by
  obtain ⟨cap, W, hcv, hbW, hsz, hcells⟩ := bytes_conv s w
  obtain ⟨l, hl⟩ : ∃ l, l = s.data.toList := ⟨_, rfl⟩
  have hgb : ∀ j (h : j < s.size) (h' : j < l.length), l[j] = s[j] := by subst hl; exact get_byte s
  have hlen : l.length = s.size := by rw [hl]; rfl
  rw [← hl] at hcv hcells hs ⊢
  have HG := Lib.hid (And.intro hlen hgb)
  have HC := Lib.hid hcells
  clear hcells hl hgb hlen
  go_enter Tryd.func30, Tryd.ntmps30
  go_wp2
  go_loopw [8] (fun i wr => ∃ k : Nat, k ≤ l.length ∧ i = .int .i64 k ∧ wr = W ∧ Hid ((l.take k).all isDig = true)) (fun i _ => l.length - (intOf i).toNat)
  case atStart => exact ⟨0, Nat.zero_le _, rfl, rfl, Lib.hid rfl⟩
  case round =>
    obtain ⟨k, hk, rfl, hw, HT⟩ := hrel
    have hw2 := hw.symm
    clear hw
    subst hw2
    by_cases hlt : k < l.length
    · have hc := HC.out k hlt
      have hc0 : (l[k].toNat : Int) ≤ 255 := by have := l[k].toNat_lt; omega
      cases hd : isDig l[k]
      · have hbad := Lib.hid (numG_bad hlt hd)
        by_cases h1 : (l[k].toNat : Int) < 48
        · clear hd
          go_wp2
          go_ret
          exact ⟨ret_bool hbad.out.symm, hbW⟩
        · have h2 : (57 : Int) < l[k].toNat := by
            unfold isDig at hd
            rw [decide_eq_true (by omega)] at hd
            simpa using hd
          clear hd
          go_wp2
          go_ret
          exact ⟨ret_bool hbad.out.symm, hbW⟩
      · have hall := Lib.hid (all_take_snoc hlt HT.out hd)
        obtain ⟨h1, h2⟩ : 48 ≤ (l[k].toNat : Int) ∧ (l[k].toNat : Int) ≤ 57 := by simpa [isDig] using hd
        clear hd
        go_wp2
        go_roundw
        case rel => exact ⟨k + 1, by omega, by go_num, (by first | rfl | trivial), hall⟩
        case measure => simp [intOf]; omega
    · obtain rfl : k = l.length := by omega
      have hall : l.all isDig = true := by have := HT.out; rwa [List.take_length] at this
      have HA := Lib.hid hall
      clear hall HT
      by_cases h1 : 1 ≤ s.size
      · by_cases h2 : s.size ≤ 3
        · have h0 : 0 < l.length := by rw [HG.out.1]; exact h1
          have e0 := HG.out.2 0 (by omega) h0
          have eg : l.getD 0 0 = s[0] := by rw [← e0]; simp [List.getD, h0]
          by_cases h3 : s[0] = 48
          · have d3 : ((s[0].toNat : Int) != 48) = false := by rw [h3]; rfl
            have HN : Hid (numG l = false) := Lib.hid (by unfold numG; rw [eg, h3]; simp)
            clear h3 e0 eg
            go_wp2
            go_ret
            exact ⟨ret_bool (by rw [HN.out]), hbW⟩
          · have d3 : ((s[0].toNat : Int) != 48) = true := by
              simp only [bne_iff_ne, ne_eq]
              intro h
              exact h3 (UInt8.toNat_inj.1 (by have : (48 : UInt8).toNat = 48 := rfl; omega))
            have HN : Hid (numG l = true) := Lib.hid (by
              unfold numG
              rw [eg, HA.out, decide_eq_true (show 1 ≤ l.length by omega), decide_eq_true (show l.length ≤ 3 by rw [HG.out.1]; exact h2), decide_eq_true h3]; rfl)
            clear h3 e0 eg
            go_wp2
            go_ret
            exact ⟨ret_bool (by rw [HN.out]), hbW⟩
        · have HN : Hid (numG l = false) := Lib.hid (by unfold numG; rw [decide_eq_false (show ¬ l.length ≤ 3 by rw [HG.out.1]; exact h2)]; simp)
          go_wp2
          go_ret
          exact ⟨ret_bool (by rw [HN.out]), hbW⟩
      · have HN : Hid (numG l = false) := Lib.hid (by unfold numG; rw [decide_eq_false (show ¬ 1 ≤ l.length by rw [HG.out.1]; exact h1)]; simp)
        go_wp2
        go_ret
        exact ⟨ret_bool (by rw [HN.out]), hbW⟩
end Go.Proofs.YtaofninfjdepfaaDoor
