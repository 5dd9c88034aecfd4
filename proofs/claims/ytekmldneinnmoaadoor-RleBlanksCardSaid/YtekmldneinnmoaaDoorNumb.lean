/-
  rle.number. At most nine digits wanted.
-/
import Derived.Test.YtekmldneinnmoaaDoorPrs
import Derived.Laws.Externs
namespace Go.Proofs.YtekmldneinnmoaaDoor
open Go.RowKit
set_option maxRecDepth 100000
set_option linter.unusedVariables false
set_option linter.unusedSimpArgs false

/-- what []byte(s) makes -/
theorem bytes_conv (s : ByteArray) (w : World) : ∃ cap W, (convert 9 48 (.string s)).run Tryd.prog w = .ok (.slice (some ⟨w.heap.size, 0, none⟩) s.data.toList.length cap) W ∧ Below w.heap.size w W ∧ w.heap.size < W.heap.size ∧
    ∀ i (h : i < s.data.toList.length), W.cell? ⟨w.heap.size, i, none⟩ = some (.int .u8 s.data.toList[i].toNat) := by
  have hr := run_bytes_of_string (P := Tryd.prog) w 9 48 5 s Tryd.underlying9 Tryd.underlying48 Tryd.underlying5
  refine ⟨_, _, hr, ?_, ?_, ?_⟩
  · exact ((Below.refl w.heap.size w).drew).alloc (Nat.le_refl _) _
  · simp
  · intro i h
    have hl : i < s.size := by simpa using h
    have hc := cell_of_row (w.drew.alloc (.cells (bytesRow s (grownCap w s.size 0 5)) 5 ((bytesRow s (grownCap w s.size 0 5)).size, (bytesRow s (grownCap w s.size 0 5)).size + 1))) w.heap.size i _ _ _ (heap_alloc_new w.drew _)
    rw [hc]
    unfold bytesRow
    rw [Array.getElem?_append_left (by simpa using hl)]
    have hl2 : i < s.data.size := hl
    rw [Array.getElem?_map, Array.getElem?_eq_getElem hl2]
    simp
theorem numT_bad {d : Nat} {l : List UInt8} (h : okN d l = false) : numT d l = (0, false) := by unfold numT; rw [if_neg (by rw [h]; simp)]
theorem numT_not {d : Nat} {l : List UInt8} {k : Nat} (hk : k < l.length) (h : isDig l[k] = false) : numT d l = (0, false) := by
  unfold numT
  rw [if_neg]
  rintro ⟨-, h2⟩
  rw [List.all_eq_true] at h2
  rw [h2 _ (List.getElem_mem hk)] at h
  cases h
theorem okN_nil (d : Nat) : okN d [] = false := by unfold okN; simp
theorem okN_long {d : Nat} {l : List UInt8} (h : d < l.length) : okN d l = false := by
  unfold okN
  rw [decide_eq_false (p := l.length ≤ d) (by omega)]
  simp
theorem okN_zero {d : Nat} {l : List UInt8} (h : 1 < l.length) (h2 : l.headD 0 = 48) : okN d l = false := by
  unfold okN
  rw [decide_eq_true h, h2]
  simp
theorem okN_yes {d : Nat} {l : List UInt8} (h0 : 0 < l.length) (h1 : l.length ≤ d) (h2 : ¬ (1 < l.length ∧ l.headD 0 = 48)) : okN d l = true := by
  unfold okN
  have h3 : l ≠ [] := by rintro rfl; simp at h0
  rw [decide_eq_true h3, decide_eq_true h1]
  simp only [Bool.true_and, Bool.not_eq_true', Bool.and_eq_false_imp, decide_eq_true_eq, beq_eq_false_iff_ne, ne_eq]
  exact fun h4 h5 => h2 ⟨h4, h5⟩
theorem headD_get {l : List UInt8} (h : 0 < l.length) : l.headD 0 = l[0] := by
  cases l with
  | nil => simp at h
  | cons a l => rfl
set_option maxHeartbeats 2000000 in
theorem number_any (s : ByteArray) (d : Nat) (w : World) (hd : d ≤ 9) (hs : s.size ≤ 2147483648) :
    Calls Tryd.prog 51 #[.string s, .int .i64 d] w fun e w' => e = .returned (.tuple #[.int .i64 (numT d s.data.toList).1, .bool (numT d s.data.toList).2]) ∧ Below w.heap.size w w' := by
  obtain ⟨l, hl⟩ : ∃ l, l = s.data.toList := ⟨_, rfl⟩
  have hgb : ∀ j (h : j < s.size) (h' : j < l.length), l[j] = s[j] := by subst hl; exact get_byte s
  have hlen : l.length = s.size := by rw [hl]; rfl
  have HL := Lib.hid hl
  rw [← hl]
  have HG := Lib.hid (And.intro hlen hgb)
  obtain ⟨cap, W, hcv, hbW, hsz, hcells⟩ := bytes_conv s w
  rw [← hl] at hcv hcells
  have HC := Lib.hid hcells
  clear hl hgb hlen hcells
  by_cases h0 : s.size = 0
  · have hl0 := List.eq_nil_of_length_eq_zero (HG.out.1.trans h0)
    have HN : Hid (numT d l = (0, false)) := Lib.hid (numT_bad (by rw [hl0]; exact okN_nil d))
    have d0 : s.toList.isEmpty = true := by rw [ByteArray.toList_eq, ← HL.out, hl0]; rfl
    clear hl0 h0
    go_enter Tryd.func51, Tryd.ntmps51
    go_wp2
    go_ret2
    rw [HN.out]
    exact ⟨rfl, Below.refl _ _⟩
  have d0 : s.toList.isEmpty = false := by
    rw [ByteArray.toList_eq, ← HL.out]
    cases hl : l with
    | nil => exfalso; apply h0; rw [← HG.out.1, hl]; rfl
    | cons a l => rfl
  by_cases h1 : d < s.size
  · have HN : Hid (numT d l = (0, false)) := Lib.hid (numT_bad (okN_long (by rw [HG.out.1]; exact h1)))
    have d1 : decide ((d : Int) < (s.size : Int)) = true := decide_eq_true (by omega)
    go_enter Tryd.func51, Tryd.ntmps51
    go_wp2
    go_ret2
    rw [HN.out]
    exact ⟨rfl, Below.refl _ _⟩
  have d1 : decide ((d : Int) < (s.size : Int)) = false := decide_eq_false (by omega)
  have h00 : 0 < s.size := by omega
  have h0l : 0 < l.length := by rw [HG.out.1]; exact h00
  have e0 : l.headD 0 = s[0] := by rw [headD_get h0l]; exact HG.out.2 0 h00 h0l
  have LOOP : Hid (okN d l = true) → Calls Tryd.prog 51 #[.string s, .int .i64 d] w fun e w' => e = .returned (.tuple #[.int .i64 (numT d l).1, .bool (numT d l).2]) ∧ Below w.heap.size w w' := by
    intro HOK
    have HB0 : Hid (¬ (1 < s.size ∧ s[0] = 48)) := Lib.hid (by
      rintro ⟨h2, h3⟩
      have := HOK.out
      rw [okN_zero (by rw [HG.out.1]; exact h2) (by rw [e0]; exact h3)] at this
      cases this)
    by_cases h2 : 1 < s.size
    · have h3 : ¬ s[0] = 48 := fun h => HB0.out ⟨h2, h⟩
      have e3 : ((s[0].toNat : Int) == 48) = false := by
        simp only [beq_eq_false_iff_ne, ne_eq]
        intro h
        exact h3 (UInt8.toNat_inj.1 (by have : (48 : UInt8).toNat = 48 := rfl; omega))
      have d2 : decide ((1 : Int) < (s.size : Int)) = true := decide_eq_true (by omega)
      clear h3
      go_enter Tryd.func51, Tryd.ntmps51
      go_wp2
      go_loopw [6, 8, 30] (fun n _ i wr => ∃ k : Nat, k ≤ l.length ∧ i = .int .i64 k ∧ n = .int .i64 (numL (l.take k)) ∧ wr = W ∧ Hid (∀ c ∈ l.take k, isDig c = true)) (fun _ _ i _ => l.length - (intOf i).toNat)
      case atStart => exact ⟨0, Nat.zero_le _, rfl, rfl, rfl, Lib.hid (fun c h => by cases h)⟩
      case round =>
        obtain ⟨k, hk, rfl, rfl, hw, HT⟩ := hrel
        have hw2 := hw.symm
        clear hw
        subst hw2
        have hl9 : l.length ≤ 9 := by rw [HG.out.1]; omega
        have hnb := numL_bd9 HT.out (by rw [List.length_take]; omega)
        by_cases hlt : k < l.length
        · have hc := HC.out k hlt
          have hc0 : (l[k].toNat : Int) ≤ 255 := by have := l[k].toNat_lt; omega
          have hdg : isDig l[k] = (decide ((48 : Int) ≤ l[k].toNat) && decide ((l[k].toNat : Int) ≤ 57)) := rfl
          have hdo : digOf l[k] = (l[k].toNat : Int) - 48 := rfl
          have HD := Lib.hid (And.intro hdg hdo)
          have HTK : Hid (numL (l.take (k + 1)) = 10 * numL (l.take k) + digOf l[k]) := Lib.hid (by rw [List.take_succ_eq_append_getElem hlt, numL_snoc])
          have HAK : Hid (isDig l[k] = true → ∀ c ∈ l.take (k + 1), isDig c = true) := Lib.hid (fun h c hc => by
            rw [List.take_succ_eq_append_getElem hlt, List.mem_append, List.mem_singleton] at hc
            rcases hc with hc | rfl
            · exact HT.out c hc
            · exact h)
          have HNO : Hid (isDig l[k] = false → numT d l = (0, false)) := Lib.hid (fun h => numT_not hlt h)
          clear hdg hdo
          obtain ⟨m, hm⟩ : ∃ m, m = numL (l.take k) := ⟨_, rfl⟩
          rw [← hm] at hnb HTK
          rw [← hm]
          clear hm
          obtain ⟨b, hb⟩ : ∃ b, b = l[k] := ⟨_, rfl⟩
          rw [← hb] at hc hc0 HD HTK HAK HNO
          clear hb
          by_cases h4 : (b.toNat : Int) < 48
          · have HN := Lib.hid (HNO.out (by rw [HD.out.1, decide_eq_false (by omega)]; rfl))
            go_wp2
            go_ret2
            rw [HN.out]
            exact ⟨rfl, hbW⟩
          · by_cases h5 : (57 : Int) < b.toNat
            · have HN := Lib.hid (HNO.out (by rw [HD.out.1, decide_eq_false (p := (b.toNat : Int) ≤ 57) (by omega), Bool.and_false]))
              go_wp2
              go_ret2
              rw [HN.out]
              exact ⟨rfl, hbW⟩
            · have HN := Lib.hid (HAK.out (by rw [HD.out.1, decide_eq_true (by omega), decide_eq_true (by omega)]; rfl))
              have HV : Hid (numL (l.take (k + 1)) = 10 * m + ((b.toNat : Int) - 48)) := Lib.hid (by rw [HTK.out, HD.out.2])
              go_wp2
              go_roundw
              case rel => exact ⟨k + 1, by omega, by go_num, by rw [HV.out], (by first | rfl | trivial), HN⟩
              case measure => simp [intOf]; omega
        · have hke : k = l.length := by omega
          subst hke
          have HN : Hid (numT d l = (numL (l.take l.length), true)) := Lib.hid (by
            unfold numT
            rw [if_pos ⟨HOK.out, by rw [List.all_eq_true]; have := HT.out; rwa [List.take_length] at this⟩, List.take_length])
          go_wp2
          go_ret2
          rw [HN.out]
          exact ⟨rfl, hbW⟩
    · have d2 : decide ((1 : Int) < (s.size : Int)) = false := decide_eq_false (by omega)
      go_enter Tryd.func51, Tryd.ntmps51
      go_wp2
      go_loopw [6, 8, 30] (fun n _ i wr => ∃ k : Nat, k ≤ l.length ∧ i = .int .i64 k ∧ n = .int .i64 (numL (l.take k)) ∧ wr = W ∧ Hid (∀ c ∈ l.take k, isDig c = true)) (fun _ _ i _ => l.length - (intOf i).toNat)
      case atStart => exact ⟨0, Nat.zero_le _, rfl, rfl, rfl, Lib.hid (fun c h => by cases h)⟩
      case round =>
        obtain ⟨k, hk, rfl, rfl, hw, HT⟩ := hrel
        have hw2 := hw.symm
        clear hw
        subst hw2
        have hl9 : l.length ≤ 9 := by rw [HG.out.1]; omega
        have hnb := numL_bd9 HT.out (by rw [List.length_take]; omega)
        by_cases hlt : k < l.length
        · have hc := HC.out k hlt
          have hc0 : (l[k].toNat : Int) ≤ 255 := by have := l[k].toNat_lt; omega
          have hdg : isDig l[k] = (decide ((48 : Int) ≤ l[k].toNat) && decide ((l[k].toNat : Int) ≤ 57)) := rfl
          have hdo : digOf l[k] = (l[k].toNat : Int) - 48 := rfl
          have HD := Lib.hid (And.intro hdg hdo)
          have HTK : Hid (numL (l.take (k + 1)) = 10 * numL (l.take k) + digOf l[k]) := Lib.hid (by rw [List.take_succ_eq_append_getElem hlt, numL_snoc])
          have HAK : Hid (isDig l[k] = true → ∀ c ∈ l.take (k + 1), isDig c = true) := Lib.hid (fun h c hc => by
            rw [List.take_succ_eq_append_getElem hlt, List.mem_append, List.mem_singleton] at hc
            rcases hc with hc | rfl
            · exact HT.out c hc
            · exact h)
          have HNO : Hid (isDig l[k] = false → numT d l = (0, false)) := Lib.hid (fun h => numT_not hlt h)
          clear hdg hdo
          obtain ⟨m, hm⟩ : ∃ m, m = numL (l.take k) := ⟨_, rfl⟩
          rw [← hm] at hnb HTK
          rw [← hm]
          clear hm
          obtain ⟨b, hb⟩ : ∃ b, b = l[k] := ⟨_, rfl⟩
          rw [← hb] at hc hc0 HD HTK HAK HNO
          clear hb
          by_cases h4 : (b.toNat : Int) < 48
          · have HN := Lib.hid (HNO.out (by rw [HD.out.1, decide_eq_false (by omega)]; rfl))
            go_wp2
            go_ret2
            rw [HN.out]
            exact ⟨rfl, hbW⟩
          · by_cases h5 : (57 : Int) < b.toNat
            · have HN := Lib.hid (HNO.out (by rw [HD.out.1, decide_eq_false (p := (b.toNat : Int) ≤ 57) (by omega), Bool.and_false]))
              go_wp2
              go_ret2
              rw [HN.out]
              exact ⟨rfl, hbW⟩
            · have HN := Lib.hid (HAK.out (by rw [HD.out.1, decide_eq_true (by omega), decide_eq_true (by omega)]; rfl))
              have HV : Hid (numL (l.take (k + 1)) = 10 * m + ((b.toNat : Int) - 48)) := Lib.hid (by rw [HTK.out, HD.out.2])
              go_wp2
              go_roundw
              case rel => exact ⟨k + 1, by omega, by go_num, by rw [HV.out], (by first | rfl | trivial), HN⟩
              case measure => simp [intOf]; omega
        · have hke : k = l.length := by omega
          subst hke
          have HN : Hid (numT d l = (numL (l.take l.length), true)) := Lib.hid (by
            unfold numT
            rw [if_pos ⟨HOK.out, by rw [List.all_eq_true]; have := HT.out; rwa [List.take_length] at this⟩, List.take_length])
          go_wp2
          go_ret2
          rw [HN.out]
          exact ⟨rfl, hbW⟩
  by_cases h2 : 1 < s.size
  · by_cases h3 : s[0] = 48
    · have HN : Hid (numT d l = (0, false)) := Lib.hid (numT_bad (okN_zero (by rw [HG.out.1]; exact h2) (by rw [e0]; exact h3)))
      have e3 : ((s[0].toNat : Int) == 48) = true := by rw [h3]; rfl
      have d2 : decide ((1 : Int) < (s.size : Int)) = true := decide_eq_true (by omega)
      clear h3 e0 LOOP
      go_enter Tryd.func51, Tryd.ntmps51
      go_wp2
      go_ret2
      rw [HN.out]
      exact ⟨rfl, Below.refl _ _⟩
    · exact LOOP (Lib.hid (okN_yes h0l (by rw [HG.out.1]; omega) (by rw [e0]; exact fun h => h3 h.2)))
  · exact LOOP (Lib.hid (okN_yes h0l (by rw [HG.out.1]; omega) (by rw [HG.out.1]; exact fun h => h2 h.1)))
end Go.Proofs.YtekmldneinnmoaaDoor
