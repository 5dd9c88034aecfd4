/-
  cellularlaw31.PlaintextLimits: the walk. No condition.
-/
import Derived.Test.YtblfeaapjloppaaDoorLim
import Derived.Test.YtblfeaapjloppaaDoorAwake
namespace Go.Proofs.YtblfeaapjloppaaDoor
open Go.RowKit
set_option maxRecDepth 100000
set_option linter.unusedVariables false
set_option linter.unusedSimpArgs false

theorem rem_bd {m : Int} (h0 : 0 ≤ m) (h1 : m ≤ 255) : ∃ k : Nat, k ≤ 4 ∧ m.tmod 5 = (k : Int) := by
  have e : m.tmod 5 = m % 5 := by rw [Int.tmod_eq_emod_of_nonneg h0]
  exact ⟨(m % 5).toNat, by omega, by omega⟩
theorem row_snoc (m : Nat) (c : UInt8) : (⟨(List.replicate m c).toArray⟩ ++ ⟨#[c]⟩ : ByteArray) = ⟨(List.replicate (m + 1) c).toArray⟩ := by
  rw [show (⟨#[c]⟩ : ByteArray) = ⟨([c] : List UInt8).toArray⟩ from rfl, bytes_app, List.replicate_succ']
theorem text_snoc (q : Nat) (c : UInt8) : (⟨(Lib.repeatL (List.replicate 128 c ++ [10]) q).toArray⟩ ++ ⟨(List.replicate 128 c).toArray⟩ ++ ⟨#[10]⟩ : ByteArray) = ⟨(Lib.repeatL (List.replicate 128 c ++ [10]) (q + 1)).toArray⟩ := by
  rw [show (⟨#[10]⟩ : ByteArray) = ⟨([10] : List UInt8).toArray⟩ from rfl, bytes_app, bytes_app, Lib.repeatL_add, Lib.repeatL_one, List.append_assoc]
theorem row_cut {n k : Nat} (hk : k ≤ n) (c : UInt8) : (⟨(List.replicate n c).toArray⟩ : ByteArray).extract 0 k = ⟨(List.replicate k c).toArray⟩ := by
  rw [Lib.extract_eq, show (⟨(List.replicate n c).toArray⟩ : ByteArray).data.toList = List.replicate n c from rfl, List.drop_zero, Nat.sub_zero, List.take_replicate, Nat.min_eq_left hk]
theorem text_last (k : Nat) (c : UInt8) : (⟨(Lib.repeatL (List.replicate 128 c ++ [10]) 39).toArray⟩ ++ ⟨(List.replicate (6 + k) c).toArray⟩ : ByteArray) = ⟨(limL c k).toArray⟩ := by
  rw [bytes_app]
  rfl
theorem rep_len (q : Nat) (c : UInt8) : (Lib.repeatL (List.replicate 128 c ++ [10]) q).length = q * 129 := by
  rw [Lib.repeatL_length, List.length_append, List.length_replicate]
  rfl
theorem wr_s {a : Int} (h : -100000 ≤ a ∧ a ≤ 100000) : wrap64 a = a := by unfold wrap64; omega
theorem ms_128 {n : Nat} (h : n + 128 ≤ 5000) : 5000 - (intOf (.int .i64 ((n : Int) + 128))).toNat < 5000 - (intOf (.int .i64 (n : Int))).toNat := by
  simp [intOf]
  omega
theorem lk_a {k : Nat} (h : k ≤ 4) : wrap64 (65532 + (k : Int)) = 65532 + (k : Int) := by unfold wrap64; omega
theorem lk_b {k : Nat} (h : k ≤ 4) : wrap64 (65533 + (k : Int)) = 65533 + (k : Int) := by unfold wrap64; omega
theorem lk_c {k : Nat} (h : k ≤ 4) : wrap64 (65534 + (k : Int)) = 65534 + (k : Int) := by unfold wrap64; omega
theorem lk_d {k : Nat} (h : k ≤ 4) : wrap64 (4998 + (k : Int)) = 4998 + (k : Int) := by unfold wrap64; omega
theorem lk_e {k : Nat} (h : k ≤ 4) : wrap64 (6 + (k : Int)) = ((6 + k : Nat) : Int) := by unfold wrap64; omega
theorem lk_f (k : Nat) : ((0 : Int) == 4998 + (k : Int)) = false := by simp; omega
theorem lk_g {k n : Nat} (h : n = 4998 + k) : (n : Int) = 4998 + (k : Int) := by omega
theorem lk_h {k n : Nat} (h : (n : Int) = 65532 + (k : Int) + 2) : (n : Int) = 65534 + (k : Int) := by omega
theorem lk_i {k n : Nat} (h : n = 4998 + k) (h2 : 2 < k) : 5000 < n := by omega
theorem lk_j {k n : Nat} (h : n = 4998 + k) (h2 : ¬ 2 < k) : ¬ 5000 < n := by omega
theorem lk_k {n : Nat} (h : n = 0) : ¬ 5000 < n := by omega
theorem lk_l {k : Nat} (h2 : 2 < k) : 65536 < 65532 + (k : Int) + 2 := by omega
theorem lk_m {k : Nat} (h2 : ¬ 2 < k) : ¬ 65536 < 65532 + (k : Int) + 2 := by omega
theorem lk_n {k : Nat} (h2 : 2 < k) : (2 : Int) < (k : Int) := by omega
theorem lk_o {k : Nat} (h2 : 2 < k) : ¬ (k : Int) ≤ 2 := by omega
theorem lk_p {k : Nat} (h2 : ¬ 2 < k) : ¬ (2 : Int) < (k : Int) := by omega
theorem lk_q {k : Nat} (h2 : ¬ 2 < k) : (k : Int) ≤ 2 := by omega
theorem lk_r {k : Nat} (h : k ≤ 4) : ¬ 9223372036854775807 < 5031 + (6 + k) := by omega
theorem lk_s {k : Nat} (h : k ≤ 4) : ¬ 9223372036854775807 < 39 * 129 + (6 + k) := by omega
theorem lk_t {k : Nat} (h : k ≤ 4) : 6 + k ≤ 128 := by omega
def strLen : Value → Nat
  | .string s => s.size
  | _ => 0
theorem strLen_of (l : List UInt8) : strLen (.string ⟨l.toArray⟩) = l.length := rfl
set_option maxHeartbeats 8000000 in
theorem lawL_true (m : Int) (w : World) (h0 : 0 ≤ m) (h1 : m ≤ 255) :
    Calls Tryd.prog 5 #[.int .u8 m, .bool true] w fun e w' => e = .returned (.bool true) ∧ Below w.heap.size w w' := by
  obtain ⟨k, hk, hrem⟩ := rem_bd h0 h1
  obtain ⟨c, hc⟩ : ∃ c : UInt8, c = 51 := ⟨_, rfl⟩
  have HC := Lib.hid hc
  have HK := Lib.hid hk
  have hwk : wrap64 (k : Int) = (k : Int) := by unfold wrap64; omega
  obtain ⟨o, ho, HR0⟩ := lim_read (c := c) (by rw [hc]; decide) (by rw [hc]; decide) (by rw [hc]; decide) k
  have hol : o.length = 4998 + k := by rw [ho, hc]; rw [show cntC 51 128 = 128 from rfl, show cntC 51 (6 + k) = 6 + k from rfl]; omega
  have HOL := Lib.hid hol
  have HPS : Hid (∀ W, Calls Tryd.prog 9 #[.string ⟨(limL c k).toArray⟩] W (RetRead (if 5000 < o.length then ([], 6) else (o, 0)) W)) := Lib.hid (fun W => by
    have h := parse_any ⟨(limL c k).toArray⟩ W (by show (limL c k).length ≤ _; rw [lim_len]; omega)
    rw [show (⟨(limL c k).toArray⟩ : ByteArray).data.toList = limL c k from rfl, HR0] at h
    exact h)
  obtain ⟨t1, ht1, ht2⟩ := far_text (x := 65532 + (k : Int)) (by omega) (by omega)
  obtain ⟨d1, hd1, hd2⟩ := far_draw (x := 65532 + (k : Int)) (by omega) (by omega)
  obtain ⟨X, hX⟩ : ∃ X : Int, X = 65532 + (k : Int) := ⟨_, rfl⟩
  obtain ⟨V, hV⟩ : ∃ V : Int, V = 65533 + (k : Int) := ⟨_, rfl⟩
  obtain ⟨Y, hY⟩ : ∃ Y : Int, Y = 65534 + (k : Int) := ⟨_, rfl⟩
  obtain ⟨Z, hZ⟩ : ∃ Z : Int, Z = 4998 + (k : Int) := ⟨_, rfl⟩
  have hwa : wrap64 (65532 + (k : Int)) = X := by rw [hX]; exact lk_a hk
  have hwb : wrap64 (65533 + (k : Int)) = V := by rw [hV]; exact lk_b hk
  have hwc : wrap64 (65534 + (k : Int)) = Y := by rw [hY]; exact lk_c hk
  have hwd : wrap64 (4998 + (k : Int)) = Z := by rw [hZ]; exact lk_d hk
  have ht1' : (t1.length : Int) = Y := by rw [hY]; exact lk_h ht1
  have hd1' : (d1.length : Int) = Y := by rw [hY]; exact lk_h hd1
  have hZ0 : ((0 : Int) == Z) = false := by rw [hZ]; exact lk_f k
  have HZ := Lib.hid hZ
  have HT1 := Lib.hid (And.intro ht1' (And.intro hd1' hZ0))
  have HTX : Hid (∀ W : World, Calls Tryd.prog 12 #[.slice (some ⟨W.heap.size, 0, none⟩) 1 1] (W.alloc (.cells #[.int .i64 X, .int .i64 0, .int .i64 1] 34)) fun e w' => (RetText (if 65536 < 65532 + (k : Int) + 2 then ([], 6) else (t1, 0)) (W.alloc (.cells #[.int .i64 X, .int .i64 0, .int .i64 1] 34))) e w') := Lib.hid (fun W => by
    rw [hX]
    have h := text_any (some ⟨W.heap.size, 0, none⟩) 1 [⟨65532 + (k : Int), 0, 1⟩] _ (cls_new W [⟨65532 + (k : Int), 0, 1⟩] (by simp))
    rw [ht2] at h
    exact h)
  have HDX : Hid (∀ (W : World) A a, Cls W A [⟨X, 0, 1⟩] → Calls Tryd.prog 14 #[.slice A 1 a, .agg #[.int .i64 0, .int .i64 0, .int .i64 V, .int .i64 1]] W (RetText (if 65536 < 65532 + (k : Int) + 2 then ([], 6) else (d1, 0)) W)) := Lib.hid (fun W A a hcl => by
    rw [hX] at hcl
    have h := draw_any A a [⟨65532 + (k : Int), 0, 1⟩] ⟨0, 0, 65533 + (k : Int), 1⟩ W hcl
    rw [hV]
    rw [show (65533 + (k : Int)) = 65532 + (k : Int) + 1 by omega] at h ⊢
    rw [hd2] at h
    exact h)
  have HWS := Lib.hid (And.intro hwa (And.intro hwb (And.intro hwc hwd)))
  clear hX hV hY hZ hwa hwb hwc hwd ht1' hd1' hZ0
  clear hc hol ho HR0 ht1 ht2 hd1 hd2 h0 h1
  go_enter Tryd.func5, Tryd.ntmps5
  go_wp2
  go_loopw [6] (fun r wr => ∃ (n : Nat) (L : List UInt8), n ≤ 128 ∧ r = .string ⟨L.toArray⟩ ∧ Hid (L = List.replicate n c) ∧ L.length = n ∧ wr = w) (fun r _ => 128 - strLen r)
  case atStart => exact ⟨0, [], by omega, rfl, Lib.hid rfl, rfl, rfl⟩
  case round =>
    obtain ⟨n, L, hn, rfl, HL, hLn, rfl⟩ := hrel
    by_cases hlt : n < 128
    · have dn : decide ((n : Int) < 128) = true := decide_eq_true (by omega)
      have hle : ¬ 9223372036854775807 < n + 1 := by omega
      go_wp2
      go_roundw
      case rel => exact ⟨n + 1, L ++ [c], hlt, (by rw [← bytes_app, HC.out]), Lib.hid (by rw [HL.out, List.replicate_succ']), (by rw [List.length_append, hLn]; rfl), (by first | rfl | trivial)⟩
      case measure =>
        rw [show (⟨L.toArray⟩ ++ ⟨#[51]⟩ : ByteArray) = ⟨(L ++ [51]).toArray⟩ from bytes_app L [51], strLen_of, strLen_of, List.length_append, hLn]
        simp
        omega
    · obtain rfl : n = 128 := by omega
      clear hn hlt
      go_wp2
      obtain ⟨wq, rfl⟩ : ∃ wq : World, wq = wr := ⟨_, rfl⟩
      go_loopw [7, 8] (fun s n wr => ∃ (q nn : Nat) (M : List UInt8), q ≤ 39 ∧ s = .string ⟨M.toArray⟩ ∧ n = .int .i64 nn ∧ Hid (nn = 128 * q) ∧ Hid (M = Lib.repeatL (List.replicate 128 c ++ [10]) q) ∧ M.length = q * 129 ∧ wr = wq) (fun _ n _ => 5000 - (intOf n).toNat)
      case atStart => exact ⟨0, 0, [], by omega, rfl, rfl, Lib.hid rfl, Lib.hid rfl, rfl, rfl⟩
      case round =>
        obtain ⟨q, nn, M, hq, rfl, rfl, HNN, HM, hMl, rfl⟩ := hrel
        have hw1 : wrap64 ((nn : Int) + 128) = (nn : Int) + 128 := by have := HNN.out; unfold wrap64; omega
        by_cases hqt : q < 39
        · have dq : decide ((nn : Int) + 128 ≤ 5000) = true := decide_eq_true (by have := HNN.out; omega)
          have hle1 : ¬ 9223372036854775807 < q * 129 + 128 := by omega
          have hle2 : ¬ 9223372036854775807 < q * 129 + 128 + 1 := by omega
          go_wp2
          go_roundw
          case rel => exact ⟨q + 1, nn + 128, M ++ L ++ [10], hqt, (by rw [← bytes_app, ← bytes_app]), (by rw [hw1]; rfl), Lib.hid (by have := HNN.out; omega), Lib.hid (by rw [HM.out, HL.out, Lib.repeatL_add, Lib.repeatL_one, List.append_assoc]), (by rw [List.length_append, List.length_append, hMl, hLn, List.length_singleton, Nat.succ_mul]), (by first | rfl | trivial)⟩
          case measure => rw [hw1]; exact ms_128 (by have := HNN.out; omega)
        · obtain rfl : q = 39 := by omega
          have hnn : nn = 4992 := HNN.out
          subst hnn
          clear hq hqt HNN hw1
          have hw2 : wrap64 (6 + (k : Int)) = ((6 + k : Nat) : Int) := lk_e HK.out
          obtain ⟨R0, hR0⟩ : ∃ R0 : List UInt8, R0 = List.replicate (6 + k) c := ⟨_, rfl⟩
          have hcut : (⟨L.toArray⟩ : ByteArray).extract 0 (6 + k) = ⟨R0.toArray⟩ := by rw [HL.out, hR0]; exact row_cut (lk_t HK.out) c
          have hRl : R0.length = 6 + k := by rw [hR0, List.length_replicate]
          have HTT : Hid (⟨M.toArray⟩ ++ ⟨R0.toArray⟩ = (⟨(limL c k).toArray⟩ : ByteArray)) := Lib.hid (by rw [HM.out, hR0, text_last])
          have hle3 : ¬ 9223372036854775807 < 5031 + (6 + k) := lk_r HK.out
          have hle4 : ¬ 9223372036854775807 < 39 * 129 + (6 + k) := lk_s HK.out
          clear hR0
          go_upto_region 12 with fail
          rw [HTT.out]
          clear hcut hRl hle3 hle4 hw2
          obtain ⟨T, hT⟩ : ∃ T, T = limL c k := ⟨_, rfl⟩
          rw [← hT] at HPS ⊢
          clear hT HTT
          by_cases hkk : 2 < k
          · have d2 : decide ((2 : Int) < (k : Int)) = true := decide_eq_true (lk_n hkk)
            have d3 : decide ((k : Int) ≤ 2) = false := decide_eq_false (lk_o hkk)
            have HP1 : Hid (∀ W, Calls Tryd.prog 9 #[.string ⟨T.toArray⟩] W (RetRead ([], 6) W)) := Lib.hid (fun W => by
              have h := HPS.out W
              rw [if_pos (lk_i HOL.out hkk)] at h
              exact h)
            have HT2 : Hid (∀ W : World, Calls Tryd.prog 12 #[.slice (some ⟨W.heap.size, 0, none⟩) 1 1] (W.alloc (.cells #[.int .i64 X, .int .i64 0, .int .i64 1] 34)) fun e w' => (RetText ([], 6) (W.alloc (.cells #[.int .i64 X, .int .i64 0, .int .i64 1] 34))) e w') := Lib.hid (fun W => by
              have h := HTX.out W
              rw [if_pos (lk_l hkk)] at h
              exact h)
            have HD2 : Hid (∀ (W : World) A a, Cls W A [⟨X, 0, 1⟩] → Calls Tryd.prog 14 #[.slice A 1 a, .agg #[.int .i64 0, .int .i64 0, .int .i64 V, .int .i64 1]] W (RetText ([], 6) W)) := Lib.hid (fun W A a hcl => by
              have h := HDX.out W A a hcl
              rw [if_pos (lk_l hkk)] at h
              exact h)
            have ht1 := HT1.out.1
            have hd1 := HT1.out.2.1
            obtain ⟨hwa, hwb, hwc, hwd⟩ := HWS.out
            have hne := HT1.out.2.2
            clear hkk hk
            unfold RetRead at HP1
            unfold RetText at HT2 HD2
            dsimp only at HP1 HT2 HD2
            go_wp2_with fail
            refine (HP1.out _).mono ?_
            rintro e w1 ⟨A1, a1, rfl, -, hb1⟩
            have HB1 := Lib.hid hb1
            clear hb1
            have hcl := cls_new w1 [⟨X, 0, 1⟩] (by simp)
            have hnb := below_new w1 (.cells (([⟨X, 0, 1⟩] : List Cel).flatMap celCells).toArray 34)
            have HCL := Lib.hid hcl
            have HNB := Lib.hid (HB1.out.trans (hnb.mono HB1.out.size))
            clear hcl hnb
            have E1 := Lib.hid (HT2.out w1)
            go_wp2_with fail
            refine E1.out.mono ?_
            rintro e w2 ⟨rfl, hb2⟩
            have HB2 := Lib.hid (HNB.out.trans (hb2.mono HNB.out.size))
            have HC2 := Lib.hid (HCL.out.ext hb2)
            clear hb2
            have E2 := Lib.hid (HD2.out w2 _ 1 HC2.out)
            go_wp2_with fail
            refine E2.out.mono ?_
            rintro e w3 ⟨rfl, hb3⟩
            have HB3 := Lib.hid (HB2.out.trans (hb3.mono HB2.out.size))
            clear hb3
            have HA := Lib.hid (awake_any w3)
            go_wp2_with fail
            refine HA.out.mono ?_
            rintro e w4 ⟨rfl, hb4⟩
            have HB4 := Lib.hid (HB3.out.trans (hb4.mono HB3.out.size))
            clear hb4
            go_wp2
            go_ret
            exact ⟨rfl, HB4.out⟩
          · have d2 : decide ((2 : Int) < (k : Int)) = false := decide_eq_false (lk_p hkk)
            have d3 : decide ((k : Int) ≤ 2) = true := decide_eq_true (lk_q hkk)
            have HP1 : Hid (∀ W, Calls Tryd.prog 9 #[.string ⟨T.toArray⟩] W (RetRead (o, 0) W)) := Lib.hid (fun W => by
              have h := HPS.out W
              rw [if_neg (lk_j HOL.out hkk)] at h
              exact h)
            have HT2 : Hid (∀ W : World, Calls Tryd.prog 12 #[.slice (some ⟨W.heap.size, 0, none⟩) 1 1] (W.alloc (.cells #[.int .i64 X, .int .i64 0, .int .i64 1] 34)) fun e w' => (RetText (t1, 0) (W.alloc (.cells #[.int .i64 X, .int .i64 0, .int .i64 1] 34))) e w') := Lib.hid (fun W => by
              have h := HTX.out W
              rw [if_neg (lk_m hkk)] at h
              exact h)
            have HD2 : Hid (∀ (W : World) A a, Cls W A [⟨X, 0, 1⟩] → Calls Tryd.prog 14 #[.slice A 1 a, .agg #[.int .i64 0, .int .i64 0, .int .i64 V, .int .i64 1]] W (RetText (d1, 0) W)) := Lib.hid (fun W A a hcl => by
              have h := HDX.out W A a hcl
              rw [if_neg (lk_m hkk)] at h
              exact h)
            have ht1 := HT1.out.1
            have hd1 := HT1.out.2.1
            obtain ⟨hwa, hwb, hwc, hwd⟩ := HWS.out
            have hol : (o.length : Int) = Z := by rw [HZ.out]; exact lk_g HOL.out
            clear hkk hk
            unfold RetRead at HP1
            unfold RetText at HT2 HD2
            dsimp only at HP1 HT2 HD2
            go_wp2_with fail
            refine (HP1.out _).mono ?_
            rintro e w1 ⟨A1, a1, rfl, -, hb1⟩
            have HB1 := Lib.hid hb1
            clear hb1
            have hcl := cls_new w1 [⟨X, 0, 1⟩] (by simp)
            have hnb := below_new w1 (.cells (([⟨X, 0, 1⟩] : List Cel).flatMap celCells).toArray 34)
            have HCL := Lib.hid hcl
            have HNB := Lib.hid (HB1.out.trans (hnb.mono HB1.out.size))
            clear hcl hnb
            have E1 := Lib.hid (HT2.out w1)
            go_wp2_with fail
            refine E1.out.mono ?_
            rintro e w2 ⟨rfl, hb2⟩
            have HB2 := Lib.hid (HNB.out.trans (hb2.mono HNB.out.size))
            have HC2 := Lib.hid (HCL.out.ext hb2)
            clear hb2
            have E2 := Lib.hid (HD2.out w2 _ 1 HC2.out)
            go_wp2_with fail
            refine E2.out.mono ?_
            rintro e w3 ⟨rfl, hb3⟩
            have HB3 := Lib.hid (HB2.out.trans (hb3.mono HB2.out.size))
            clear hb3
            have HA := Lib.hid (awake_any w3)
            go_wp2_with fail
            refine HA.out.mono ?_
            rintro e w4 ⟨rfl, hb4⟩
            have HB4 := Lib.hid (HB3.out.trans (hb4.mono HB3.out.size))
            clear hb4
            go_wp2
            go_ret
            exact ⟨rfl, HB4.out⟩
set_option maxHeartbeats 8000000 in
theorem lawL_false (m : Int) (w : World) (h0 : 0 ≤ m) (h1 : m ≤ 255) :
    Calls Tryd.prog 5 #[.int .u8 m, .bool false] w fun e w' => e = .returned (.bool true) ∧ Below w.heap.size w w' := by
  obtain ⟨k, hk, hrem⟩ := rem_bd h0 h1
  obtain ⟨c, hc⟩ : ∃ c : UInt8, c = 46 := ⟨_, rfl⟩
  have HC := Lib.hid hc
  have HK := Lib.hid hk
  have hwk : wrap64 (k : Int) = (k : Int) := by unfold wrap64; omega
  obtain ⟨o, ho, HR0⟩ := lim_read (c := c) (by rw [hc]; decide) (by rw [hc]; decide) (by rw [hc]; decide) k
  have hol : o.length = 0 := by rw [ho, hc]; rfl
  have HOL := Lib.hid hol
  have HPS : Hid (∀ W, Calls Tryd.prog 9 #[.string ⟨(limL c k).toArray⟩] W (RetRead (if 5000 < o.length then ([], 6) else (o, 0)) W)) := Lib.hid (fun W => by
    have h := parse_any ⟨(limL c k).toArray⟩ W (by show (limL c k).length ≤ _; rw [lim_len]; omega)
    rw [show (⟨(limL c k).toArray⟩ : ByteArray).data.toList = limL c k from rfl, HR0] at h
    exact h)
  obtain ⟨t1, ht1, ht2⟩ := far_text (x := 65532 + (k : Int)) (by omega) (by omega)
  obtain ⟨d1, hd1, hd2⟩ := far_draw (x := 65532 + (k : Int)) (by omega) (by omega)
  obtain ⟨X, hX⟩ : ∃ X : Int, X = 65532 + (k : Int) := ⟨_, rfl⟩
  obtain ⟨V, hV⟩ : ∃ V : Int, V = 65533 + (k : Int) := ⟨_, rfl⟩
  obtain ⟨Y, hY⟩ : ∃ Y : Int, Y = 65534 + (k : Int) := ⟨_, rfl⟩
  obtain ⟨Z, hZ⟩ : ∃ Z : Int, Z = 4998 + (k : Int) := ⟨_, rfl⟩
  have hwa : wrap64 (65532 + (k : Int)) = X := by rw [hX]; exact lk_a hk
  have hwb : wrap64 (65533 + (k : Int)) = V := by rw [hV]; exact lk_b hk
  have hwc : wrap64 (65534 + (k : Int)) = Y := by rw [hY]; exact lk_c hk
  have hwd : wrap64 (4998 + (k : Int)) = Z := by rw [hZ]; exact lk_d hk
  have ht1' : (t1.length : Int) = Y := by rw [hY]; exact lk_h ht1
  have hd1' : (d1.length : Int) = Y := by rw [hY]; exact lk_h hd1
  have hZ0 : ((0 : Int) == Z) = false := by rw [hZ]; exact lk_f k
  have HZ := Lib.hid hZ
  have HT1 := Lib.hid (And.intro ht1' (And.intro hd1' hZ0))
  have HTX : Hid (∀ W : World, Calls Tryd.prog 12 #[.slice (some ⟨W.heap.size, 0, none⟩) 1 1] (W.alloc (.cells #[.int .i64 X, .int .i64 0, .int .i64 1] 34)) fun e w' => (RetText (if 65536 < 65532 + (k : Int) + 2 then ([], 6) else (t1, 0)) (W.alloc (.cells #[.int .i64 X, .int .i64 0, .int .i64 1] 34))) e w') := Lib.hid (fun W => by
    rw [hX]
    have h := text_any (some ⟨W.heap.size, 0, none⟩) 1 [⟨65532 + (k : Int), 0, 1⟩] _ (cls_new W [⟨65532 + (k : Int), 0, 1⟩] (by simp))
    rw [ht2] at h
    exact h)
  have HDX : Hid (∀ (W : World) A a, Cls W A [⟨X, 0, 1⟩] → Calls Tryd.prog 14 #[.slice A 1 a, .agg #[.int .i64 0, .int .i64 0, .int .i64 V, .int .i64 1]] W (RetText (if 65536 < 65532 + (k : Int) + 2 then ([], 6) else (d1, 0)) W)) := Lib.hid (fun W A a hcl => by
    rw [hX] at hcl
    have h := draw_any A a [⟨65532 + (k : Int), 0, 1⟩] ⟨0, 0, 65533 + (k : Int), 1⟩ W hcl
    rw [hV]
    rw [show (65533 + (k : Int)) = 65532 + (k : Int) + 1 by omega] at h ⊢
    rw [hd2] at h
    exact h)
  have HWS := Lib.hid (And.intro hwa (And.intro hwb (And.intro hwc hwd)))
  clear hX hV hY hZ hwa hwb hwc hwd ht1' hd1' hZ0
  clear hc hol ho HR0 ht1 ht2 hd1 hd2 h0 h1
  go_enter Tryd.func5, Tryd.ntmps5
  go_wp2
  go_loopw [6] (fun r wr => ∃ (n : Nat) (L : List UInt8), n ≤ 128 ∧ r = .string ⟨L.toArray⟩ ∧ Hid (L = List.replicate n c) ∧ L.length = n ∧ wr = w) (fun r _ => 128 - strLen r)
  case atStart => exact ⟨0, [], by omega, rfl, Lib.hid rfl, rfl, rfl⟩
  case round =>
    obtain ⟨n, L, hn, rfl, HL, hLn, rfl⟩ := hrel
    by_cases hlt : n < 128
    · have dn : decide ((n : Int) < 128) = true := decide_eq_true (by omega)
      have hle : ¬ 9223372036854775807 < n + 1 := by omega
      go_wp2
      go_roundw
      case rel => exact ⟨n + 1, L ++ [c], hlt, (by rw [← bytes_app, HC.out]), Lib.hid (by rw [HL.out, List.replicate_succ']), (by rw [List.length_append, hLn]; rfl), (by first | rfl | trivial)⟩
      case measure =>
        rw [show (⟨L.toArray⟩ ++ ⟨#[46]⟩ : ByteArray) = ⟨(L ++ [46]).toArray⟩ from bytes_app L [46], strLen_of, strLen_of, List.length_append, hLn]
        simp
        omega
    · obtain rfl : n = 128 := by omega
      clear hn hlt
      go_wp2
      obtain ⟨wq, rfl⟩ : ∃ wq : World, wq = wr := ⟨_, rfl⟩
      go_loopw [7, 8] (fun s n wr => ∃ (q nn : Nat) (M : List UInt8), q ≤ 39 ∧ s = .string ⟨M.toArray⟩ ∧ n = .int .i64 nn ∧ Hid (nn = 128 * q) ∧ Hid (M = Lib.repeatL (List.replicate 128 c ++ [10]) q) ∧ M.length = q * 129 ∧ wr = wq) (fun _ n _ => 5000 - (intOf n).toNat)
      case atStart => exact ⟨0, 0, [], by omega, rfl, rfl, Lib.hid rfl, Lib.hid rfl, rfl, rfl⟩
      case round =>
        obtain ⟨q, nn, M, hq, rfl, rfl, HNN, HM, hMl, rfl⟩ := hrel
        have hw1 : wrap64 ((nn : Int) + 128) = (nn : Int) + 128 := by have := HNN.out; unfold wrap64; omega
        by_cases hqt : q < 39
        · have dq : decide ((nn : Int) + 128 ≤ 5000) = true := decide_eq_true (by have := HNN.out; omega)
          have hle1 : ¬ 9223372036854775807 < q * 129 + 128 := by omega
          have hle2 : ¬ 9223372036854775807 < q * 129 + 128 + 1 := by omega
          go_wp2
          go_roundw
          case rel => exact ⟨q + 1, nn + 128, M ++ L ++ [10], hqt, (by rw [← bytes_app, ← bytes_app]), (by rw [hw1]; rfl), Lib.hid (by have := HNN.out; omega), Lib.hid (by rw [HM.out, HL.out, Lib.repeatL_add, Lib.repeatL_one, List.append_assoc]), (by rw [List.length_append, List.length_append, hMl, hLn, List.length_singleton, Nat.succ_mul]), (by first | rfl | trivial)⟩
          case measure => rw [hw1]; exact ms_128 (by have := HNN.out; omega)
        · obtain rfl : q = 39 := by omega
          have hnn : nn = 4992 := HNN.out
          subst hnn
          clear hq hqt HNN hw1
          have hw2 : wrap64 (6 + (k : Int)) = ((6 + k : Nat) : Int) := lk_e HK.out
          obtain ⟨R0, hR0⟩ : ∃ R0 : List UInt8, R0 = List.replicate (6 + k) c := ⟨_, rfl⟩
          have hcut : (⟨L.toArray⟩ : ByteArray).extract 0 (6 + k) = ⟨R0.toArray⟩ := by rw [HL.out, hR0]; exact row_cut (lk_t HK.out) c
          have hRl : R0.length = 6 + k := by rw [hR0, List.length_replicate]
          have HTT : Hid (⟨M.toArray⟩ ++ ⟨R0.toArray⟩ = (⟨(limL c k).toArray⟩ : ByteArray)) := Lib.hid (by rw [HM.out, hR0, text_last])
          have hle3 : ¬ 9223372036854775807 < 5031 + (6 + k) := lk_r HK.out
          have hle4 : ¬ 9223372036854775807 < 39 * 129 + (6 + k) := lk_s HK.out
          clear hR0
          go_upto_region 12 with fail
          rw [HTT.out]
          clear hcut hRl hle3 hle4 hw2
          obtain ⟨T, hT⟩ : ∃ T, T = limL c k := ⟨_, rfl⟩
          rw [← hT] at HPS ⊢
          clear hT HTT
          by_cases hkk : 2 < k
          · have d2 : decide ((2 : Int) < (k : Int)) = true := decide_eq_true (lk_n hkk)
            have d3 : decide ((k : Int) ≤ 2) = false := decide_eq_false (lk_o hkk)
            have HP1 : Hid (∀ W, Calls Tryd.prog 9 #[.string ⟨T.toArray⟩] W (RetRead (o, 0) W)) := Lib.hid (fun W => by
              have h := HPS.out W
              rw [if_neg (lk_k HOL.out)] at h
              exact h)
            have HT2 : Hid (∀ W : World, Calls Tryd.prog 12 #[.slice (some ⟨W.heap.size, 0, none⟩) 1 1] (W.alloc (.cells #[.int .i64 X, .int .i64 0, .int .i64 1] 34)) fun e w' => (RetText ([], 6) (W.alloc (.cells #[.int .i64 X, .int .i64 0, .int .i64 1] 34))) e w') := Lib.hid (fun W => by
              have h := HTX.out W
              rw [if_pos (lk_l hkk)] at h
              exact h)
            have HD2 : Hid (∀ (W : World) A a, Cls W A [⟨X, 0, 1⟩] → Calls Tryd.prog 14 #[.slice A 1 a, .agg #[.int .i64 0, .int .i64 0, .int .i64 V, .int .i64 1]] W (RetText ([], 6) W)) := Lib.hid (fun W A a hcl => by
              have h := HDX.out W A a hcl
              rw [if_pos (lk_l hkk)] at h
              exact h)
            have ht1 := HT1.out.1
            have hd1 := HT1.out.2.1
            obtain ⟨hwa, hwb, hwc, hwd⟩ := HWS.out
            have hol : o.length = 0 := HOL.out
            clear hkk hk
            unfold RetRead at HP1
            unfold RetText at HT2 HD2
            dsimp only at HP1 HT2 HD2
            go_wp2_with fail
            refine (HP1.out _).mono ?_
            rintro e w1 ⟨A1, a1, rfl, -, hb1⟩
            have HB1 := Lib.hid hb1
            clear hb1
            have hcl := cls_new w1 [⟨X, 0, 1⟩] (by simp)
            have hnb := below_new w1 (.cells (([⟨X, 0, 1⟩] : List Cel).flatMap celCells).toArray 34)
            have HCL := Lib.hid hcl
            have HNB := Lib.hid (HB1.out.trans (hnb.mono HB1.out.size))
            clear hcl hnb
            have E1 := Lib.hid (HT2.out w1)
            go_wp2_with fail
            refine E1.out.mono ?_
            rintro e w2 ⟨rfl, hb2⟩
            have HB2 := Lib.hid (HNB.out.trans (hb2.mono HNB.out.size))
            have HC2 := Lib.hid (HCL.out.ext hb2)
            clear hb2
            have E2 := Lib.hid (HD2.out w2 _ 1 HC2.out)
            go_wp2_with fail
            refine E2.out.mono ?_
            rintro e w3 ⟨rfl, hb3⟩
            have HB3 := Lib.hid (HB2.out.trans (hb3.mono HB2.out.size))
            clear hb3
            have HA := Lib.hid (awake_any w3)
            go_wp2_with fail
            refine HA.out.mono ?_
            rintro e w4 ⟨rfl, hb4⟩
            have HB4 := Lib.hid (HB3.out.trans (hb4.mono HB3.out.size))
            clear hb4
            go_wp2
            go_ret
            exact ⟨rfl, HB4.out⟩
          · have d2 : decide ((2 : Int) < (k : Int)) = false := decide_eq_false (lk_p hkk)
            have d3 : decide ((k : Int) ≤ 2) = true := decide_eq_true (lk_q hkk)
            have HP1 : Hid (∀ W, Calls Tryd.prog 9 #[.string ⟨T.toArray⟩] W (RetRead (o, 0) W)) := Lib.hid (fun W => by
              have h := HPS.out W
              rw [if_neg (lk_k HOL.out)] at h
              exact h)
            have HT2 : Hid (∀ W : World, Calls Tryd.prog 12 #[.slice (some ⟨W.heap.size, 0, none⟩) 1 1] (W.alloc (.cells #[.int .i64 X, .int .i64 0, .int .i64 1] 34)) fun e w' => (RetText (t1, 0) (W.alloc (.cells #[.int .i64 X, .int .i64 0, .int .i64 1] 34))) e w') := Lib.hid (fun W => by
              have h := HTX.out W
              rw [if_neg (lk_m hkk)] at h
              exact h)
            have HD2 : Hid (∀ (W : World) A a, Cls W A [⟨X, 0, 1⟩] → Calls Tryd.prog 14 #[.slice A 1 a, .agg #[.int .i64 0, .int .i64 0, .int .i64 V, .int .i64 1]] W (RetText (d1, 0) W)) := Lib.hid (fun W A a hcl => by
              have h := HDX.out W A a hcl
              rw [if_neg (lk_m hkk)] at h
              exact h)
            have ht1 := HT1.out.1
            have hd1 := HT1.out.2.1
            obtain ⟨hwa, hwb, hwc, hwd⟩ := HWS.out
            have hol : o.length = 0 := HOL.out
            clear hkk hk
            unfold RetRead at HP1
            unfold RetText at HT2 HD2
            dsimp only at HP1 HT2 HD2
            go_wp2_with fail
            refine (HP1.out _).mono ?_
            rintro e w1 ⟨A1, a1, rfl, -, hb1⟩
            have HB1 := Lib.hid hb1
            clear hb1
            have hcl := cls_new w1 [⟨X, 0, 1⟩] (by simp)
            have hnb := below_new w1 (.cells (([⟨X, 0, 1⟩] : List Cel).flatMap celCells).toArray 34)
            have HCL := Lib.hid hcl
            have HNB := Lib.hid (HB1.out.trans (hnb.mono HB1.out.size))
            clear hcl hnb
            have E1 := Lib.hid (HT2.out w1)
            go_wp2_with fail
            refine E1.out.mono ?_
            rintro e w2 ⟨rfl, hb2⟩
            have HB2 := Lib.hid (HNB.out.trans (hb2.mono HNB.out.size))
            have HC2 := Lib.hid (HCL.out.ext hb2)
            clear hb2
            have E2 := Lib.hid (HD2.out w2 _ 1 HC2.out)
            go_wp2_with fail
            refine E2.out.mono ?_
            rintro e w3 ⟨rfl, hb3⟩
            have HB3 := Lib.hid (HB2.out.trans (hb3.mono HB2.out.size))
            clear hb3
            have HA := Lib.hid (awake_any w3)
            go_wp2_with fail
            refine HA.out.mono ?_
            rintro e w4 ⟨rfl, hb4⟩
            have HB4 := Lib.hid (HB3.out.trans (hb4.mono HB3.out.size))
            clear hb4
            go_wp2
            go_ret
            exact ⟨rfl, HB4.out⟩
theorem lawL_any (m : Int) (b : Bool) (w : World) (hm : (Lit.int .u8 m).wf = true) :
    Calls Tryd.prog 5 #[.int .u8 m, .bool b] w fun e w' => e = .returned (.bool true) ∧ Below w.heap.size w w' := by
  have hb : 0 ≤ m ∧ m ≤ 255 := by
    have e1 : IntKind.u8.min = 0 := rfl
    have e2 : IntKind.u8.max = 255 := rfl
    simp [Lit.wf] at hm
    omega
  cases b with
  | true => exact lawL_true m w hb.1 hb.2
  | false => exact lawL_false m w hb.1 hb.2
end Go.Proofs.YtblfeaapjloppaaDoor
