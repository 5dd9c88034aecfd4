/-
  cellularlaw30.RleBlanks: the walk. No condition but that the library's variables are there.
-/
import Derived.Test.YtekmldneinnmoaaDoorLawR
import Derived.Test.YtekmldneinnmoaaDoorBlank
import Derived.Deep.CutRange
namespace Go.Proofs.YtekmldneinnmoaaDoor
open Go.RowKit
set_option maxRecDepth 100000
set_option linter.unusedVariables false
set_option linter.unusedSimpArgs false

theorem cm_cat (rule pre : List UInt8) (S s : ByteArray) (hs : s = ⟨rule.toArray⟩) (he : S.extract 0 pre.length = ⟨pre.toArray⟩) : Value.string (⟨#[35, 67, 32]⟩ ++ s ++ ⟨#[10, 35, 10]⟩ ++ S.extract 0 pre.length) = .string ⟨(cmL rule ++ pre).toArray⟩ := by
  rw [he, hs, show (⟨#[35, 67, 32]⟩ : ByteArray) = ⟨([35, 67, 32] : List UInt8).toArray⟩ from rfl, show (⟨#[10, 35, 10]⟩ : ByteArray) = ⟨([10, 35, 10] : List UInt8).toArray⟩ from rfl, bytes_app, bytes_app, bytes_app]
  rfl
theorem ext_pre {S : ByteArray} {t pre r : List UInt8} (hS : S = ⟨t.toArray⟩) (ht : t = pre ++ r) : S.extract 0 pre.length = ⟨pre.toArray⟩ := by
  have h1 : (S.extract 0 pre.length).data.toList = pre := by
    have h2 := Lib.extract_toList S 0 pre.length
    rw [ByteArray.toList_eq] at h2
    rw [h2, hS]
    show ((t.toArray.toList).drop 0).take (pre.length - 0) = pre
    rw [List.drop_zero, Nat.sub_zero, ht]
    exact List.take_left
  have h5 : S.extract 0 pre.length = ⟨⟨(S.extract 0 pre.length).data.toList⟩⟩ := rfl
  rw [h5, h1]
theorem ext_one {S : ByteArray} {t : List UInt8} (hS : S = ⟨t.toArray⟩) {k : Nat} (hk : k < t.length) : S.extract k (k + 1) = ⟨[t[k]].toArray⟩ := by
  have h1 : (S.extract k (k + 1)).data.toList = [t[k]] := by
    have h2 := Lib.extract_toList S k (k + 1)
    rw [ByteArray.toList_eq] at h2
    rw [h2, hS]
    show ((t.toArray.toList).drop k).take (k + 1 - k) = [t[k]]
    show (t.drop k).take (k + 1 - k) = [t[k]]
    rw [show k + 1 - k = 1 by omega, List.drop_eq_getElem_cons hk]
    rfl
  have h5 : S.extract k (k + 1) = ⟨⟨(S.extract k (k + 1)).data.toList⟩⟩ := rfl
  rw [h5, h1]
/-- the text so far -/
def soFar (f : Nat → Bool) (cp : List UInt8) (P : Nat) (body : List UInt8) (k : Nat) : List UInt8 := cp ++ insB f P (body.take (k - P))
theorem soFar_step (f : Nat → Bool) (cp pre body : List UInt8) {k : Nat} (hk : pre.length ≤ k) (hk2 : k < (pre ++ body).length) : soFar f cp pre.length body (k + 1) = soFar f cp pre.length body k ++ ((pre ++ body)[k] :: insX f k (pre ++ body)[k]) := by
  unfold soFar
  have hb : k - pre.length < body.length := by rw [List.length_append] at hk2; omega
  rw [show k + 1 - pre.length = (k - pre.length) + 1 by omega, List.take_succ_eq_append_getElem hb, insB_snoc, List.getElem_append_right hk, List.length_take, Nat.min_eq_left (by omega), show pre.length + (k - pre.length) = k by omega, List.append_assoc]
theorem soFar_len (f : Nat → Bool) (cp body : List UInt8) (P k : Nat) : (soFar f cp P body k).length ≤ cp.length + 3 * body.length := by
  unfold soFar
  rw [List.length_append]
  have h1 := insB_len f (body.take (k - P)) P
  have h2 : (body.take (k - P)).length ≤ body.length := by rw [List.length_take]; omega
  omega
theorem cat1 (a : List UInt8) (c : UInt8) : Value.string (⟨a.toArray⟩ ++ ⟨[c].toArray⟩) = .string ⟨(a ++ [c]).toArray⟩ := by rw [bytes_app]
theorem cat32 (a : List UInt8) : Value.string (⟨a.toArray⟩ ++ ⟨#[32, 10]⟩) = .string ⟨(a ++ [32, 10]).toArray⟩ := by
  rw [show (⟨#[32, 10]⟩ : ByteArray) = ⟨([32, 10] : List UInt8).toArray⟩ from rfl, bytes_app]
def BITF (n : Int) (k : Nat) : Bool := bits BinOp.and IntKind.u64 (n / 2 ^ (k % 64)) 1 == 1
set_option maxHeartbeats 8000000 in
theorem lawB_any (A : Option Addr) (c : Nat) (ps : List Cel) (s : ByteArray) (n : Int) (w : World) (hg : Glob w) (ha : Cls w A ps) :
    Calls Tryd.prog 6 #[.slice A ps.length c, .string s, .int .u64 n] w fun e w' => e = .returned (.bool true) ∧ Below w.heap.size w w' := by
  have HG := Lib.hid hg
  clear hg
  have HAW := Lib.hid (awake_any w HG.out)
  by_cases hp : 800 < ps.length
  · have hp' : (800 : Int) < (ps.length : Int) := by omega
    clear hp
    go_enter Tryd.func6, Tryd.ntmps6
    go_wp2_with fail
    refine HAW.out.mono ?_
    rintro e w4 ⟨rfl, hb4⟩
    have HB4 := Lib.hid hb4
    clear hb4
    go_wp2
    go_ret
    exact ⟨rfl, HB4.out⟩
  by_cases hs : 200 < s.size
  · have hp' : (ps.length : Int) ≤ 800 := by omega
    have hs' : (200 : Int) < (s.size : Int) := by omega
    clear hp hs
    go_enter Tryd.func6, Tryd.ntmps6
    go_wp2_with fail
    refine HAW.out.mono ?_
    rintro e w4 ⟨rfl, hb4⟩
    have HB4 := Lib.hid hb4
    clear hb4
    go_wp2
    go_ret
    exact ⟨rfl, HB4.out⟩
  have hp' : (ps.length : Int) ≤ 800 := by omega
  have hs' : (s.size : Int) ≤ 200 := by omega
  have hrl : s.data.toList.length ≤ 1000000 := by rw [← Lib.size_eq]; omega
  have T1 : Hid (Calls Tryd.prog 8 #[.slice A ps.length c, .string s] w fun e w' => e = .returned (.tuple #[.string ⟨(textL ps s.data.toList).1.toArray⟩, .int .i64 (textL ps s.data.toList).2]) ∧ Below w.heap.size w w') := Lib.hid (text_any A c ps s.data.toList w HG.out ha hrl)
  by_cases he : (textL ps s.data.toList).2 = 0
  · obtain ⟨hr, hnm, hw9, hh9, hlen, htx⟩ := text_ok he
    have hpos := bx_pos ps
    obtain ⟨body, hB0, -⟩ := full_split (rule := s.data.toList) hr
    have htr := trip he
    have hbk := blanks (BITF n) he (by omega) hB0
    have hbl := body_len hr (by omega) hB0
    have hpl := pre_len (rule := s.data.toList) hpos.1 (show (boxC ps).1.w < 10000000 by omega) hpos.2 (show (boxC ps).1.h < 10000000 by omega) hnm
    have hno := pre_no10 hpos.1 (show (boxC ps).1.w < 10000000 by omega) hpos.2 (show (boxC ps).1.h < 10000000 by omega) hnm
    rw [htx] at T1 htr
    rw [he] at T1
    obtain ⟨t, ht⟩ : ∃ t, t = fullT ps s.data.toList := ⟨_, rfl⟩
    rw [← ht] at T1 htr hlen hB0
    obtain ⟨pre, hpre⟩ : ∃ p, p = preL (boxC ps).1.w (boxC ps).1.h s.data.toList := ⟨_, rfl⟩
    rw [← hpre] at hB0 hbk hpl hno
    obtain ⟨qs, hqs⟩ : ∃ q, q = ps.map (mv (boxC ps).1.x (boxC ps).1.y) := ⟨_, rfl⟩
    rw [← hqs] at htr hbk
    obtain ⟨S, hS⟩ : ∃ S : ByteArray, S = ⟨t.toArray⟩ := ⟨_, rfl⟩
    obtain ⟨bd, hbd⟩ : ∃ b, b = (10 :: body : List UInt8) := ⟨_, rfl⟩
    rw [← hbd] at hB0 hbk
    have hbl2 : bd.length ≤ 21604 := by rw [hbd, List.length_cons]; omega
    have hSz : S.size = t.length := by rw [hS]; show t.toArray.size = t.length; simp
    have hSg : ∀ k (h : k < S.size) (h' : k < t.length), S[k] = t[k] := by subst hS; intro k h h'; exact (get_byte ⟨t.toArray⟩ k h h').symm
    have HPA : Hid (∀ w', GCell w' → Calls Tryd.prog 12 #[.string S] w' fun e w'' => ∃ B b, e = .returned (.tuple #[.slice B qs.length b, .string s, .int .i64 0]) ∧ Cls w'' B qs ∧ Below w'.heap.size w' w'') := Lib.hid (fun w' hgw => by
      rw [hS]
      refine (parse_any t w' hgw (by omega)).mono ?_
      rintro e w'' ⟨B, b, rfl, hcl, hb⟩
      rw [htr] at hcl ⊢
      exact ⟨B, b, rfl, hcl, hb⟩)
    obtain ⟨cp, hcp⟩ : ∃ c, c = cmL s.data.toList ++ pre := ⟨_, rfl⟩
    rw [← hcp] at hbk
    have hcl : cp.length ≤ 300 := by rw [hcp]; unfold cmL; rw [List.length_append, List.length_append, List.length_append]; simp only [List.length_cons, List.length_nil]; omega
    have HTF : Hid (soFar (BITF n) cp pre.length bd t.length = cp ++ insB (BITF n) pre.length bd) := Lib.hid (by unfold soFar; rw [List.take_of_length_le (by rw [hB0, List.length_append]; omega)])
    have HPB : Hid (∀ w', GCell w' → Calls Tryd.prog 12 #[.string ⟨(soFar (BITF n) cp pre.length bd t.length).toArray⟩] w' fun e w'' => ∃ B b, e = .returned (.tuple #[.slice B qs.length b, .string s, .int .i64 0]) ∧ Cls w'' B qs ∧ Below w'.heap.size w' w'') := Lib.hid (fun w' hgw => by
      rw [HTF.out]
      refine (parse_any _ w' hgw (by have := hbk.2; omega)).mono ?_
      rintro e w'' ⟨B, b, rfl, hcl, hb⟩
      rw [hbk.1] at hcl ⊢
      exact ⟨B, b, rfl, hcl, hb⟩)
    have HCAT := Lib.hid (cm_cat s.data.toList pre S s rfl (ext_pre hS hB0))
    rw [← hcp] at HCAT
    have HLB : Hid (t.length ≤ 65536 ∧ bd.length ≤ 21604 ∧ cp.length ≤ 300 ∧ pre.length < t.length) := Lib.hid ⟨hlen, hbl2, hcl, by rw [hB0, hbd, List.length_append, List.length_cons]; omega⟩
    have HX1 : Hid (∀ k (h : k < t.length), S.extract k (k + 1) = ⟨[t[k]].toArray⟩) := Lib.hid (fun k h => ext_one hS h)
    have HST : Hid (∀ k, pre.length ≤ k → (h : k < t.length) → soFar (BITF n) cp pre.length bd (k + 1) = soFar (BITF n) cp pre.length bd k ++ (t[k] :: insX (BITF n) k t[k])) := Lib.hid (fun k h1 h2 => by
      subst hB0
      exact soFar_step (BITF n) cp pre bd h1 h2)
    have HS0 : Hid (soFar (BITF n) cp pre.length bd pre.length = cp) := Lib.hid (by unfold soFar; rw [Nat.sub_self]; simp [insB])
    have HSL : Hid (∀ k, (soFar (BITF n) cp pre.length bd k).length ≤ 70000) := Lib.hid (fun k => by have := soFar_len (BITF n) cp bd pre.length k; omega)
    have H10 : Hid (∀ k (h : k < t.length), (k < pre.length → ¬ t[k] = 10) ∧ (k = pre.length → t[k] = 10)) := Lib.hid (by
      intro k h
      subst hB0
      refine ⟨fun h1 => ?_, fun h1 => ?_⟩
      · rw [List.getElem_append_left h1]
        exact hno _ (List.getElem_mem h1)
      · subst h1
        rw [List.getElem_append_right (Nat.le_refl _)]
        simp [hbd])
    rw [← hS] at T1
    have HSZ := Lib.hid hSz
    have HSG := Lib.hid hSg
    obtain ⟨P, hP⟩ : ∃ P, P = pre.length := ⟨_, rfl⟩
    obtain ⟨F, hF⟩ : ∃ F : Nat → List UInt8, F = soFar (BITF n) cp pre.length bd := ⟨_, rfl⟩
    rw [← hF] at HTF HPB HST HS0 HSL
    rw [← hP] at HCAT HLB HST HS0 H10
    clear hF hP hS hSz hSg ht hB0 htr hno hpos hr hnm hw9 hh9 hlen htx he hp hs hrl hbk hbl hpl hqs hbd hcp hcl hbl2 hpre HTF
    have hS6 : (S.size : Int) ≤ 65536 := by have := HSZ.out; have := HLB.out; omega
    have HCA := Lib.hid ha
    clear ha
    go_enter Tryd.func6, Tryd.ntmps6
    go_wp2_with fail
    refine T1.out.mono ?_
    rintro e w1 ⟨rfl, hb1⟩
    have HB1 := Lib.hid hb1
    clear hb1
    go_wp2
    go_loopw [9] (fun v wr => ∃ k : Nat, k ≤ P ∧ v = .int .i64 k ∧ wr = w1) (fun v _ => S.size - (intOf v).toNat)
    case atStart => exact ⟨0, Nat.zero_le _, rfl, rfl⟩
    case round =>
      obtain ⟨k, hk, rfl, hw⟩ := hrel
      have hw2 := hw.symm
      clear hw
      subst hw2
      have hks : k < S.size := by have := HSZ.out; have := HLB.out; omega
      have hkt : k < t.length := by rw [← HSZ.out]; exact hks
      have HGK : Hid (S[k] = t[k]) := Lib.hid (HSG.out k hks hkt)
      have hwk : wrap64 ((k : Int) + 1) = (k : Int) + 1 := wrap_up (n := 70000) (by omega) (by omega)
      by_cases hkp : k < P
      · have h10 : ¬ S[k] = 10 := by rw [HGK.out]; exact (H10.out k hkt).1 hkp
        have e10 : ((S[k].toNat : Int) != 10) = true := by
          simp only [bne_iff_ne, ne_eq]
          intro h
          exact h10 (UInt8.toNat_inj.1 (by have : (10 : UInt8).toNat = 10 := rfl; omega))
        clear h10
        go_wp2
        go_roundw
        case rel => exact ⟨k + 1, hkp, (by first | rfl | (rw [hwk]; rfl)), (by first | rfl | trivial)⟩
        case measure => first | exact meas_up hks | (rw [hwk]; exact meas_up hks)
      · have hke : k = P := by omega
        subst hke
        have h10 : S[k] = 10 := by rw [HGK.out]; exact (H10.out k hkt).2 rfl
        have e10 : ((S[k].toNat : Int) != 10) = false := by rw [h10]; rfl
        clear h10
        have hks2 : k ≤ S.size := by omega
        have hle1 : ¬ 9223372036854775807 < 3 + s.size := by omega
        have hle2 : ¬ 9223372036854775807 < 3 + s.size + 3 := by omega
        have hle3 : ¬ 9223372036854775807 < 3 + s.size + 3 + k := by omega
        go_upto_region 10 with fail

        rw [HCAT.out]
        go_wp2
        go_loopw [10, 11, 12] (fun T i _ wr => ∃ j : Nat, k ≤ j ∧ j ≤ S.size ∧ i = .int .i64 j ∧ T = .string ⟨(F j).toArray⟩ ∧ wr = w1) (fun _ i _ _ => S.size - (intOf i).toNat)
        case atStart => exact ⟨k, Nat.le_refl _, hks2, rfl, by rw [HS0.out], rfl⟩
        case round =>
          obtain ⟨j, hkj, hj, rfl, rfl, hw⟩ := hrel
          have hw2 := hw.symm
          clear hw
          subst hw2
          by_cases hjs : j < S.size
          · have hjt : j < t.length := by rw [← HSZ.out]; exact hjs
            have HGJ : Hid (S[j] = t[j]) := Lib.hid (HSG.out j hjs hjt)
            have hwj : wrap64 ((j : Int) + 1) = (j : Int) + 1 := wrap_up hj (by omega)
            have hFL := HSL.out j
            have HSTj := Lib.hid (HST.out j hkj hjt)
            have HXj : Hid (S.extract j (j + 1) = ⟨[t[j]].toArray⟩) := Lib.hid (HX1.out j hjt)
            obtain ⟨b, hb⟩ : ∃ b, b = t[j] := ⟨_, rfl⟩
            rw [← hb] at HGJ HSTj HXj
            clear hb
            have hj1 : j + 1 ≤ S.size := hjs
            have hle1 : ¬ 9223372036854775807 < (F j).length + 1 := by omega
            have hle2 : ¬ 9223372036854775807 < (F j).length + 1 + 2 := by omega
            have hxz : (S.extract j (j + 1)).size = 1 := by rw [HXj.out]; rfl
            go_upto_region 14 with fail
            rw [HXj.out, cat1]
            have hc0 : (b.toNat : Int) ≤ 255 := by have := b.toNat_lt; omega
            have HD : Hid (isDig b = (decide ((48 : Int) ≤ b.toNat) && decide ((b.toNat : Int) ≤ 57))) := Lib.hid rfl
            have hgj : S[j] = b := HGJ.out
            go_cut [12] from 57 to 92 (fun v wx => v = .bool (isDig b) ∧ wx = w1)
            case first =>
              by_cases hh : (48 : Int) ≤ b.toNat
              · have d48 : decide ((48 : Int) ≤ b.toNat) = true := decide_eq_true hh
                by_cases hh2 : (b.toNat : Int) ≤ 57
                · have d57 : decide ((b.toNat : Int) ≤ 57) = true := decide_eq_true hh2
                  go_wp2
                  go_meet
                  exact ⟨by rw [HD.out, d48, d57]; rfl, rfl⟩
                · have d57 : decide ((b.toNat : Int) ≤ 57) = false := decide_eq_false hh2
                  go_wp2
                  go_meet
                  exact ⟨by rw [HD.out, d48, d57]; rfl, rfl⟩
              · have d48 : decide ((48 : Int) ≤ b.toNat) = false := decide_eq_false hh
                go_wp2
                go_meet
                exact ⟨by rw [HD.out, d48]; rfl, rfl⟩
            case rest =>
            obtain ⟨hc12, hwc⟩ := hcut
            have hwc2 := hwc.symm
            subst hc12
            clear hwc
            subst hwc2
            cases hdg : isDig b
            · clear hc0
              cases hbit : BITF n j
              · have HN : Hid (F (j + 1) = F j ++ [b]) := Lib.hid (by rw [HSTj.out]; unfold insX; rw [if_neg (by rw [hbit]; simp)])
                have ebit : (bits BinOp.and IntKind.u64 (n / 2 ^ (j % 64)) 1 == 1) = false := hbit
                clear hdg hbit
                go_wp2
                go_roundw
                case rel => exact ⟨j + 1, by omega, hjs, (by first | rfl | (rw [hwj]; rfl)), by rw [HN.out], (by first | rfl | trivial)⟩
                case measure => first | exact meas_up hjs | (rw [hwj]; exact meas_up hjs)
              · have HN : Hid (F (j + 1) = F j ++ [b] ++ [32, 10]) := Lib.hid (by rw [HSTj.out]; unfold insX; rw [if_pos ⟨hdg, hbit⟩, List.append_assoc]; rfl)
                have ebit : (bits BinOp.and IntKind.u64 (n / 2 ^ (j % 64)) 1 == 1) = true := hbit
                clear hdg hbit
                go_wp2
                go_roundw
                case rel => exact ⟨j + 1, by omega, hjs, (by first | rfl | (rw [hwj]; rfl)), by rw [HN.out]; first | exact cat32 _ | (rw [← cat32]) | (simp [← bytes_app]), (by first | rfl | trivial)⟩
                case measure => first | exact meas_up hjs | (rw [hwj]; exact meas_up hjs)
            · have HN : Hid (F (j + 1) = F j ++ [b]) := Lib.hid (by rw [HSTj.out]; unfold insX; rw [if_neg (by rw [hdg]; simp)])
              clear hdg hc0
              go_wp2
              go_roundw
              case rel => exact ⟨j + 1, by omega, hjs, (by first | rfl | (rw [hwj]; rfl)), by rw [HN.out], (by first | rfl | trivial)⟩
              case measure => first | exact meas_up hjs | (rw [hwj]; exact meas_up hjs)
          · have hje : j = t.length := by rw [← HSZ.out]; omega
            have HPA1 := Lib.hid (HPA.out w1 (HG.out.ext HB1.out).1)
            have hjs0 : ¬ (j : Int) < (S.size : Int) := by omega
            rw [← hje] at HPB
            clear hje
            go_wp2_with fail
            refine HPA1.out.mono ?_
            rintro e w2 ⟨B, b, rfl, hcl, hb2⟩
            have HB2 := Lib.hid (HB1.out.trans (hb2.mono HB1.out.size))
            have HC2 := Lib.hid hcl
            clear hb2 hcl
            have HPB1 := Lib.hid (HPB.out w2 (HG.out.ext HB2.out).1)
            go_wp2_with fail
            refine HPB1.out.mono ?_
            rintro e w3 ⟨B3, b3, rfl, hcl, hb3⟩
            have HB3 := Lib.hid (HB2.out.trans (hb3.mono HB2.out.size))
            have HC3 := Lib.hid (HC2.out.ext hb3)
            have HSM : Hid (Calls Tryd.prog 14 #[.slice B qs.length b, .slice B3 qs.length b3] w3 fun e w' => e = .returned (.bool true) ∧ Below w3.heap.size w3 w') := Lib.hid (by
              have h := rsame_any B B3 b b3 qs qs w3 HC3.out hcl
              rw [show sameC qs qs = true from by unfold sameC; simp] at h
              exact h)
            clear hb3 hcl
            go_wp2_with fail
            refine HSM.out.mono ?_
            rintro e w4 ⟨rfl, hb4⟩
            have HB4 := Lib.hid (HB3.out.trans (hb4.mono HB3.out.size))
            clear hb4
            have HZ := Lib.hid (awake_any w4 (HG.out.ext HB4.out))
            go_wp2_with fail
            refine HZ.out.mono ?_
            rintro e w5 ⟨rfl, hb5⟩
            have HB5 := Lib.hid (HB4.out.trans (hb5.mono HB4.out.size))
            clear hb5
            go_wp2
            go_ret
            exact ⟨rfl, HB5.out⟩
  · have dne : ((textL ps s.data.toList).2 != 0) = true := by simpa using he
    obtain ⟨er, her⟩ : ∃ er, er = (textL ps s.data.toList).2 := ⟨_, rfl⟩
    rw [← her] at T1 dne
    clear her he hp hs hrl ha
    go_enter Tryd.func6, Tryd.ntmps6
    go_wp2_with fail
    refine T1.out.mono ?_
    rintro e w1 ⟨rfl, hb1⟩
    have HB1 := Lib.hid hb1
    clear hb1
    have HZ := Lib.hid (awake_any w1 (HG.out.ext HB1.out))
    go_wp2_with fail
    refine HZ.out.mono ?_
    rintro e w5 ⟨rfl, hb5⟩
    have HB5 := Lib.hid (HB1.out.trans (hb5.mono HB1.out.size))
    clear hb5
    go_wp2
    go_ret
    exact ⟨rfl, HB5.out⟩
end Go.Proofs.YtekmldneinnmoaaDoor
