/-
  cellularlaw30.RleRoundTrip: the walk. No condition but that the library's variables are there.
-/
import Derived.Test.YtekmldneinnmoaaDoorAwake
import Derived.Test.YtekmldneinnmoaaDoorLines
namespace Go.Proofs.YtekmldneinnmoaaDoor
open Go.RowKit
set_option maxRecDepth 100000
set_option linter.unusedVariables false
set_option linter.unusedSimpArgs false

theorem text_bad {ps : List Cel} {rule : List UInt8} (h : ¬ (textL ps rule).2 = 0) : (textL ps rule).1 = [] := by
  unfold textL at *
  by_cases h1 : rightC ps = false
  · rw [if_pos h1]
  rw [if_neg h1] at h ⊢
  by_cases h2 : nameB rule = false
  · rw [if_pos h2]
  rw [if_neg h2] at h ⊢
  by_cases h3 : 1048577 < (boxC ps).1.w ∨ 1048577 < (boxC ps).1.h
  · rw [if_pos h3]
  rw [if_neg h3] at h ⊢
  by_cases h4 : 65536 < (fullT ps rule).length
  · rw [if_pos h4]
  rw [if_neg h4] at h
  exact absurd rfl h
/-- where the line's check stands at byte k -/
def AtI (t : List UInt8) (P k a : Nat) : Prop := (a = 0 ∧ k ≤ P) ∨ (0 < a ∧ a ≤ k ∧ lok (k - a) (t.drop k) = true)
theorem at_other {t : List UInt8} {P k a : Nat} (h : AtI t P k a) (hP : t[P]? = some 10) (hk : k < t.length) (hc : ¬ t[k] = 10) : AtI t P (k + 1) a := by
  rcases h with ⟨h1, h2⟩ | ⟨h1, h2, h3⟩
  · refine .inl ⟨h1, ?_⟩
    by_cases he : k = P
    · subst he
      rw [List.getElem?_eq_getElem hk] at hP
      exact absurd (Option.some.inj hP) hc
    · omega
  · refine .inr ⟨h1, by omega, ?_⟩
    rw [List.drop_eq_getElem_cons hk, lok, if_neg hc] at h3
    rw [show k + 1 - a = k - a + 1 by omega]
    exact h3
theorem at_line {t pre B : List UInt8} {k a : Nat} (ht : t = pre ++ 10 :: B) (hn : ∀ c ∈ pre, c ≠ 10) (hB : lok 0 B = true) (h : AtI t pre.length k a) (hk : k < t.length) (hc : t[k] = 10) : AtI t pre.length (k + 1) (k + 1) ∧ (0 < a → k - a ≤ 70 ∧ a ≤ k) := by
  rcases h with ⟨h1, h2⟩ | ⟨h1, h2, h3⟩
  · refine ⟨.inr ⟨by omega, by omega, ?_⟩, fun h => by omega⟩
    have he : k = pre.length := by
      by_cases he : k = pre.length
      · exact he
      · exfalso
        subst ht
        rw [List.getElem_append_left (by omega)] at hc
        exact hn _ (List.getElem_mem (by omega)) hc
    rw [Nat.sub_self, he, ht, show pre.length + 1 = (pre ++ [10]).length by simp, show pre ++ 10 :: B = (pre ++ [10]) ++ B by simp, List.drop_left]
    exact hB
  · rw [List.drop_eq_getElem_cons hk, lok, if_pos hc, Bool.and_eq_true, decide_eq_true_eq] at h3
    exact ⟨.inr ⟨by omega, by omega, by rw [Nat.sub_self]; exact h3.2⟩, fun _ => ⟨h3.1, h2⟩⟩
theorem cls_map {w : World} {B : Option Addr} {ps : List Cel} {bx y0 : Int} (h : Cls w B (ps.map (mv bx y0))) {k : Nat} (hk : k < ps.length) : ∃ b o, B = some ⟨b, o, none⟩ ∧ w.cell? ⟨b, o + k * 3, none⟩ = some (.int .i64 (ps[k].x - bx)) ∧ w.cell? ⟨b, o + k * 3 + 1, none⟩ = some (.int .i64 (ps[k].y - y0)) ∧ w.cell? ⟨b, o + k * 3 + 2, none⟩ = some (.int .i64 ps[k].s) := by
  obtain ⟨b, o, e, -, h1, h2, h3⟩ := h.at_ (k := k) (by rw [List.length_map]; exact hk)
  rw [List.getElem_map] at h1 h2 h3
  exact ⟨b, o, e, h1, h2, h3⟩
theorem wrap_diff {a b : Int} (h1 : -1048576 ≤ a ∧ a ≤ 1048576) (h2 : -1048576 ≤ b ∧ b ≤ 1048576) : wrap64 (a - b) = a - b := by unfold wrap64; omega
theorem wrap_up {k n : Nat} (h : k ≤ n) (h2 : n ≤ 70000) : wrap64 ((k : Int) + 1) = (k : Int) + 1 := by unfold wrap64; omega
theorem wrap_dn {k a n : Nat} (h : k ≤ n) (h2 : n ≤ 70000) (h3 : a ≤ k) : wrap64 ((k : Int) - (a : Int)) = (k : Int) - (a : Int) := by unfold wrap64; omega
theorem gap_no {k a : Nat} (h : k - a ≤ 70 ∧ a ≤ k) : decide ((70 : Int) < (k : Int) - (a : Int)) = false := decide_eq_false (by omega)
theorem bx_bd {ps : List Cel} (hr : rightC ps = true) : (-1048576 ≤ (boxC ps).1.x ∧ (boxC ps).1.x ≤ 1048576) ∧ (-1048576 ≤ (boxC ps).1.y ∧ (boxC ps).1.y ≤ 1048576) := by
  cases hb : (boxC ps).2
  · unfold boxC at *
    split at hb
    · cases hb
    · rename_i hc
      rw [if_neg hc]
      exact ⟨by decide, by decide⟩
  · exact (box_bd hb).2.2
set_option maxHeartbeats 8000000 in
theorem lawR_any (A : Option Addr) (c : Nat) (ps : List Cel) (s : ByteArray) (w : World) (hg : Glob w) (ha : Cls w A ps) :
    Calls Tryd.prog 5 #[.slice A ps.length c, .string s] w fun e w' => e = .returned (.bool true) ∧ Below w.heap.size w w' := by
  have HG := Lib.hid hg
  clear hg
  have HAW := Lib.hid (awake_any w HG.out)
  by_cases hp : 800 < ps.length
  · have hp' : (800 : Int) < (ps.length : Int) := by omega
    clear hp
    go_enter Tryd.func5, Tryd.ntmps5
    go_wp2_with fail
    refine HAW.out.mono ?_
    rintro e w4 ⟨rfl, hb4⟩
    have HB4 := Lib.hid hb4
    clear hb4
    go_wp2
    go_ret
    exact ⟨rfl, HB4.out⟩
  by_cases hs : 200 < s.size
  · have hp' : (ps.length : Int) ≤ 800 := by omega
    have hs' : (200 : Int) < (s.size : Int) := by omega
    clear hp hs
    go_enter Tryd.func5, Tryd.ntmps5
    go_wp2_with fail
    refine HAW.out.mono ?_
    rintro e w4 ⟨rfl, hb4⟩
    have HB4 := Lib.hid hb4
    clear hb4
    go_wp2
    go_ret
    exact ⟨rfl, HB4.out⟩
  have hp' : (ps.length : Int) ≤ 800 := by omega
  have hs' : (s.size : Int) ≤ 200 := by omega
  have hrl : s.data.toList.length ≤ 1000000 := by rw [← Lib.size_eq]; omega
  have T1 : Hid (Calls Tryd.prog 8 #[.slice A ps.length c, .string s] w fun e w' => e = .returned (.tuple #[.string ⟨(textL ps s.data.toList).1.toArray⟩, .int .i64 (textL ps s.data.toList).2]) ∧ Below w.heap.size w w') := Lib.hid (text_any A c ps s.data.toList w HG.out ha hrl)
  have HA0 := Lib.hid ha
  by_cases he : (textL ps s.data.toList).2 = 0
  · obtain ⟨hr, hnm, hw9, hh9, hlen, htx⟩ := text_ok he
    obtain ⟨B0, hB0, hlk⟩ := full_lines (rule := s.data.toList) hr
    have htr := trip he
    have hpos := bx_pos ps
    have hno := pre_no10 (w := (boxC ps).1.w) (h := (boxC ps).1.h) (rule := s.data.toList) hpos.1 (by omega) hpos.2 (by omega) hnm
    have HBB := Lib.hid (bx_bd hr)
    have HBX : Hid (∀ w', Below w.heap.size w w' → Calls Tryd.prog 15 #[.slice A ps.length c] w' fun e w'' => e = .returned (.tuple #[bxV (boxC ps).1, .bool (boxC ps).2]) ∧ Below w'.heap.size w' w'') := Lib.hid (fun w' hb => by
      have h := rbox_any A c ps w' (ha.ext hb)
      rw [box_eq] at h
      exact h)
    have HRB := Lib.hid (right_bd hr)
    rw [htx] at T1 htr
    rw [he] at T1
    obtain ⟨t, ht⟩ : ∃ t, t = fullT ps s.data.toList := ⟨_, rfl⟩
    rw [← ht] at T1 htr hlen hB0
    have HPA : Hid (∀ w', GCell w' → Calls Tryd.prog 12 #[.string ⟨t.toArray⟩] w' fun e w'' => ∃ B b, e = .returned (.tuple #[.slice B ps.length b, .string s, .int .i64 0]) ∧ Cls w'' B (ps.map (mv (boxC ps).1.x (boxC ps).1.y)) ∧ Below w'.heap.size w' w'') := Lib.hid (fun w' hgw => by
      refine (parse_any t w' hgw (by omega)).mono ?_
      rintro e w'' ⟨B, b, rfl, hcl, hb⟩
      rw [htr] at hcl ⊢
      dsimp only at hcl ⊢
      refine ⟨B, b, ?_, hcl, hb⟩
      rw [List.length_map])
    have HTL : Hid (t.length ≤ 65536) := Lib.hid hlen
    have HP10 : Hid (t[(preL (boxC ps).1.w (boxC ps).1.h s.data.toList).length]? = some 10) := Lib.hid (by rw [hB0, List.getElem?_append_right (Nat.le_refl _), Nat.sub_self]; rfl)
    have HAL : Hid (∀ k a, AtI t (preL (boxC ps).1.w (boxC ps).1.h s.data.toList).length k a → (hk : k < t.length) → t[k] = 10 → AtI t (preL (boxC ps).1.w (boxC ps).1.h s.data.toList).length (k + 1) (k + 1) ∧ (0 < a → k - a ≤ 70 ∧ a ≤ k)) := Lib.hid (fun k a h hk hc => at_line hB0 hno hlk h hk hc)
    obtain ⟨P, hP⟩ : ∃ P, P = (preL (boxC ps).1.w (boxC ps).1.h s.data.toList).length := ⟨_, rfl⟩
    rw [← hP] at HP10 HAL
    obtain ⟨S, hS⟩ : ∃ S : ByteArray, S = ⟨t.toArray⟩ := ⟨_, rfl⟩
    have hSz : S.size = t.length := by rw [hS]; show t.toArray.size = t.length; simp
    have hSg : ∀ k (h : k < S.size) (h' : k < t.length), S[k] = t[k] := by subst hS; intro k h h'; exact (get_byte ⟨t.toArray⟩ k h h').symm
    rw [← hS] at T1 HPA
    have HSZ := Lib.hid hSz
    have HSG := Lib.hid hSg
    clear hP hS hSz hSg ht hB0 hlk htr hno hpos hr hnm hw9 hh9 hlen htx he hp hs hrl ha
    obtain ⟨q, hq⟩ : ∃ q, q = boxC ps := ⟨_, rfl⟩
    rw [← hq] at HBB HBX HPA
    clear hq
    obtain ⟨bb, ok⟩ := q
    obtain ⟨bx, y0, bw, bh⟩ := bb
    unfold bxV at HBX
    dsimp only at HBB HBX HPA
    have hS6 : (S.size : Int) ≤ 65536 := by have := HSZ.out; have := HTL.out; omega
    go_enter Tryd.func5, Tryd.ntmps5
    go_wp2_with fail
    refine T1.out.mono ?_
    rintro e w1 ⟨rfl, hb1⟩
    have HB1 := Lib.hid hb1
    clear hb1
    have U2 := Lib.hid (HPA.out w1 (HG.out.ext HB1.out).1)
    go_wp2_with fail
    refine U2.out.mono ?_
    rintro e w2 ⟨B, b, rfl, hcl, hb2⟩
    have HB2 := Lib.hid (HB1.out.trans (hb2.mono HB1.out.size))
    have HC2 := Lib.hid hcl
    clear hb2 hcl
    have U3 := Lib.hid (HBX.out w2 HB2.out)
    go_wp2_with fail
    refine U3.out.mono ?_
    rintro e w3 ⟨rfl, hb3⟩
    have br0 := Blk.new w3 38 #[.int .i64 bx, .int .i64 y0, .int .i64 bw, .int .i64 bh]
    have hb4 := (HB2.out.trans (hb3.mono HB2.out.size)).alloc (Nat.le_trans HB2.out.size hb3.size) (.cells #[.int .i64 bx, .int .i64 y0, .int .i64 bw, .int .i64 bh] 38)
    have HC4 := Lib.hid (HC2.out.ext (hb3.alloc hb3.size (.cells #[.int .i64 bx, .int .i64 y0, .int .i64 bw, .int .i64 bh] 38)))
    obtain ⟨w4, hw4⟩ : ∃ w4, w4 = w3.alloc (.cells #[.int .i64 bx, .int .i64 y0, .int .i64 bw, .int .i64 bh] 38) := ⟨_, rfl⟩
    rw [← hw4] at br0 hb4 HC4
    have HB := Lib.hid hb4
    have HBR := Lib.hid br0
    have HW4 := Lib.hid hw4
    clear hb3 hb4 hw4 br0
    go_upto_region 8 with fail
    rw [← HW4.out]
    go_wp2
    go_loopw [12, 64] (fun _ i wr => ∃ k : Nat, k ≤ ps.length ∧ i = .int .i64 k ∧ Hid (Below w.heap.size w wr) ∧ Hid (Cls wr B (ps.map (mv bx y0))) ∧ Hid (Blk wr w3.heap.size 38 #[.int .i64 bx, .int .i64 y0, .int .i64 bw, .int .i64 bh])) (fun _ i _ => ps.length - (intOf i).toNat)
    case atStart => exact ⟨0, Nat.zero_le _, rfl, HB, HC4, HBR⟩
    case round =>
      clear HB HC4 HBR
      obtain ⟨k, hk, rfl, HB, HC, HBR⟩ := hrel
      have hwk : wrap64 ((k : Int) + 1) = (k : Int) + 1 := wrap_up (n := 70000) (by omega) (by omega)
      by_cases hlt : k < ps.length
      · obtain ⟨b1, o1, f1, -, x1, y1, s1⟩ := (HA0.out.ext HB.out).at_ hlt
        obtain ⟨b2, o2, f2, x2, y2, s2⟩ := cls_map HC.out hlt
        have hc := HRB.out ps[k] (List.getElem_mem hlt)
        have hd1 : wrap64 (ps[k].x - bx) = ps[k].x - bx := wrap_diff hc.1 HBB.out.1
        have hd2 : wrap64 (ps[k].y - y0) = ps[k].y - y0 := wrap_diff hc.2.1 HBB.out.2
        have q0 := HBR.out.cell_ 0 (.int .i64 bx) rfl
        have q1 := HBR.out.cell_ 1 (.int .i64 y0) rfl
        subst f1 f2
        clear hc
        go_upto_region 13 with fail
        go_quiet (fail)
        have HB9 := Lib.hid (below_drewN HB.out nq)
        have HC9 := Lib.hid (HC.out.drewN nq)
        have HBR9 := Lib.hid (HBR.out.drewN nq)
        clear x1 x2 y1 y2 s1 s2 q0 q1 HB HC HBR
        go_wp2
        go_roundw
        case rel => exact ⟨k + 1, hlt, (by first | rfl | (rw [hwk]; rfl)), HB9, HC9, HBR9⟩
        case measure => first | exact meas_up hlt | (rw [hwk]; exact meas_up hlt)
      · clear HC HBR
        go_wp2
        go_loopw [13, 14, 113] (fun at_ _ i wr => ∃ k a : Nat, k ≤ S.size ∧ i = .int .i64 k ∧ at_ = .int .i64 a ∧ Hid (Below w.heap.size w wr) ∧ Hid (AtI t P k a)) (fun _ _ i _ => S.size - (intOf i).toNat)
        case atStart => exact ⟨0, 0, Nat.zero_le _, rfl, rfl, HB, Lib.hid (.inl ⟨rfl, Nat.zero_le _⟩)⟩
        case round =>
          clear HB
          obtain ⟨k, a, hk, rfl, rfl, HB, HI⟩ := hrel
          have hS7 : S.size ≤ 70000 := by omega
          have hwk : wrap64 ((k : Int) + 1) = (k : Int) + 1 := wrap_up hk hS7
          by_cases hks : k < S.size
          · have hkt : k < t.length := by rw [← HSZ.out]; exact hks
            have HGK : Hid (S[k] = t[k]) := Lib.hid (HSG.out k hks hkt)
            by_cases h10 : S[k] = 10
            · have e10 : ((S[k].toNat : Int) == 10) = true := by rw [h10]; rfl
              have HN := Lib.hid (HAL.out k a HI.out hkt (by rw [← HGK.out]; exact h10))
              clear h10
              by_cases ha0 : 0 < a
              · have da : decide ((0 : Int) < (a : Int)) = true := decide_eq_true (by omega)
                have hwd : wrap64 ((k : Int) - (a : Int)) = (k : Int) - (a : Int) := wrap_dn hk hS7 (HN.out.2 ha0).2
                have dg := gap_no (HN.out.2 ha0)
                have HN1 := Lib.hid HN.out.1
                go_wp2
                go_roundw
                case rel => exact ⟨k + 1, k + 1, hks, (by first | rfl | (rw [hwk]; rfl)), (by first | rfl | (rw [hwk]; rfl)), HB, HN1⟩
                case measure => first | exact meas_up hks | (rw [hwk]; exact meas_up hks)
              · have da : decide ((0 : Int) < (a : Int)) = false := decide_eq_false (by omega)
                have HN1 := Lib.hid HN.out.1
                go_wp2
                go_roundw
                case rel => exact ⟨k + 1, k + 1, hks, (by first | rfl | (rw [hwk]; rfl)), (by first | rfl | (rw [hwk]; rfl)), HB, HN1⟩
                case measure => first | exact meas_up hks | (rw [hwk]; exact meas_up hks)
            · have e10 : ((S[k].toNat : Int) == 10) = false := by
                simp only [beq_eq_false_iff_ne, ne_eq]
                intro h
                exact h10 (UInt8.toNat_inj.1 (by have : (10 : UInt8).toNat = 10 := rfl; omega))
              have HN1 := Lib.hid (at_other HI.out HP10.out hkt (by rw [← HGK.out]; exact h10))
              clear h10
              go_wp2
              go_roundw
              case rel => exact ⟨k + 1, a, hks, (by first | rfl | (rw [hwk]; rfl)), rfl, HB, HN1⟩
              case measure => first | exact meas_up hks | (rw [hwk]; exact meas_up hks)
          · have HZ := Lib.hid (awake_any wr (HG.out.ext HB.out))
            go_wp2_with fail
            refine HZ.out.mono ?_
            rintro e w5 ⟨rfl, hb5⟩
            have HB5 := Lib.hid (HB.out.trans (hb5.mono HB.out.size))
            clear hb5
            go_wp2
            go_ret
            exact ⟨rfl, HB5.out⟩
  · have hz := text_bad he
    rw [hz] at T1
    have dne : ((textL ps s.data.toList).2 != 0) = true := by simpa using he
    have de : ((textL ps s.data.toList).2 == 0) = false := by simpa using he
    obtain ⟨er, her⟩ : ∃ er, er = (textL ps s.data.toList).2 := ⟨_, rfl⟩
    rw [← her] at T1 dne de
    have hem : (⟨#[]⟩ : ByteArray).toList.isEmpty = true := by rw [ByteArray.toList_eq]; rfl
    have T2 : Hid (Calls Tryd.prog 8 #[.slice A ps.length c, .string s] w fun e w' => e = .returned (.tuple #[.string ⟨#[]⟩, .int .i64 er]) ∧ Below w.heap.size w w') := T1
    clear her he hz T1 hp hs hrl ha
    go_enter Tryd.func5, Tryd.ntmps5
    go_wp2_with fail
    refine T2.out.mono ?_
    rintro e w1 ⟨rfl, hb1⟩
    have HB1 := Lib.hid hb1
    clear hb1
    have HZ := Lib.hid (awake_any w1 (HG.out.ext HB1.out))
    go_wp2_with fail
    refine HZ.out.mono ?_
    rintro e w5 ⟨rfl, hb5⟩
    have HB5 := Lib.hid (HB1.out.trans (hb5.mono HB1.out.size))
    clear hb5
    go_wp2
    go_ret
    exact ⟨rfl, HB5.out⟩
end Go.Proofs.YtekmldneinnmoaaDoor
