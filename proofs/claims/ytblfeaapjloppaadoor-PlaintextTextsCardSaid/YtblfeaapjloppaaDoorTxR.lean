/-
  cellularref31.Text. No condition.
-/
import Derived.Test.YtblfeaapjloppaaDoorTxW
import Derived.Test.YtblfeaapjloppaaDoorJ
namespace Go.Proofs.YtblfeaapjloppaaDoor
open Go.RowKit
set_option maxRecDepth 100000
set_option linter.unusedVariables false
set_option linter.unusedSimpArgs false

set_option maxHeartbeats 1000000 in
theorem char_any (s top : Int) (w : World) (h0 : 0 ≤ s) (h1 : s ≤ 7) : Calls Tryd.prog 27 #[.int .i64 s, .int .i64 top] w fun e w' => e = .returned (.int .u8 (chB top s).toNat) ∧ w' = w := by
  unfold chB
  by_cases hs : s = 0
  · subst hs
    go_enter Tryd.func27, Tryd.ntmps27
    go_wp2
    go_ret
    exact ⟨rfl, rfl⟩
  · have e0 : (s == 0) = false := by simpa using hs
    rw [if_neg hs]
    by_cases ht : top = 1
    · subst ht
      clear hs
      go_enter Tryd.func27, Tryd.ntmps27
      go_wp2
      go_ret
      exact ⟨rfl, rfl⟩
    · have e1 : (top == 1) = false := by simpa using ht
      rw [if_neg ht]
      have hw : wrap64 (48 + s) = 48 + s := by unfold wrap64; omega
      have hu : IntKind.u8.wrap (48 + s) = 48 + s := by rw [IntKind.wrap_u8]; omega
      have hc : (((UInt8.ofNat (48 + s).toNat).toNat : Nat) : Int) = 48 + s := by rw [UInt8.toNat_ofNat']; omega
      rw [hc]
      clear hs ht hc
      go_enter Tryd.func27, Tryd.ntmps27
      go_wp2
      go_ret
      exact ⟨rfl, rfl⟩
theorem wr_d {n : Nat} {y : Int} (h1 : n ≤ 15000000000) (h2 : 0 ≤ y) (h3 : y ≤ 1048576) : wrap64 ((n : Int) + y) = n + y := by unfold wrap64; omega
theorem wr_e {n : Nat} {y z : Int} (h1 : n ≤ 15000000000) (h2 : 0 ≤ y) (h3 : y ≤ 1048576) (h4 : 0 ≤ z) (h5 : z ≤ 1048577) : wrap64 ((n : Int) + y - z) = n + y - z := by unfold wrap64; omega
theorem wr_f {n y : Int} (h1 : 0 ≤ n ∧ n ≤ 16000000000) (h2 : 0 ≤ y) (h3 : y ≤ 1048576) : wrap64 (n + y) = n + y := by unfold wrap64; omega
theorem wr_g {n y : Int} (h1 : 0 ≤ n ∧ n ≤ 16000000000) (h2 : 0 ≤ y) (h3 : y ≤ 1048576) : wrap64 (n + y + 1) = n + y + 1 := by unfold wrap64; omega
theorem wr_h {n y z : Int} (h1 : 0 ≤ n ∧ n ≤ 16000000000) (h2 : 0 ≤ y) (h3 : y ≤ 1048576) (h4 : 0 ≤ z) (h5 : z ≤ 1048577) : wrap64 (n + y + 1 - z) = n + y + 1 - z := by unfold wrap64; omega
theorem len_step {top : Int} {t : TS} {c : Cel} (h0 : 0 ≤ t.x) (h1 : t.y ≤ c.y) (h2 : c.y ≤ t.y → t.x ≤ c.x) (hx : 0 ≤ c.x) :
    (((stepT top t c).out.length : Nat) : Int) = (if t.y < c.y then (t.out.length : Int) + c.y - t.y else t.out.length) + c.x + 1 - (if t.y < c.y then 0 else t.x) := by
  rw [step_len]
  split <;> omega
theorem rlen_bd {top : Int} {ps : List Cel} {k : Nat} {t : TS} (h : TI top ps k t) (hk : k ≤ 5000) : t.out.length ≤ 15000000000 := by
  have := h.nl
  omega
structure RcJ (w0 : World) (W0 : World) (S : Value) (o : Value) (g : Nat) (off : Nat) (k : Nat) (qs : Int) (top : Int) (ch : UInt8) (M : List UInt8) (b0 b1 b2 b3 b4 b5 b6 b7 b8 b9 b10 b11 : Bool) (v108 v109 v110 v111 v112 v113 v114 v115 v116 v117 v118 v8 : Value) (w : World) : Prop where
  below : Below w0.heap.size w0 w
  h0 : b0 = true → v108 = o
  h1 : b1 = true → v109 = S
  h2 : b2 = true → v110 = .int .i64 k
  h3 : b3 = true → v111 = .pointer (some ⟨g, off, none⟩)
  h4 : b4 = true → v112 = .pointer (some ⟨g, off + 2, none⟩)
  h5 : b5 = true → v113 = .int .i64 qs
  h6 : b6 = true → v114 = S
  h7 : b7 = true → v115 = .int .i64 top
  h8 : b8 = true → v116 = .int .u8 (ch.toNat : Int)
  h9 : b9 = true → v117 = .slice (some ⟨W0.heap.size, 0, none⟩) 1 1
  h10 : b10 = true → (b9 = true ∧ b0 = true) ∧ OwnB w w0.heap.size v118 (M ++ [ch])
  h11 : b11 = true → v8 = v118 ∧ b10 = true
  wa : b9 = false → w = W0.drew
  wb : b9 = true → b10 = false → w = W0.drew.alloc (.cells #[.int .u8 (ch.toNat : Int)] 5)
  wc : b11 = false → v8 = o
set_option maxHeartbeats 8000000 in
theorem rtext_any (A : Option Addr) (c : Nat) (ps : List Cel) (w : World) (ha : Cls w A ps) :
    Calls Tryd.prog 13 #[.slice A ps.length c] w (RetText (textT ps) w) := by
  have hn := ha.le
  have hR := rright_any A c ps w ha
  by_cases hr : rightC ps = false
  · have HN := Lib.hid (text_bad hr)
    rw [hr] at hR
    clear hr
    go_enter Tryd.func13, Tryd.ntmps13
    go_wp2_with (go_at_call 15; refine hR.mono ?_)
    rintro e w1 ⟨rfl, hb1⟩
    go_wp2
    go_ret2
    exact RetText.bad HN.out hb1
  have hr1 : rightC ps = true := by simpa using hr
  rw [hr1] at hR
  have HR := Lib.hid hr1
  have hl5 : ps.length ≤ 5000 := right_len hr1
  clear hr hr1
  obtain ⟨top, htop⟩ : ∃ top, top = topC ps := ⟨_, rfl⟩
  have HTOP := Lib.hid htop
  clear htop
  go_enter Tryd.func13, Tryd.ntmps13
  go_wp2_with (go_at_call 15; refine hR.mono ?_)
  rintro e w1 ⟨rfl, hb1⟩
  clear hR
  go_wp2
  have HA := Lib.hid ha
  have HB1 := Lib.hid hb1
  clear ha hb1
  go_loopw [4, 5, 6, 7] (fun n x y i wr => ∃ (k : Nat) (t : TS), k ≤ ps.length ∧ i = .int .i64 k ∧ n = .int .i64 t.out.length ∧ x = .int .i64 t.x ∧ y = .int .i64 t.y ∧ Hid (Below w.heap.size w wr) ∧ Hid ((ps.take k).any negB = false) ∧ Hid (TI top ps k t)) (fun _ _ _ i _ => ps.length - (intOf i).toNat)
  case atStart => exact ⟨0, ⟨[], 0, 0⟩, Nat.zero_le _, rfl, rfl, rfl, rfl, HB1, Lib.hid (by simp), Lib.hid TI.start⟩
  case round =>
    clear HB1
    obtain ⟨k, t, hk, rfl, rfl, rfl, rfl, HB, HT, HI⟩ := hrel
    by_cases hlt : k < ps.length
    · obtain ⟨gb, o1, e1, hbl, hc0, hc1, hc2⟩ := (HA.out.ext HB.out).at_ hlt
      have HQ := right_cel HR.out hlt
      have HNX := HI.out.nx hlt
      obtain ⟨q, hq⟩ : ∃ q, q = ps[k] := ⟨_, rfl⟩
      rw [← hq] at hc0 hc1 hc2 HQ HNX
      obtain ⟨qx, qy, qs⟩ := q
      dsimp only at hc0 hc1 hc2 HQ HNX
      have HQE := Lib.hid hq
      have HQ2 := Lib.hid HQ
      have HNX2 := Lib.hid HNX
      have hw1 : wrap64 ((k : Int) + 1) = (k : Int) + 1 := wr_c (by omega) (by omega)
      clear hq HQ HNX hc2
      subst e1
      by_cases h0 : qx < 0
      · have d0 : decide (qx < 0) = true := decide_eq_true h0
        have HN := Lib.hid (text_neg HR.out (any_yes hlt (by rw [← HQE.out]; unfold negB; dsimp only; rw [d0] <;> rfl)))
        clear h0
        go_wp2
        go_ret2
        exact RetText.bad HN.out HB.out
      have d0 : decide (qx < 0) = false := decide_eq_false h0
      by_cases h1 : qy < 0
      · have d1 : decide (qy < 0) = true := decide_eq_true h1
        have HN := Lib.hid (text_neg HR.out (any_yes hlt (by rw [← HQE.out]; unfold negB; dsimp only; rw [d0, d1] <;> rfl)))
        clear h0 h1
        go_wp2
        go_ret2
        exact RetText.bad HN.out HB.out
      have d1 : decide (qy < 0) = false := decide_eq_false h1
      have HN := Lib.hid (any_take HT.out hlt (by rw [← HQE.out]; unfold negB; dsimp only; rw [d0, d1] <;> rfl))
      have HNG2 : Hid (0 ≤ qx ∧ 0 ≤ qy) := Lib.hid ⟨Int.not_lt.1 h0, Int.not_lt.1 h1⟩
      have HX := Lib.hid (HNX2.out HNG2.out.1 HNG2.out.2)
      have HI2 := Lib.hid (HI.out.step HR.out hlt (by rw [← HQE.out]; exact HNG2.out.1) (by rw [← HQE.out]; exact HNG2.out.2))
      rw [← HQE.out] at HI2
      have HLS := Lib.hid (len_step (top := top) (t := t) (c := ⟨qx, qy, qs⟩) HI.out.x0 HX.out.1 HX.out.2 HNG2.out.1)
      have hlb := rlen_bd HI.out (Nat.le_trans hk hl5)
      have hwx : wrap64 (qx + 1) = qx + 1 := wr_c (by have := HQ2.out; omega) (by have := HQ2.out; omega)
      clear h0 h1 HNX2
      by_cases h2 : t.y < qy
      · have d2 : decide (t.y < qy) = true := decide_eq_true h2
        have hwa : wrap64 ((t.out.length : Int) + qy) = t.out.length + qy := wr_d hlb HNG2.out.2 HQ2.out.2.2.2.1
        have hwb : wrap64 ((t.out.length : Int) + qy - t.y) = t.out.length + qy - t.y := wr_e hlb HNG2.out.2 HQ2.out.2.2.2.1 HI.out.y0 (by have := HI.out.y1; omega)
        have hwc : wrap64 ((t.out.length : Int) + qy - t.y + qx) = t.out.length + qy - t.y + qx := wr_f (by have := HQ2.out; have := HI.out.y0; have := HI.out.y1; have := HNG2.out; omega) HNG2.out.1 HQ2.out.2.1
        have hwd : wrap64 ((t.out.length : Int) + qy - t.y + qx + 1) = t.out.length + qy - t.y + qx + 1 := wr_g (by have := HQ2.out; have := HI.out.y0; have := HI.out.y1; have := HNG2.out; omega) HNG2.out.1 HQ2.out.2.1
        have HNE : Hid ((t.out.length : Int) + qy - t.y + qx + 1 = ((stepT top t ⟨qx, qy, qs⟩).out.length : Nat)) := Lib.hid (by
          have h := HLS.out
          dsimp only at h
          rw [if_pos h2, if_pos h2] at h
          omega)
        have hc0' : wr.drew.cell? ⟨gb, o1 + k * 3, none⟩ = some (.int .i64 qx) := hc0
        have hc1' : wr.drew.cell? ⟨gb, o1 + k * 3 + 1, none⟩ = some (.int .i64 qy) := hc1
        have HBd : Hid (Below w.heap.size w wr.drew) := Lib.hid HB.out.drew
        clear h2
        go_wp2
        go_region
        go_wp2
        go_roundw
        case rel => exact ⟨k + 1, _, hlt, rfl, (by rw [← HNE.out, hwd]), (by rw [hwx]; rfl), rfl, HBd, HN, HI2⟩
        case measure => exact ms_up hlt
      · have d2 : decide (t.y < qy) = false := decide_eq_false h2
        have hwc : wrap64 ((t.out.length : Int) + qx) = t.out.length + qx := wr_d hlb HNG2.out.1 HQ2.out.2.1
        have hwd : wrap64 ((t.out.length : Int) + qx + 1) = t.out.length + qx + 1 := wr_g (by omega) HNG2.out.1 HQ2.out.2.1
        have hwe : wrap64 ((t.out.length : Int) + qx + 1 - t.x) = t.out.length + qx + 1 - t.x := wr_h (by omega) HNG2.out.1 HQ2.out.2.1 HI.out.x0 HI.out.x1
        have hyq : t.y = qy := by have := HX.out.1; omega
        have HNE : Hid ((t.out.length : Int) + qx + 1 - t.x = ((stepT top t ⟨qx, qy, qs⟩).out.length : Nat)) := Lib.hid (by
          have h := HLS.out
          dsimp only at h
          rw [if_neg h2, if_neg h2] at h
          omega)
        have HYQ := Lib.hid hyq
        clear h2 hyq
        go_wp2
        go_roundw
        case rel => exact ⟨k + 1, _, hlt, rfl, (by rw [← HNE.out, hwe]), (by rw [hwx]; rfl), (by rw [HYQ.out] <;> rfl), HB, HN, HI2⟩
        case measure => exact ms_up hlt
    · obtain rfl : k = ps.length := by omega
      have dk : decide ((ps.length : Int) < ps.length) = false := decide_eq_false (by omega)
      have HNG : Hid (ps.any negB = false) := Lib.hid (by have h := HT.out; rwa [List.take_length] at h)
      have HLB : Hid ((bodyT ps).length = t.out.length + if ps = [] then 0 else 1) := Lib.hid (by
        rw [body_len, ← HTOP.out]
        have h := HI.out.e
        rw [List.take_length] at h
        rw [← h])
      have hlb := rlen_bd HI.out hl5
      have hwn : wrap64 ((t.out.length : Int) + 1) = t.out.length + 1 := by have := wr_d (n := t.out.length) (y := 1) hlb (by omega) (by omega); exact this
      clear hk hlt HT
      by_cases hbig : 0 < ps.length ∧ 65536 < t.out.length + 1
      · have d0 : decide ((0 : Int) < ps.length) = true := decide_eq_true (by omega)
        have d1 : decide ((65536 : Int) < (t.out.length : Int) + 1) = true := decide_eq_true (by omega)
        have HN := Lib.hid (text_far HR.out HNG.out (by rw [HLB.out, if_neg (List.length_pos_iff.1 hbig.1)]; exact hbig.2))
        obtain ⟨h0, hb0⟩ := hbig
        go_wp2
        go_ret2
        exact RetText.bad HN.out HB.out
      · have HN := Lib.hid (text_ok HR.out HNG.out (by
          rw [HLB.out]
          by_cases he : ps = []
          · subst he
            have h := HI.out.nl
            simp at h
            rw [if_pos rfl, h]
            decide
          · rw [if_neg he]
            exact fun h => hbig ⟨List.length_pos_iff.2 he, h⟩))
        have HFL : Hid ((foldT top ps).out.length ≤ 65536) := Lib.hid (by
          have h := HI.out.e
          rw [List.take_length] at h
          rw [← h]
          by_cases he : ps = []
          · subst he
            have h := HI.out.nl
            simp at h
            rw [h]
            decide
          · have := List.length_pos_iff.2 he
            omega)
        have HD0 : Hid (0 < ps.length → decide ((65536 : Int) < (t.out.length : Int) + 1) = false) := Lib.hid (fun h => decide_eq_false (by omega))
        clear hbig HLB hlb
        obtain ⟨N, hN⟩ : ∃ N, N = t.out.length := ⟨_, rfl⟩
        rw [← hN] at hwn HD0 ⊢
        clear hN
        have hd := (Decidable.em (0 < ps.length))
        rcases hd with h0 | h0
        · have d0 : decide ((0 : Int) < ps.length) = true := decide_eq_true (by omega)
          have d1 := HD0.out h0
          go_wp2
          go_loopw [5, 6, 8, 9] (fun x y o i wz => ∃ (k : Nat) (t : TS), k ≤ ps.length ∧ i = .int .i64 k ∧ OwnB wz w.heap.size o t.out ∧ x = .int .i64 t.x ∧ y = .int .i64 t.y ∧ Hid (Below w.heap.size w wz) ∧ Hid (TI top ps k t)) (fun _ _ _ i _ => ps.length - (intOf i).toNat)
          case atStart => exact ⟨0, ⟨[], 0, 0⟩, Nat.zero_le _, rfl, OwnB.nil _ _, rfl, rfl, HB, Lib.hid TI.start⟩
          case round =>
            clear HB HI HD0 hwn d1
            obtain ⟨wz, rfl⟩ : ∃ wz : World, wz = wr := ⟨_, rfl⟩
            obtain ⟨k, t, hk, rfl, hown, rfl, rfl, HB, HI⟩ := hrel
            have HL : Hid (t.out.length ≤ 65536) := Lib.hid (by
              have h := foldT_le top ps k
              rw [← HI.out.e] at h
              exact Nat.le_trans h HFL.out)
            by_cases hlt : k < ps.length
            · obtain ⟨gb, o1, e1, hbl, hc0, hc1, hc2⟩ := HA.out.at_ hlt
              have HQ := right_cel HR.out hlt
              have HS := HTOP.out ▸ top_ge hlt
              have HNG2 := neg_no HNG.out hlt
              have HNX := HI.out.nx hlt HNG2.1 HNG2.2
              have HTB := HTOP.out ▸ (top_bd HR.out)
              obtain ⟨q, hq⟩ : ∃ q, q = ps[k] := ⟨_, rfl⟩
              rw [← hq] at hc0 hc1 hc2 HQ HS HNX HNG2
              obtain ⟨qx, qy, qs⟩ := q
              dsimp only at hc0 hc1 hc2 HQ HS HNX HNG2
              have HQE := Lib.hid hq
              have HI2 := Lib.hid (HI.out.step HR.out hlt (by rw [← HQE.out]; exact HNG2.1) (by rw [← HQE.out]; exact HNG2.2))
              rw [← HQE.out] at HI2
              have HC0 := Lib.hid (And.intro hbl (And.intro hc0 (And.intro hc1 hc2)))
              have hw1 : wrap64 ((k : Int) + 1) = (k : Int) + 1 := wr_c (by omega) (by omega)
              have HQ2 := Lib.hid (And.intro HQ (And.intro HNG2 (And.intro HNX HS)))
              have HTB2 := Lib.hid HTB
              have HO0 := Lib.hid hown
              clear hq HQ HNG2 HNX HS HTB hown hc0 hc1 hc2
              go_upto_region 21 with fail
              subst e1
              go_loopw [5, 6, 8] (fun x y o wb => ∃ (j : Nat) (L : List UInt8) (xv : Int), y = .int .i64 (t.y + j) ∧ t.y + j ≤ qy ∧ x = .int .i64 xv ∧ Hid (xv = if j = 0 then t.x else 0) ∧ Hid (L = t.out ++ List.replicate j 10) ∧ Hid (OwnB wb w.heap.size o L) ∧ Hid (Below w.heap.size w wb)) (fun _ y _ _ => (qy - (intOf y)).toNat)
              case atStart => exact ⟨0, t.out, t.x, by simp, by have := HQ2.out.2.2.1.1; simpa using this, rfl, Lib.hid rfl, Lib.hid (by simp), HO0, HB⟩
              case round =>
                obtain ⟨j, L, x', rfl, hj, rfl, HXE, HLE, HO, HBb⟩ := hrel
                have x1 := (HBb.out.cell (p := ⟨gb, o1 + k * 3 + 1, none⟩) HC0.out.1).trans HC0.out.2.2.1
                by_cases hjl : t.y + j < qy
                · have dj : decide (t.y + (j : Int) < qy) = true := decide_eq_true hjl
                  have hwy : wrap64 (t.y + (j : Int) + 1) = t.y + j + 1 := gap_in rfl HI.out.y0 (by have := HQ2.out.1; omega)
                  have hown3 := HO.out
                  have hln3 : L.length < 4294967296 := len_32 (by rw [HLE.out, List.length_append, List.length_replicate]) HL.out (by have := HQ2.out.1; have := HI.out.y0; omega)
                  have hbs3 := HBb.out.size
                  have hjl2 := Lib.hid hjl
                  clear hjl
                  go_wp2_with (at_builtin; refine wpList_pushB rfl _ _ rfl w.heap.size _ _ rfl hown3 10 _ rfl rfl hln3 hbs3 ?_)
                  intro v' w9 ho9 hb9 hk9
                  have HO9 := Lib.hid ho9
                  have HB9 := Lib.hid (HBb.out.trans hb9)
                  clear ho9 hb9 hk9 hown3
                  go_wp2
                  go_roundw
                  case rel => exact ⟨j + 1, _, 0, (by rw [hwy, Int.natCast_add, ← Int.add_assoc]; rfl), (by have := hjl2.out; omega), rfl, Lib.hid (by rw [if_neg (by omega)]), Lib.hid (by rw [HLE.out, rep_snoc]), HO9, HB9⟩
                  case measure => rw [hwy]; exact ms_gap hjl2.out
                · have dj : decide (t.y + (j : Int) < qy) = false := decide_eq_false hjl
                  have hjq : t.y + j = qy := by omega
                  have HJ : Hid (j = (qy - t.y).toNat) := Lib.hid (by omega)
                  have HX : Hid (x' = if t.y < qy then 0 else t.x) := Lib.hid (by
                    rw [HXE.out]
                    by_cases h : j = 0
                    · rw [if_pos h, if_neg (by omega)]
                    · rw [if_neg h, if_pos (by omega)])
                  have HXB : Hid (0 ≤ x' ∧ x' ≤ qx) := Lib.hid (by
                    have h1 := HX.out
                    have h2 := HQ2.out
                    have h3 := HI.out.x0
                    rw [h1]
                    split <;> omega)
                  clear hj hjl HXE
                  rw [hjq] at dj ⊢
                  clear hjq
                  go_wp2
                  clear dj
                  obtain ⟨wb, rfl⟩ : ∃ wb : World, wb = wr := ⟨_, rfl⟩
                  go_loopw [5, 8] (fun x o wc => ∃ (i : Nat) (M : List UInt8), x = .int .i64 (x' + i) ∧ x' + i ≤ qx ∧ Hid (M = L ++ List.replicate i 46) ∧ Hid (OwnB wc w.heap.size o M) ∧ Hid (Below w.heap.size w wc)) (fun x _ _ => (qx - (intOf x)).toNat)
                  case atStart => exact ⟨0, L, by simp, by have := HXB.out.2; simpa using this, Lib.hid (by simp), HO, HBb⟩
                  case round =>
                    clear HO HBb x1
                    obtain ⟨i, M, rfl, hi, HME, HO, HBb⟩ := hrel
                    have x0 := (HBb.out.cell (p := ⟨gb, o1 + k * 3, none⟩) HC0.out.1).trans HC0.out.2.1
                    have hln3 : M.length < 4294967296 := len_33 (by rw [HME.out, HLE.out, List.length_append, List.length_append, List.length_replicate, List.length_replicate]) HL.out HJ.out (by have := HQ2.out.1; have := HI.out.y0; omega) (by have := HQ2.out.1; have := HXB.out; omega)
                    by_cases hil : x' + i < qx
                    · have di : decide (x' + (i : Int) < qx) = true := decide_eq_true hil
                      have hwx : wrap64 (x' + (i : Int) + 1) = x' + i + 1 := gap_in rfl HXB.out.1 (by have := HQ2.out.1; omega)
                      have hown3 := HO.out
                      have hbs3 := HBb.out.size
                      have hil2 := Lib.hid hil
                      clear hil
                      go_wp2_with (at_builtin; refine wpList_pushB rfl _ _ rfl w.heap.size _ _ rfl hown3 46 _ rfl rfl hln3 hbs3 ?_)
                      intro v' w9 ho9 hb9 hk9
                      have HO9 := Lib.hid ho9
                      have HB9 := Lib.hid (HBb.out.trans hb9)
                      clear ho9 hb9 hk9 hown3
                      go_wp2
                      go_roundw
                      case rel => exact ⟨i + 1, _, (by rw [hwx, Int.natCast_add, ← Int.add_assoc]; rfl), (by have := hil2.out; omega), Lib.hid (by rw [HME.out, rep_snoc]), HO9, HB9⟩
                      case measure => rw [hwx]; exact ms_gap hil2.out
                    · have di : decide (x' + (i : Int) < qx) = false := decide_eq_false hil
                      have hiq : x' + i = qx := by omega
                      have HIQ : Hid (i = (qx - x').toNat) := Lib.hid (by omega)
                      have HST := Lib.hid (step_eq top t qx qy qs HJ.out HX.out HIQ.out)
                      rw [← HST.out, ← HLE.out, ← HME.out] at HI2
                      have hwx : wrap64 (qx + 1) = qx + 1 := wr_c (by have := HQ2.out.1; omega) (by have := HQ2.out.1; omega)
                      have HLN := Lib.hid hln3
                      clear hil hi HST hln3
                      rw [hiq] at di ⊢
                      clear hiq
                      go_wp2
                      obtain ⟨ch, hch⟩ : ∃ ch, ch = chB top qs := ⟨_, rfl⟩
                      have HCH := Lib.hid hch
                      rw [← hch] at HI2
                      clear hch
                      refine wp_region_J (by kernel_rfl) (fun listed act w' => ∃ b0 b1 b2 b3 b4 b5 b6 b7 b8 b9 b10 b11 v108 v109 v110 v111 v112 v113 v114 v115 v116 v117 v118 v8, listed = #[b0, b1, b2, b3, b4, b5, b6, b7, b8, b9, b10, b11] ∧ act = Act.mk #[.slice (some ⟨gb, o1, none⟩) ps.length c, undef, u2, u3, .int .i64 N, .int .i64 qx, .int .i64 qy, .int .i64 ps.length, v8, .int .i64 k, .slice (some ⟨gb, o1, none⟩) ps.length c, .bool true, .bool false, .int .i64 ps.length, .slice (some ⟨gb, o1, none⟩) ps.length c, .int .i64 ps.length, .bool false, u17, u18, u19, u20, u21, u22, u23, u24, u25, u26, u27, u28, u29, u30, u31, u32, u33, u34, u35, u36, u37, u38, u39, u40, u41, u42, u43, u44, u45, u46, u47, u48, u49, u50, u51, u52, u53, u54, u55, u56, u57, u58, u59, u60, u61, u62, u63, u64, u65, u66, u67, u68, u69, .slice (some ⟨gb, o1, none⟩) ps.length c, .int .i64 ps.length, .bool true, .bool true, .int .i64 N, .int .i64 (wrap64 (N + 1)), .bool false, .bool false, .int .i64 k, .slice (some ⟨gb, o1, none⟩) ps.length c, .int .i64 ps.length, .bool true, u82, u83, .int .i64 qy, .slice (some ⟨gb, o1, none⟩) ps.length c, .int .i64 k, .pointer (some ⟨gb, o1 + k * 3, none⟩), .pointer (some ⟨gb, o1 + k * 3 + 1, none⟩), .int .i64 qy, .bool false, u91, u92, u93, u94, u95, .int .i64 qx, .slice (some ⟨gb, o1, none⟩) ps.length c, .int .i64 k, .pointer (some ⟨gb, o1 + k * 3, none⟩), .pointer (some ⟨gb, o1 + k * 3, none⟩), .int .i64 qx, .bool false, u103, u104, u105, u106, u107, v108, v109, v110, v111, v112, v113, v114, v115, v116, v117, v118, u119, u120, undef, undef, undef, undef, undef, undef, undef, undef] [] ∧ RcJ w wr (.slice (some ⟨gb, o1, none⟩) ps.length c) u8 gb (o1 + k * 3) k qs top ch M b0 b1 b2 b3 b4 b5 b6 b7 b8 b9 b10 b11 v108 v109 v110 v111 v112 v113 v114 v115 v116 v117 v118 v8 w') ?_ ?_ ?_
                      · exact ⟨_, _, _, _, _, _, _, _, _, _, _, _, _, _, _, _, _, _, _, _, _, _, _, _, rfl, rfl, ⟨HBb.out.drew, (by simp), (by simp), (by simp), (by simp), (by simp), (by simp), (by simp), (by simp), (by simp), (by simp), (by simp), (by simp), (fun _ => rfl), (by simp), (fun _ => rfl)⟩⟩
                      · rintro i listed act w' hi ⟨b0, b1, b2, b3, b4, b5, b6, b7, b8, b9, b10, b11, v108, v109, v110, v111, v112, v113, v114, v115, v116, v117, v118, v8, rfl, rfl, H⟩
                        have hi16 : i < 12 := by
                          obtain ⟨-, o, ho, -⟩ := mem_ready.1 hi
                          exact (Array.getElem?_eq_some_iff.1 ho).1
                        obtain rfl | rfl | rfl | rfl | rfl | rfl | rfl | rfl | rfl | rfl | rfl | rfl : i = 0 ∨ i = 1 ∨ i = 2 ∨ i = 3 ∨ i = 4 ∨ i = 5 ∨ i = 6 ∨ i = 7 ∨ i = 8 ∨ i = 9 ∨ i = 10 ∨ i = 11 := by omega
                        all_goals simp [mem_ready, Region.binds] at hi
                        · have h11f : b11 = false := by
                            cases hb : b11 with
                            | false => rfl
                            | true => exact absurd (H.h10 (H.h11 hb).2).1.2 (by simp [hi])
                          obtain rfl := H.wc h11f
                          refine wpOp_hidden rfl fun K hK => ?_
                          go_wp2
                          refine OnlyN.mk (hK.out _ _ ⟨true, _, _, _, _, _, _, _, _, _, _, _, _, _, _, _, _, _, _, _, _, _, _, _, rfl, rfl, ⟨H.below, fun _ => rfl, H.h1, H.h2, H.h3, H.h4, H.h5, H.h6, H.h7, H.h8, H.h9, (fun h => ⟨⟨(H.h10 h).1.1, rfl⟩, (H.h10 h).2⟩), H.h11, H.wa, H.wb, H.wc⟩⟩)
                        · refine wpOp_hidden rfl fun K hK => ?_
                          go_wp2
                          refine OnlyN.mk (hK.out _ _ ⟨_, true, _, _, _, _, _, _, _, _, _, _, _, .slice (some ⟨gb, o1, none⟩) ps.length c, _, _, _, _, _, _, _, _, _, _, rfl, rfl, ⟨H.below, H.h0, fun _ => rfl, H.h2, H.h3, H.h4, H.h5, H.h6, H.h7, H.h8, H.h9, H.h10, H.h11, H.wa, H.wb, H.wc⟩⟩)
                        · refine wpOp_hidden rfl fun K hK => ?_
                          go_wp2
                          refine OnlyN.mk (hK.out _ _ ⟨_, _, true, _, _, _, _, _, _, _, _, _, _, _, .int .i64 k, _, _, _, _, _, _, _, _, _, rfl, rfl, ⟨H.below, H.h0, H.h1, fun _ => rfl, H.h3, H.h4, H.h5, H.h6, H.h7, H.h8, H.h9, H.h10, H.h11, H.wa, H.wb, H.wc⟩⟩)
                        · obtain rfl := H.h1 (by simp [hi])
                          obtain rfl := H.h2 (by simp [hi])
                          have hkl : k < ps.length := hlt
                          refine wpOp_hidden rfl fun K hK => ?_
                          go_wp2
                          refine OnlyN.mk (hK.out _ _ ⟨_, _, _, true, _, _, _, _, _, _, _, _, _, _, _, .pointer (some ⟨gb, o1 + k * 3, none⟩), _, _, _, _, _, _, _, _, rfl, rfl, ⟨H.below, H.h0, H.h1, H.h2, fun _ => rfl, H.h4, H.h5, H.h6, H.h7, H.h8, H.h9, H.h10, H.h11, H.wa, H.wb, H.wc⟩⟩)
                        · obtain rfl := H.h3 (by simp [hi])
                          refine wpOp_hidden rfl fun K hK => ?_
                          go_wp2
                          refine OnlyN.mk (hK.out _ _ ⟨_, _, _, _, true, _, _, _, _, _, _, _, _, _, _, _, .pointer (some ⟨gb, o1 + k * 3 + 2, none⟩), _, _, _, _, _, _, _, rfl, rfl, ⟨H.below, H.h0, H.h1, H.h2, H.h3, fun _ => rfl, H.h5, H.h6, H.h7, H.h8, H.h9, H.h10, H.h11, H.wa, H.wb, H.wc⟩⟩)
                        · obtain rfl := H.h4 (by simp [hi])
                          have cc := (H.below.cell (p := ⟨gb, o1 + k * 3 + 2, none⟩) HC0.out.1).trans HC0.out.2.2.2
                          refine wpOp_hidden rfl fun K hK => ?_
                          go_wp2
                          refine OnlyN.mk (hK.out _ _ ⟨_, _, _, _, _, true, _, _, _, _, _, _, _, _, _, _, _, .int .i64 qs, _, _, _, _, _, _, rfl, rfl, ⟨H.below, H.h0, H.h1, H.h2, H.h3, H.h4, fun _ => rfl, H.h6, H.h7, H.h8, H.h9, H.h10, H.h11, H.wa, H.wb, H.wc⟩⟩)
                        · refine wpOp_hidden rfl fun K hK => ?_
                          go_wp2
                          refine OnlyN.mk (hK.out _ _ ⟨_, _, _, _, _, _, true, _, _, _, _, _, _, _, _, _, _, _, .slice (some ⟨gb, o1, none⟩) ps.length c, _, _, _, _, _, rfl, rfl, ⟨H.below, H.h0, H.h1, H.h2, H.h3, H.h4, H.h5, fun _ => rfl, H.h7, H.h8, H.h9, H.h10, H.h11, H.wa, H.wb, H.wc⟩⟩)
                        · obtain rfl := H.h6 (by simp [hi])
                          have HT9 := Lib.hid (rtop_any (some ⟨gb, o1, none⟩) c ps w' (HA.out.ext H.below))
                          rw [← HTOP.out] at HT9
                          refine wpOp_hidden rfl fun K hK => ?_
                          go_wp2_with fail
                          refine (HT9.out).mono ?_
                          rintro e w9 ⟨rfl, hw9⟩
                          have hw8 := hw9.symm
                          clear hw9
                          subst hw8
                          go_wp2
                          refine OnlyN.mk (hK.out _ _ ⟨_, _, _, _, _, _, _, true, _, _, _, _, _, _, _, _, _, _, _, .int .i64 top, _, _, _, _, rfl, rfl, ⟨H.below, H.h0, H.h1, H.h2, H.h3, H.h4, H.h5, H.h6, fun _ => rfl, H.h8, H.h9, H.h10, H.h11, H.wa, H.wb, H.wc⟩⟩)
                        · obtain rfl := H.h5 (by simp [hi])
                          obtain rfl := H.h7 (by simp [hi])
                          have HC9 := Lib.hid (char_any qs top w' (by have := HQ2.out.1; omega) (by have := HQ2.out.1; omega))
                          rw [← HCH.out] at HC9
                          refine wpOp_hidden rfl fun K hK => ?_
                          go_wp2_with fail
                          refine (HC9.out).mono ?_
                          rintro e w9 ⟨rfl, hw9⟩
                          have hw8 := hw9.symm
                          clear hw9
                          subst hw8
                          go_wp2
                          refine OnlyN.mk (hK.out _ _ ⟨_, _, _, _, _, _, _, _, true, _, _, _, _, _, _, _, _, _, _, _, .int .u8 (ch.toNat : Int), _, _, _, rfl, rfl, ⟨H.below, H.h0, H.h1, H.h2, H.h3, H.h4, H.h5, H.h6, H.h7, fun _ => rfl, H.h9, H.h10, H.h11, H.wa, H.wb, H.wc⟩⟩)
                        · obtain rfl := H.h8 (by simp [hi])
                          have hw := H.wa (by simp [hi])
                          subst hw
                          refine wpOp_hidden rfl fun K hK => ?_
                          go_wp2
                          refine OnlyN.mk (hK.out _ _ ⟨_, _, _, _, _, _, _, _, _, true, _, _, _, _, _, _, _, _, _, _, _, .slice (some ⟨wr.heap.size, 0, none⟩) 1 1, _, _, rfl, rfl, ⟨H.below.alloc HBb.out.size _, H.h0, H.h1, H.h2, H.h3, H.h4, H.h5, H.h6, H.h7, H.h8, fun _ => rfl, (fun h => absurd (H.h10 h).1.1 (by simp [hi])), H.h11, (fun h => by cases h), (fun _ _ => rfl), H.wc⟩⟩)
                        · obtain rfl := H.h0 (by simp [hi])
                          obtain rfl := H.h9 (by simp [hi])
                          have hb9t : b9 = true := by simp [hi]
                          subst hb9t
                          have hw := H.wb rfl (by simp [hi])
                          subst hw
                          have hown3 : OwnB wr.drew w.heap.size v108 M := HO.out
                          have hbs3 : w.heap.size ≤ wr.drew.heap.size := HBb.out.size
                          refine wpOp_hidden rfl fun K hK => ?_
                          refine wpList_pushB rfl _ _ rfl w.heap.size _ _ rfl hown3 ch _ rfl rfl HLN.out hbs3 ?_
                          intro v' w9 ho9 hb9 hk9
                          have HO9 := Lib.hid ho9
                          have HB9 : Hid (Below w.heap.size w w9) := Lib.hid (HBb.out.drew.trans hb9)
                          clear ho9 hb9 hk9 hown3
                          go_wp2
                          refine OnlyN.mk (hK.out _ _ ⟨_, _, _, _, _, _, _, _, _, _, true, _, _, _, _, _, _, _, _, _, _, _, v', _, rfl, rfl, ⟨HB9.out, H.h0, H.h1, H.h2, H.h3, H.h4, H.h5, H.h6, H.h7, H.h8, H.h9, fun _ => ⟨⟨rfl, (by simp [hi])⟩, HO9.out⟩, fun h => absurd (H.h11 h).2 (by simp [hi]), (fun h => by cases h), (fun _ h => by cases h), H.wc⟩⟩)
                        · have hb10t : b10 = true := by simp [hi]
                          subst hb10t
                          refine wpOp_hidden rfl fun K hK => ?_
                          go_wp2
                          refine OnlyN.mk (hK.out _ _ ⟨_, _, _, _, _, _, _, _, _, _, _, true, _, _, _, _, _, _, _, _, _, _, _, _, rfl, rfl, ⟨H.below, H.h0, H.h1, H.h2, H.h3, H.h4, H.h5, H.h6, H.h7, H.h8, H.h9, H.h10, fun _ => ⟨rfl, rfl⟩, H.wa, H.wb, (fun h => by cases h)⟩⟩)
                      · rintro listed act w' hr ⟨b0, b1, b2, b3, b4, b5, b6, b7, b8, b9, b10, b11, v108, v109, v110, v111, v112, v113, v114, v115, v116, v117, v118, v8, rfl, rfl, H⟩
                        have hn := List.eq_nil_iff_forall_not_mem.1 hr
                        have r0 := hn 0
                        simp [mem_ready, Region.binds] at r0
                        subst r0
                        have r1 := hn 1
                        simp [mem_ready, Region.binds] at r1
                        subst r1
                        have r2 := hn 2
                        simp [mem_ready, Region.binds] at r2
                        subst r2
                        have r3 := hn 3
                        simp [mem_ready, Region.binds] at r3
                        subst r3
                        have r4 := hn 4
                        simp [mem_ready, Region.binds] at r4
                        subst r4
                        have r5 := hn 5
                        simp [mem_ready, Region.binds] at r5
                        subst r5
                        have r6 := hn 6
                        simp [mem_ready, Region.binds] at r6
                        subst r6
                        have r7 := hn 7
                        simp [mem_ready, Region.binds] at r7
                        subst r7
                        have r8 := hn 8
                        simp [mem_ready, Region.binds] at r8
                        subst r8
                        have r9 := hn 9
                        simp [mem_ready, Region.binds] at r9
                        subst r9
                        have r10 := hn 10
                        simp [mem_ready, Region.binds] at r10
                        subst r10
                        have r11 := hn 11
                        simp [mem_ready, Region.binds] at r11
                        subst r11
                        dsimp only
                        obtain rfl := (H.h11 rfl).1
                        have HO9 := Lib.hid (H.h10 rfl).2
                        have HB9 := Lib.hid H.below
                        clear H hr hn
                        go_wp2
                        go_roundw
                        case rel => exact ⟨k + 1, _, hlt, rfl, HO9.out, (by rw [hwx]), rfl, HB9, HI2⟩
                        case measure => exact ms_up hlt
            · obtain rfl : k = ps.length := by omega
              have HD := Lib.hid ((show TI (topC ps) ps ps.length t by rw [← HTOP.out]; exact HI.out).done)
              have dk : decide ((ps.length : Int) < ps.length) = false := decide_eq_false (by omega)
              have hne : ps ≠ [] := List.length_pos_iff.1 h0
              have HD2 : Hid (t.out ++ [10] = bodyT ps) := Lib.hid (by have h := HD.out; rwa [if_neg hne] at h)
              have hbs3 := HB.out.size
              have hln3 : t.out.length < 4294967296 := Nat.lt_of_le_of_lt HL.out (by decide)
              have hown3 := hown
              clear hne HD hown hk hlt
              go_wp2_with (at_builtin; refine wpList_pushB rfl _ _ rfl w.heap.size _ _ rfl hown3 10 _ rfl rfl hln3 hbs3 ?_)
              intro v' w9 ho9 hb9 hk9
              obtain ⟨A9, c9, hv9⟩ := ho9.form
              rw [List.length_append, List.length_singleton] at hv9
              subst hv9
              have hcv := back_any (c := c9) (l := t.out ++ [10]) (by rw [List.length_append, List.length_singleton]; exact ho9)
              rw [List.length_append, List.length_singleton] at hcv
              rw [HD2.out] at hcv
              have HB9 := Lib.hid (HB.out.trans hb9)
              clear ho9 hb9 hk9 hown3
              go_wp2
              go_ret2
              exact ⟨(by rw [HN.out]; rfl), HB9.out⟩
        · have hne : ps = [] := List.eq_nil_of_length_eq_zero (by omega)
          subst hne
          have hcv := back_nil wr 0
          have HE : Hid (bodyT [] = []) := Lib.hid rfl
          clear HD0
          obtain ⟨wq, rfl⟩ : ∃ wq : World, wq = wr := ⟨_, rfl⟩
          go_wp2
          go_loopw [5, 6, 8, 9] (fun _ _ o i wz => i = .int .i64 0 ∧ o = .slice none 0 0 ∧ wz = wq) (fun _ _ _ _ _ => 0)
          case atStart => exact ⟨rfl, rfl, rfl⟩
          case round =>
            obtain ⟨rfl, rfl, rfl⟩ := hrel
            go_wp2
            go_ret2
            exact ⟨(by rw [HN.out, HE.out]; rfl), HB.out⟩
end Go.Proofs.YtblfeaapjloppaaDoor
