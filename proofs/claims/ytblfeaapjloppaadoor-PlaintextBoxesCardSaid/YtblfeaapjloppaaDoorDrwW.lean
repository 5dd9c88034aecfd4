/-
  plaintext.Draw. No condition.
-/
import Derived.Test.YtblfeaapjloppaaDoorDrw
namespace Go.Proofs.YtblfeaapjloppaaDoor
open Go.RowKit
set_option maxRecDepth 100000
set_option linter.unusedVariables false
set_option linter.unusedSimpArgs false

theorem wm_1 {a : Int} (h : 1 ≤ a ∧ a < 2097154) : wrap64 (a + 1) = a + 1 := by unfold wrap64; omega
theorem wm_2 {a b : Int} (h : 1 ≤ a ∧ a < 2097154) (h2 : 1 ≤ b ∧ b < 2097154) : wrap64 ((a + 1) * b) = (a + 1) * b := by
  have h3 : (a + 1) * b ≤ 2097154 * 2097154 := Int.mul_le_mul (by omega) (by omega) (by omega) (by omega)
  have h4 : 0 ≤ (a + 1) * b := Int.mul_nonneg (by omega) (by omega)
  unfold wrap64
  omega
theorem bytes_app (a b : List UInt8) : (⟨a.toArray⟩ ++ ⟨b.toArray⟩ : ByteArray) = ⟨(a ++ b).toArray⟩ := by
  apply ByteArray.ext
  simp [ByteArray.data_append]
theorem line_bytes (b : Bx) (n : Nat) (h : n = b.w.toNat) : (⟨(Lib.repeatL (⟨#[46]⟩ : ByteArray).data.toList n).toArray⟩ ++ ⟨#[10]⟩ : ByteArray) = ⟨(lineG b).toArray⟩ := by
  have h2 : Lib.repeatL [46] n = List.replicate n 46 := by
    have h := Lib.repeatL_replicate 46 1 n
    rw [Nat.mul_one] at h
    exact h
  have h3 := bytes_app (Lib.repeatL [46] n) [10]
  rw [h2] at h3
  unfold lineG
  rw [← h, ← h3, ← h2]
theorem wr_m {a : Int} (h : 0 ≤ a) (h2 : a ≤ 65536) : wrap64 a = a := by unfold wrap64; omega
theorem wr_n {a x : Int} (h : 0 ≤ a) (h2 : a ≤ 65536) (h3 : -1048576 ≤ x ∧ x ≤ 1048576) : wrap64 (a + x) = a + x := by unfold wrap64; omega
theorem wr_i {a : Nat} (h : a ≤ 65536) : wrap64 (a : Int) = a := by unfold wrap64; omega
theorem dot_first : ∀ (n : Nat), 1 ≤ n → ∃ h : 0 < (⟨(List.replicate n (46 : UInt8) ++ [10]).toArray⟩ : ByteArray).size, (⟨(List.replicate n (46 : UInt8) ++ [10]).toArray⟩ : ByteArray)[0]'h = 46
  | 0, h => by omega
  | n + 1, _ => ⟨by show 0 < (List.replicate (n + 1) (46 : UInt8) ++ [10]).length; simp, rfl⟩
theorem line_first (b : Bx) (h : 1 ≤ b.w) : ∃ h : 0 < (⟨(lineG b).toArray⟩ : ByteArray).size, (⟨(lineG b).toArray⟩ : ByteArray)[0]'h = 46 := dot_first b.w.toNat (by omega)
set_option maxHeartbeats 8000000 in
theorem draw_any (A : Option Addr) (c : Nat) (ps : List Cel) (b : Bx) (w : World) (ha : Cls w A ps) :
    Calls Tryd.prog 14 #[.slice A ps.length c, bxV b] w (RetText (drawT ps b) w) := by
  have hn := ha.le
  obtain ⟨bx, bY, bw, bh⟩ := b
  have hX := fun w => rightX_any ⟨bx, bY, bw, bh⟩ w
  have hnb := below_new w (.cells #[.int .i64 bx, .int .i64 bY, .int .i64 bw, .int .i64 bh] 37)
  have p0 := Blk.new w 37 #[.int .i64 bx, .int .i64 bY, .int .i64 bw, .int .i64 bh]
  obtain ⟨w0, hw0⟩ : ∃ w0, w0 = w.alloc (.cells #[.int .i64 bx, .int .i64 bY, .int .i64 bw, .int .i64 bh] 37) := ⟨_, rfl⟩
  rw [← hw0] at hnb p0
  have HW0 := Lib.hid hw0
  have HA := Lib.hid (ha.ext hnb)
  have hR := right_any A c ps w0 (ha.ext hnb)
  have HB0 := Lib.hid hnb
  have HP0 := Lib.hid p0
  have HAW := Lib.hid ha
  clear hw0 hnb p0 ha
  unfold bxV at *
  dsimp only at hX ⊢
  go_enter Tryd.func14, Tryd.ntmps14
  go_upto_region 1 with fail
  rw [← HW0.out]
  by_cases hr : rightC ps = false
  · have HN := Lib.hid (draw_bad (b := ⟨bx, bY, bw, bh⟩) (.inl hr))
    rw [hr] at hR
    clear hr
    go_wp2_with (go_at_call 25; refine hR.mono ?_)
    rintro e w1 ⟨rfl, hb1⟩
    have HB1 := Lib.hid (HB0.out.trans (hb1.mono HB0.out.size))
    clear hb1
    go_wp2
    go_ret2
    exact RetText.bad HN.out HB1.out
  have hr1 : rightC ps = true := by simpa using hr
  rw [hr1] at hR
  have HR := Lib.hid hr1
  clear hr hr1
  go_wp2_with (go_at_call 25; refine hR.mono ?_)
  rintro e w1 ⟨rfl, hb1⟩
  clear hR
  have p1 := HP0.out.below hb1 HP0.out.lt
  have HA1 := Lib.hid (HA.out.ext hb1)
  have HB1 := Lib.hid (HB0.out.trans (hb1.mono HB0.out.size))
  clear hb1
  have c0 := p1.cell 0
  have c1 := p1.cell 1
  have c2 := p1.cell 2
  have c3 := p1.cell 3
  by_cases hx : rightX ⟨bx, bY, bw, bh⟩ = false
  · have HN := Lib.hid (draw_bad (ps := ps) (.inr hx))
    rw [hx] at hX
    have HX := Lib.hid hX
    clear hx hX
    go_wp2_with fail
    refine (HX.out _).mono ?_
    rintro e w2 ⟨rfl, hb2⟩
    have HB2 := Lib.hid (HB1.out.trans (hb2.mono HB1.out.size))
    clear hb2 p1 c0 c1 c2 c3
    go_wp2
    go_ret2
    exact RetText.bad HN.out HB2.out
  have hx1 : rightX ⟨bx, bY, bw, bh⟩ = true := by simpa using hx
  rw [hx1] at hX
  have HX := Lib.hid hX
  have HX1 := Lib.hid hx1
  have hbd := rightX_bd hx1
  dsimp only at hbd
  clear hx hx1 hX
  go_wp2_with fail
  refine (HX.out _).mono ?_
  rintro e w2 ⟨rfl, hb2⟩
  have p2 := p1.below hb2 p1.lt
  have HA2 := Lib.hid (HA1.out.ext hb2)
  have HB2 := Lib.hid (HB1.out.trans (hb2.mono HB1.out.size))
  clear hb2 p1 c0 c1 c2 c3
  have c0 := p2.cell 0
  have c1 := p2.cell 1
  have c2 := p2.cell 2
  have c3 := p2.cell 3
  have hw1 : wrap64 (bw + 1) = bw + 1 := wm_1 ⟨hbd.1, hbd.2.1⟩
  have hw2 : wrap64 ((bw + 1) * bh) = (bw + 1) * bh := wm_2 ⟨hbd.1, hbd.2.1⟩ ⟨hbd.2.2.1, hbd.2.2.2.1⟩
  have HBD := Lib.hid hbd
  clear hbd
  by_cases hbig : 65536 < (bw + 1) * bh
  · have d0 : decide (65536 < (bw + 1) * bh) = true := decide_eq_true hbig
    have HN := Lib.hid (draw_far HR.out HX1.out hbig)
    clear hbig
    go_wp2
    go_ret2
    exact RetText.bad HN.out HB2.out
  have d0 : decide (65536 < (bw + 1) * bh) = false := decide_eq_false hbig
  have HN := Lib.hid (draw_ok (b := ⟨bx, bY, bw, bh⟩) HR.out HX1.out hbig)
  have HBG := Lib.hid hbig
  clear hbig
  have hCH := chars_any A c ps w2 HA2.out
  obtain ⟨top, htop⟩ : ∃ top, top = topC ps := ⟨_, rfl⟩
  have HTOP := Lib.hid htop
  rw [← htop] at hCH
  clear htop
  go_wp2_with (go_at_call 26; refine hCH.mono ?_; rintro e w' ⟨rfl, rfl⟩)
  clear hCH
  obtain ⟨wn, hwn⟩ : ∃ wn : Nat, bw = (wn : Int) := ⟨bw.toNat, by have := HBD.out; omega⟩
  obtain ⟨hn2, hhn⟩ : ∃ hn2 : Nat, bh = (hn2 : Int) := ⟨bh.toNat, by have := HBD.out; omega⟩
  have hR1 := repeat_any ⟨#[46]⟩ wn w' (by have := HBD.out; omega) (by have := HBD.out; omega) (by have := HBD.out; show 1 * wn ≤ _; omega) (by decide) rfl
  have HLB := Lib.hid (line_bytes ⟨bx, bY, bw, bh⟩ wn (by dsimp only; omega))
  have hLL := line_len ⟨bx, bY, bw, bh⟩ (by have := HBD.out; dsimp only; omega)
  dsimp only at hLL
  have HGL := Lib.hid (grid_len ⟨bx, bY, bw, bh⟩ (by have := HBD.out; dsimp only; omega) (by have := HBD.out; dsimp only; omega))
  have HG0 : Hid (Lib.repeatL (lineG ⟨bx, bY, bw, bh⟩) hn2 = gridG ⟨bx, bY, bw, bh⟩) := Lib.hid (by unfold gridG; congr 1; dsimp only; omega)
  have HF := line_first ⟨bx, bY, bw, bh⟩ HBD.out.1
  obtain ⟨L1, hL1⟩ : ∃ L1, L1 = Lib.repeatL (⟨#[46]⟩ : ByteArray).data.toList wn := ⟨_, rfl⟩
  have hle : ¬ 9223372036854775807 < L1.length + 1 := by
    rw [hL1, Lib.repeatL_length]
    have := HBD.out
    show ¬ 9223372036854775807 < wn * 1 + 1
    omega
  rw [← hL1] at hR1 HLB
  clear hL1
  obtain ⟨LG, hLG⟩ : ∃ LG, LG = lineG ⟨bx, bY, bw, bh⟩ := ⟨_, rfl⟩
  have HLG := Lib.hid hLG
  rw [← hLG] at HLB hLL HG0 HF
  obtain ⟨hF1, hF2⟩ := HF
  clear hLG
  have hR2 := fun w => repeat_any ⟨LG.toArray⟩ hn2 w (by have := HBD.out; omega) (by have := HBD.out; omega) (by
    have h1 := HBG.out
    have h2 : (((⟨LG.toArray⟩ : ByteArray).size * hn2 : Nat) : Int) = (bw + 1) * bh := by rw [Int.natCast_mul, ← hhn, ← hLL]; rfl
    omega) hF1 hF2
  have eLG : (⟨LG.toArray⟩ : ByteArray).data.toList = LG := rfl
  rw [eLG, HG0.out] at hR2
  have HR1 := Lib.hid hR1
  have HR2 := Lib.hid hR2
  clear hR1 hR2 eLG hLL hF1 hF2
  rw [← hwn] at HR1
  rw [← hhn] at HR2
  clear hwn hhn
  refine HR1.out.mono ?_
  rintro e w3 ⟨rfl, hb3⟩
  have p3 := p2.below hb3 p2.lt
  have HA3 := Lib.hid (HA2.out.ext hb3)
  have HB3 := Lib.hid (HB2.out.trans (hb3.mono HB2.out.size))
  clear hb3 p2 c0 c1 c2 c3
  have c0 := p3.cell 0
  have c1 := p3.cell 1
  have c2 := p3.cell 2
  have c3 := p3.cell 3
  go_upto_region 7 with fail
  rw [HLB.out]
  clear hle
  go_wp2_with fail
  refine (HR2.out _).mono ?_
  rintro e w4 ⟨rfl, hb4⟩
  have p4 := p3.below hb4 p3.lt
  have HA4 := Lib.hid (HA3.out.ext hb4)
  have HB4 := Lib.hid (HB3.out.trans (hb4.mono HB3.out.size))
  clear hb4 p3 c0 c1 c2 c3
  obtain ⟨cap, W5, hcv, hb5, hby⟩ := bytes_conv ⟨(gridG ⟨bx, bY, bw, bh⟩).toArray⟩ w4
  have eG : (⟨(gridG ⟨bx, bY, bw, bh⟩).toArray⟩ : ByteArray).data.toList = gridG ⟨bx, bY, bw, bh⟩ := rfl
  rw [eG] at hcv hby
  clear eG
  obtain ⟨G, hG⟩ : ∃ G, G = w4.heap.size := ⟨_, rfl⟩
  rw [← hG] at hcv hby
  have HGb : Hid (w.heap.size ≤ G) := Lib.hid (by rw [hG]; exact HB4.out.size)
  have p5 := p4.below hb5 p4.lt
  have HA5 := Lib.hid (HA4.out.ext hb5)
  have HB5 := Lib.hid (HB4.out.trans (hb5.mono HB4.out.size))
  have HP5 := Lib.hid p5
  have HG5 := Lib.hid hby
  have HGp : Hid (w.heap.size < G) := Lib.hid (by rw [hG]; exact p4.lt)
  obtain ⟨g0, hg0⟩ : ∃ g0, g0 = gridG ⟨bx, bY, bw, bh⟩ := ⟨_, rfl⟩
  rw [← hg0] at HGL hcv HG5 ⊢
  have HG00 := Lib.hid hg0
  clear hG hb5 p4 p5 hby hg0
  have hsp : ps.length ≤ 5000 := right_len HR.out
  go_wp2
  go_loopw [39] (fun i wr => ∃ (k : Nat), k ≤ ps.length ∧ i = .int .i64 k ∧ Hid (Below w.heap.size w wr) ∧ Blk wr w.heap.size 37 #[.int .i64 bx, .int .i64 bY, .int .i64 bw, .int .i64 bh] ∧ Hid (BytesAt wr G ((ps.take k).foldl (putG top ⟨bx, bY, bw, bh⟩) g0)) ∧ Hid (Cls wr A ps)) (fun i _ => ps.length - (intOf i).toNat)
  case atStart => exact ⟨0, Nat.zero_le _, rfl, HB5, HP5.out, HG5, HA5⟩
  case round =>
    clear HB5 HP5 HG5 HA5 HA HA1 HA2 HA3 HA4 hcv
    obtain ⟨k, hk, rfl, HB, hp, HG, HA⟩ := hrel
    by_cases hlt : k < ps.length
    · obtain ⟨b1, o1, e1, hbl, hc0, hc1, hc2⟩ := HA.out.at_ hlt
      have HQ := right_cel HR.out hlt
      have HS := HTOP.out ▸ top_ge hlt
      have HTB := HTOP.out ▸ (top_bd HR.out)
      obtain ⟨q, hq⟩ : ∃ q, q = ps[k] := ⟨_, rfl⟩
      rw [← hq] at hc0 hc1 hc2 HQ HS
      obtain ⟨qx, qy, qs⟩ := q
      dsimp only at hc0 hc1 hc2 HQ HS
      have HQE := Lib.hid hq
      have q0 := Blk.new wr 34 #[.int .i64 qx, .int .i64 qy, .int .i64 qs]
      have hnb := below_new wr (.cells #[.int .i64 qx, .int .i64 qy, .int .i64 qs] 34)
      have hp1 := hp.below hnb hp.lt
      obtain ⟨wa, hwa⟩ : ∃ wa, wa = wr.alloc (.cells #[.int .i64 qx, .int .i64 qy, .int .i64 qs] 34) := ⟨_, rfl⟩
      rw [← hwa] at q0 hnb hp1
      have HBa := Lib.hid (HB.out.trans (hnb.mono HB.out.size))
      have HGa := Lib.hid (HG.out.ext hnb)
      have HAa := Lib.hid (HA.out.ext hnb)
      have HWA := Lib.hid hwa
      have hIN := fun w => inX_any ⟨bx, bY, bw, bh⟩ qx qy w HX1.out
      unfold bxV ptV at hIN
      dsimp only at hIN
      have hw1 : wrap64 ((k : Int) + 1) = (k : Int) + 1 := wr_c (by omega) (by omega)
      have HQ2 := Lib.hid (And.intro HQ (And.intro HS HTB))
      obtain ⟨G0, hG0⟩ : ∃ G0, G0 = (ps.take k).foldl (putG top ⟨bx, bY, bw, bh⟩) g0 := ⟨_, rfl⟩
      have HG0L : Hid ((G0.length : Int) = (bw + 1) * bh) := Lib.hid (by rw [hG0, puts_len, HGL.out])
      have HG1 : Hid ((ps.take (k + 1)).foldl (putG top ⟨bx, bY, bw, bh⟩) g0 = putG top ⟨bx, bY, bw, bh⟩ G0 ⟨qx, qy, qs⟩) := Lib.hid (by rw [puts_snoc top _ g0 hlt, ← hG0, ← HQE.out])
      rw [← hG0] at HGa
      clear hq HQ HS HTB hnb hwa hG0 hp
      have x0 := q0.cell 0
      have x1 := q0.cell 1
      have y0 := hp1.cell 0
      have y1 := hp1.cell 1
      have y2 := hp1.cell 2
      have y3 := hp1.cell 3
      subst e1
      go_upto_region 11 with fail
      rw [← HWA.out]
      cases hin : inX ⟨bx, bY, bw, bh⟩ qx qy with
      | false =>
        rw [hin] at hIN
        have HIN := Lib.hid hIN
        have HPT : Hid (putG top ⟨bx, bY, bw, bh⟩ G0 ⟨qx, qy, qs⟩ = G0) := Lib.hid (by unfold putG; dsimp only; rw [hin]; rfl)
        clear hin hIN
        go_wp2_with fail
        refine (HIN.out _).mono ?_
        rintro e w9 ⟨rfl, hb9⟩
        have hp2 := hp1.below hb9 hp1.lt
        have HB9 := Lib.hid (HBa.out.trans (hb9.mono HBa.out.size))
        have HG9 := Lib.hid (HGa.out.ext hb9)
        have HA9 := Lib.hid (HAa.out.ext hb9)
        clear hb9 q0 hp1 x0 x1 y0 y1 y2 y3 hc0 hc1 hc2
        go_wp2
        go_roundw
        case rel => exact ⟨k + 1, hlt, rfl, HB9, hp2, by rw [HG1.out, HPT.out]; exact HG9, HA9⟩
        case measure => exact ms_up hlt
      | true =>
        rw [hin] at hIN
        have HIN := Lib.hid hIN
        have hix := idx_bd (b := ⟨bx, bY, bw, bh⟩) (by have := HBD.out; dsimp only; omega) hin
        have hib := inX_bd hin
        dsimp only at hix hib
        obtain ⟨ix, hixe⟩ : ∃ ix : Nat, (qy - bY) * (bw + 1) + qx - bx = (ix : Int) := ⟨((qy - bY) * (bw + 1) + qx - bx).toNat, by omega⟩
        have HPT : Hid (putG top ⟨bx, bY, bw, bh⟩ G0 ⟨qx, qy, qs⟩ = G0.set ix (chB top qs)) := Lib.hid (by unfold putG; dsimp only; rw [hin, hixe]; rfl)
        have hixl : ix < G0.length := by have := HG0L.out; omega
        have hgl : g0.length = G0.length := by have h1 := HG0L.out; have h2 := HGL.out; omega
        have hix2 : ix < g0.length := by omega
        have hv1 : wrap64 (qy - bY) = qy - bY := by have := HBD.out; have := HQ2.out.1; unfold wrap64; omega
        have hv2 : wrap64 (bw + 1) = bw + 1 := wm_1 ⟨HBD.out.1, HBD.out.2.1⟩
        have hmb : 0 ≤ (qy - bY) * (bw + 1) ∧ (qy - bY) * (bw + 1) ≤ 65536 := by
          have h1 := HBG.out
          have h2 : 0 ≤ (qy - bY) * (bw + 1) := Int.mul_nonneg (by omega) (by have := HBD.out; omega)
          omega
        have hv3 : wrap64 ((qy - bY) * (bw + 1)) = (qy - bY) * (bw + 1) := wr_m hmb.1 hmb.2
        have hv4 : wrap64 ((qy - bY) * (bw + 1) + qx) = (qy - bY) * (bw + 1) + qx := wr_n hmb.1 hmb.2 (by have := HQ2.out.1; omega)
        have hv5 : wrap64 ((qy - bY) * (bw + 1) + qx - bx) = (ix : Int) := by rw [hixe]; exact wr_i (by have := HBG.out; have := HG0L.out; omega)
        obtain ⟨sn, hsn⟩ : ∃ sn : Nat, qs = (sn : Int) := ⟨qs.toNat, by have := HQ2.out.1; omega⟩
        have hos : sn < (ofB top).size := by
          have h := of_size (top := top) (s := qs) HQ2.out.1.2.2.2.2.1 HQ2.out.2.1 HQ2.out.2.2.2
          omega
        have HCB : Hid ((ofB top)[sn] = chB top qs) := Lib.hid (by
          have h := of_get (top := top) (s := qs) HQ2.out.1.2.2.2.2.1 HQ2.out.2.1 HQ2.out.2.2.2 (by omega)
          rw [← h]
          congr 1
          omega)
        subst hsn
        clear hin hIN hix hib hixe hmb hc0 hc1 hc2
        go_wp2_with fail
        refine (HIN.out _).mono ?_
        rintro e w9 ⟨rfl, hb9⟩
        have hp2 := hp1.below hb9 hp1.lt
        have hq2 := q0.below hb9 q0.lt
        have HB9 := Lib.hid (HBa.out.trans (hb9.mono HBa.out.size))
        have HG9 := Lib.hid (HGa.out.ext hb9)
        have HA9 := Lib.hid (HAa.out.ext hb9)
        clear hb9 q0 hp1 x0 x1 y0 y1 y2 y3
        have HP2 := Lib.hid hp2
        have x0 := hq2.cell 0
        have x1 := hq2.cell 1
        have x2 := hq2.cell 2
        have y0 := hp2.cell 0
        have y1 := hp2.cell 1
        have y2 := hp2.cell 2
        obtain ⟨z0, z1⟩ := HG9.out.2 ix hixl
        have HS9 := Lib.hid (HG9.out.set ix hixl (chB top (sn : Int)))
        rw [← HCB.out] at HS9
        clear hp2 hq2
        clear HG9 hgl
        have HBf := Lib.hid ((HB9.out.setCell (p := ⟨G, ix, none⟩) HGb.out (.int .u8 ((ofB top)[sn].toNat : Int))).drew)
        have hgp : w.heap.size ≠ G := Nat.ne_of_lt HGp.out
        have HPf := Lib.hid ((HP2.out.far (p := ⟨G, ix, none⟩) hgp (.int .u8 ((ofB top)[sn].toNat : Int))).drew)
        clear hgp
        go_wp2
        go_region
        all_goals (
          go_wp2
          go_roundw
          case rel => exact ⟨k + 1, hlt, rfl, HBf, HPf.out, (by rw [HG1.out, HPT.out, ← HCB.out]; exact Lib.hid HS9.out.drew), Lib.hid (HAW.out.ext HBf.out)⟩
          case measure => exact ms_up hlt)
    · obtain rfl : k = ps.length := by omega
      have dk : decide ((ps.length : Int) < ps.length) = false := decide_eq_false (by omega)
      have hcv := back_at (cap := cap) HG.out
      rw [List.take_length, puts_len] at hcv
      have HGF : Hid (ps.foldl (putG top ⟨bx, bY, bw, bh⟩) g0 = drawG ps ⟨bx, bY, bw, bh⟩) := Lib.hid (by rw [HTOP.out, HG00.out]; rfl)
      rw [HGF.out] at hcv
      clear hk hlt
      go_wp2
      go_ret2
      exact ⟨(by rw [HN.out]; rfl), HB.out⟩
end Go.Proofs.YtblfeaapjloppaaDoor
