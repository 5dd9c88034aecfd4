/-
  reduce.Turn. No condition but at most nine offsets, and that the library's table and the matrices are there.
-/
import Derived.Test.YtojnnfihpiegoaaDoorZCn
import Derived.Test.YtojnnfihpiegoaaDoorZSwp
import Derived.Test.YtojnnfihpiegoaaDoorZCl
namespace Go.Proofs.YtojnnfihpiegoaaDoor
open Go.RowKit Go.Maps
set_option maxRecDepth 100000
set_option linter.unusedVariables false
set_option linter.unusedSimpArgs false

def RetTurn (k : Int) (t : PT) (w : World) (e : Ending) (w' : World) : Prop := ∃ te, TurnOk k t te ∧ RetTE te w e w'
structure TuA (W : World) (U : Nat) (gh : Nat) (gO : Nat) (n : Nat) (cc : Nat) (k : Int) (m : Nat) (x : Int) (y : Int) (sx : Int) (sy : Int) (b0 b1 b2 b3 b4 b5 b6 b7 : Bool) (v25 v26 v27 v28 v29 v30 v31 : Value) (w : World) : Prop where
  h0 : b0 = true → v25 = .pointer (some ⟨U, 1, none⟩)
  h1 : b1 = true → v26 = .slice (some ⟨gh, 0, none⟩) n cc
  h2 : b2 = true → v27 = .int .i64 m
  h3 : b3 = true → v28 = .int .i64 k
  h4 : b4 = true → v29 = .agg #[.int .i64 x, .int .i64 y]
  h5 : b5 = true → v30 = .agg #[.int .i64 sx, .int .i64 sy]
  h6 : b6 = true → v31 = .pointer (some ⟨gh, m * 2, none⟩)
  below : b7 = false → Below W.heap.size W w
  hord : b7 = true → b1 = true ∧ b4 = true ∧ b5 = true
  h7 : b7 = true → ∃ w5, Below W.heap.size W w5 ∧ w = (w5.setCell ⟨gh, m * 2, none⟩ (.int .i64 sx)).setCell ⟨gh, m * 2 + 1, none⟩ (.int .i64 sy)
structure TuB (W0 : World) (W1 : World) (W2 : World) (U : Nat) (gh : Nat) (n : Nat) (cc : Nat) (j : Nat) (x : Int) (y : Int) (x' : Int) (y' : Int) (b0 b1 b2 b3 b4 b5 b6 b7 b8 b9 b10 b11 b12 b13 b14 b15 b16 b17 b18 b19 b20 b21 : Bool) (v59 v60 v61 v62 v63 v64 v65 v66 v67 v68 v69 v70 v71 v72 v73 v74 v75 v76 v77 v78 : Value) (w : World) : Prop where
  h0 : b0 = true → v59 = .pointer (some ⟨U, 1, none⟩)
  h1 : b1 = true → v60 = .slice (some ⟨gh, 0, none⟩) n cc
  h2 : b2 = true → v61 = .int .i64 ((j : Int) + 1)
  h3 : b3 = true → v62 = .int .i64 j
  h4 : b4 = true → v63 = .pointer (some ⟨U, 1, none⟩)
  h5 : b5 = true → v64 = .slice (some ⟨gh, 0, none⟩) n cc
  h6 : b6 = true → v65 = .int .i64 ((j : Int) + 1)
  h7 : b7 = true → v66 = .pointer (some ⟨U, 1, none⟩)
  h8 : b8 = true → v67 = .slice (some ⟨gh, 0, none⟩) n cc
  h9 : b9 = true → v68 = .int .i64 ((j : Int) + 1)
  h10 : b10 = true → v69 = .pointer (some ⟨gh, (j + 1) * 2, none⟩)
  h11 : b11 = true → v70 = .agg #[.int .i64 x', .int .i64 y']
  h12 : b12 = true → v71 = .pointer (some ⟨U, 1, none⟩)
  h13 : b13 = true → v72 = .slice (some ⟨gh, 0, none⟩) n cc
  h14 : b14 = true → v73 = .int .i64 ((j : Int) + 1)
  h15 : b15 = true → v74 = .int .i64 j
  h16 : b16 = true → v75 = .pointer (some ⟨gh, j * 2, none⟩)
  h17 : b17 = true → v76 = .agg #[.int .i64 x, .int .i64 y]
  h18 : b18 = true → v77 = .pointer (some ⟨gh, j * 2, none⟩)
  h20 : b20 = true → v78 = .pointer (some ⟨gh, (j + 1) * 2, none⟩)
  w0 : b19 = false → w = W0
  w1 : b19 = true → b21 = false → w = W1
  w2 : b21 = true → w = W2
  k17 : b17 = true → b16 = true
  k16 : b16 = true → b13 = true
  o19 : b19 = true → b1 = true ∧ b8 = true ∧ b11 = true ∧ b13 = true ∧ b17 = true
  o21 : b21 = true → b19 = true ∧ b5 = true
set_option maxHeartbeats 16000000 in
theorem turn_any (k st : Int) (A : Option Addr) (c : Nat) (ps : List (Int × Int)) (B : Option Addr) (d : Nat) (hs : List Hd) (w : World) (hp : Pts w A ps) (hN : Nds w B hs) (ht : TabB w.heap.size w) (hg : GMat w) (hl9 : ps.length ≤ 9) :
    Calls Tryd.prog 24 #[.int .i64 k, .agg #[.int .i64 st, .slice A ps.length c, .slice B hs.length d]] w (RetTurn k ⟨st, ps, hs.map Hd.nd⟩ w) := by
  obtain ⟨w0, hw0⟩ : ∃ w0, w0 = (w.alloc (.cells #[.int .i64 st, .slice A ps.length c, .slice B hs.length d] 25)).alloc (.cells #[.int .i64 0, .slice none 0 0, .slice none 0 0] 25) := ⟨_, rfl⟩
  have hb1 := below_new w (.cells #[.int .i64 st, .slice A ps.length c, .slice B hs.length d] 25)
  have hb0 : Below w.heap.size w w0 := by rw [hw0]; exact hb1.alloc hb1.size _
  have p0 : Blk w0 w.heap.size 25 #[.int .i64 st, .slice A ps.length c, .slice B hs.length d] := by rw [hw0]; exact (Blk.new w _ _).alloc _
  have q0 : Blk w0 (w.heap.size + 1) 25 #[.int .i64 0, .slice none 0 0, .slice none 0 0] := by
    rw [hw0]
    have := Blk.new (w.alloc (.cells #[.int .i64 st, .slice A ps.length c, .slice B hs.length d] 25)) 25 #[.int .i64 0, .slice none 0 0, .slice none 0 0]
    simpa using this
  have HR := Lib.hid (right_any st A c ps B d hs w0 (hp.ext hb0) (hN.ext hb0))
  have HP := Lib.hid (hp.ext hb0)
  have HN := Lib.hid (hN.ext hb0)
  have HT := Lib.hid ht
  have HG := Lib.hid hg
  have HB0 := Lib.hid hb0
  have HP0 := Lib.hid p0
  have HQ0 := Lib.hid q0
  have HW0 := Lib.hid hw0
  have HL9 := Lib.hid hl9
  have c0 := p0.cell_ 0 (.int .i64 st) rfl
  have c1 := p0.cell_ 1 (.slice A ps.length c) rfl
  have c2 := p0.cell_ 2 (.slice B hs.length d) rfl
  obtain ⟨t, hte⟩ : ∃ t : PT, t = ⟨st, ps, hs.map Hd.nd⟩ := ⟨_, rfl⟩
  rw [← hte]
  have hrt : t.right = rightN st ps (hs.map Hd.nd) := by rw [hte]; rfl
  have htst : t.st = st := by rw [hte]
  have htps : t.ps = ps := by rw [hte]
  have HTE := Lib.hid hte
  clear hb1 hb0 p0 q0 hw0 hp hN ht hg hl9 hte
  cases hr : rightN st ps (hs.map Hd.nd) with
  | false =>
    have HRF : Hid (t.right = false) := Lib.hid (by rw [hrt, hr])
    rw [hr] at HR
    clear hr hrt htst htps
    go_enter Tryd.func24, Tryd.ntmps24
    go_upto_region 1 with fail
    rw [← HW0.out]
    go_wp2_with (go_at_call 27; refine HR.out.mono ?_)
    rintro e w1 ⟨rfl, hb⟩
    have q1 := HQ0.out.below hb HQ0.out.lt
    have HQ1 := Lib.hid q1
    have d0 := q1.cell_ 0 (.int .i64 0) rfl
    have d1 := q1.cell_ 1 (.slice none 0 0) rfl
    have d2 := q1.cell_ 2 (.slice none 0 0) rfl
    have f0 := q1.frozen 0
    have f1 := q1.frozen 1
    have f2 := q1.frozen 2
    have HB := Lib.hid (HB0.out.trans (hb.mono HB0.out.size))
    clear q1 hb c0 c1 c2
    go_wp2
    have hq : Blk (((w1.setCell ⟨w.heap.size + 1, 0, none⟩ (.int .i64 0)).setCell ⟨w.heap.size + 1, 1, none⟩ (.slice none 0 0)).setCell ⟨w.heap.size + 1, 2, none⟩ (.slice none 0 0)) (w.heap.size + 1) 25 #[.int .i64 0, .slice none 0 0, .slice none 0 0] := ((HQ1.out.set_ 0 (.int .i64 0)).set_ 1 (.slice none 0 0)).set_ 2 (.slice none 0 0)
    exact bodyPost_ret (results_ct Tryd.results24 _ _ (w.heap.size + 1) 25 #[.int .i64 0, .slice none 0 0, .slice none 0 0] (0, 0) _ rfl hq Tryd.underlying25 rfl Tryd.sizeTree) rfl
      ⟨_, Or.inl ⟨HRF.out, rfl⟩, _, _, [], rfl, OwnP.nil _ _ _, OwnN.nil _ _ _ _, rfl, ((HB.out.setCell (p := ⟨w.heap.size + 1, 0, none⟩) (Nat.le_succ _) _).setCell (p := ⟨w.heap.size + 1, 1, none⟩) (Nat.le_succ _) _).setCell (p := ⟨w.heap.size + 1, 2, none⟩) (Nat.le_succ _) _⟩
  | true =>
    have hrT : t.right = true := by rw [hrt, hr]
    obtain ⟨a1, a2, a3, a4, a5, a6, a7, a8, a9⟩ := rightN_parts hrT
    have HPL : Hid (1 ≤ ps.length) := Lib.hid (by
      rw [htps] at a3
      unfold hoodB at a3
      rw [Bool.and_eq_true, Bool.and_eq_true] at a3
      exact of_decide_eq_true a3.1.1)
    have HRG := Lib.hid (hood_rng a3)
    have HTR := Lib.hid hrT
    have HST : Hid (2 ≤ st ∧ st ≤ 8) := Lib.hid (by rw [← htst]; exact ⟨a1, a2⟩)
    have HTI := Lib.hid (TI.start k hrT)
    obtain ⟨rn, hrn⟩ : ∃ rn, rn = (redT t).ns := ⟨_, rfl⟩
    have hrd : redT ⟨st, ps, hs.map Hd.nd⟩ = ⟨st, ps, rn⟩ := by
      rw [← HTE.out, hrn, ← htst, ← htps]
      unfold redT
      rw [if_pos hrT]
    rw [← hrn, htst, htps] at HTI
    rw [htps] at HRG
    rw [hr] at HR
    have HTS := Lib.hid (And.intro htst htps)
    have HRD := Lib.hid hrd
    clear hr hrt htst htps hrT a1 a2 a3 a4 a5 a6 a7 a8 a9 hrd hrn
    go_enter Tryd.func24, Tryd.ntmps24
    go_upto_region 1 with fail
    rw [← HW0.out]
    go_wp2_with (go_at_call 27; refine HR.out.mono ?_)
    rintro e w1 ⟨rfl, hb⟩
    have q1 := HQ0.out.below hb HQ0.out.lt
    have p1 := HP0.out.below hb HP0.out.lt
    have HQ1 := Lib.hid q1
    have c0' := p1.cell_ 0 (.int .i64 st) rfl
    have c1' := p1.cell_ 1 (.slice A ps.length c) rfl
    have c2' := p1.cell_ 2 (.slice B hs.length d) rfl
    have HB01 := Lib.hid hb
    have HBw := Lib.hid (HB0.out.trans (hb.mono HB0.out.size))
    have hcall := reduce_any st A c ps B d hs w1 (HP.out.ext hb) (HN.out.ext hb) ((HT.out.on (HB0.out.trans (hb.mono HB0.out.size))).up (Nat.le_trans HB0.out.size hb.size))
    rw [HRD.out] at hcall
    have HCALL := Lib.hid hcall
    clear q1 p1 hb c0 c1 c2 hcall
    go_wp2_with (go_at_call 12; refine HCALL.out.mono ?_; intro e w2 hrt; obtain ⟨A2, c2, B2, d2, os, rfl, h1, h2, -, -, h3, h4⟩ := hrt.form; refine Hid.out ?_)
    refine Lib.hid ?_
    obtain ⟨gh, ch, ev, -, -⟩ := h1.some_ HPL.out
    injection ev with e1 e2 e3
    subst e1 e3
    obtain ⟨wu, hwu⟩ : ∃ wu, wu = w2.alloc (.cells #[.int .i64 st, .slice (some ⟨gh, 0, none⟩) ps.length c2, .slice B2 os.length d2] 25) := ⟨_, rfl⟩
    have hbu : Below w2.heap.size w2 wu := by rw [hwu]; exact below_new _ _
    have hblk : Blk wu w2.heap.size 25 #[.int .i64 st, .slice (some ⟨gh, 0, none⟩) ps.length c2, .slice B2 os.length d2] := by rw [hwu]; exact Blk.new _ _ _
    obtain ⟨U, hU⟩ : ∃ U, U = w2.heap.size := ⟨_, rfl⟩
    have HWU := Lib.hid hwu
    have HU := Lib.hid hU
    rw [← hU] at hblk
    have HTU0 : Hid (TuW w0.heap.size U gh st ps.length c2 ps B2 d2 os rn wu) := Lib.hid ⟨hblk, own_below (own_down h1 HB01.out.size) hbu, rfl, OwnN.ext ⟨own_down h2.1 HB01.out.size, fun x hx => (h2.2 x hx).down HB01.out.size⟩ hbu, h3⟩
    have HB2 : Hid (Below w0.heap.size w0 w2) := Lib.hid (HB01.out.trans (h4.mono HB01.out.size))
    have HBU : Hid (Below w0.heap.size w0 wu) := Lib.hid (HB2.out.trans (hbu.mono HB2.out.size))
    have HUB : Hid (w0.heap.size ≤ U) := Lib.hid (by rw [hU]; exact HB2.out.size)
    have hcu := HTU0.out.blk.cell_ 1 (.slice (some ⟨gh, 0, none⟩) ps.length c2) rfl
    clear hwu hbu hblk hU h1 h2 h3 h4 c0' c1' c2' HCALL e2
    go_upto_region 4 with fail
    rw [← HWU.out, ← HU.out]
    go_wp2
    clear hcu
    go_loopw [20] (fun iv wr => ∃ m : Nat, m ≤ ps.length ∧ iv = .int .i64 m ∧ Hid (TuW w0.heap.size U gh st ps.length c2 (imgTo k ps m) B2 d2 os rn wr) ∧ Hid (Below w0.heap.size w0 wr)) (fun iv _ => ps.length - (intOf iv).toNat)
    case atStart => exact ⟨0, Nat.zero_le _, rfl, Lib.hid (by rw [imgTo_zero]; exact HTU0.out), HBU⟩
    case round =>
      obtain ⟨m, hm, rfl, HTW, HBR⟩ := hrel
      have hwm : wrap64 ((m : Int) + 1) = (m : Int) + 1 := by have := HL9.out; unfold wrap64; omega
      by_cases hml : m < ps.length
      · obtain ⟨h0, h1, -, -⟩ := HTW.out.hood.cellk (k := m) (by rw [imgTo_len]; exact hml)
        rw [imgTo_at hml] at h0 h1
        have hset := imgTo_set (k := k) hml
        have hrg := HRG.out _ (List.getElem_mem hml)
        obtain ⟨x, hx⟩ : ∃ x, x = ps[m] := ⟨_, rfl⟩
        rw [← hx] at h0 h1 hset hrg
        obtain ⟨x, y⟩ := x
        dsimp only at h0 h1 hrg
        obtain ⟨wo, hwo⟩ : ∃ wo, wo = wr.alloc (.cells #[.int .i64 x, .int .i64 y] 49) := ⟨_, rfl⟩
        have hbo : Below wr.heap.size wr wo := by rw [hwo]; exact below_new _ _
        have hpo : Blk wo wr.heap.size 49 #[.int .i64 x, .int .i64 y] := by rw [hwo]; exact Blk.new _ _ _
        obtain ⟨gO, hgO⟩ : ∃ gO, gO = wr.heap.size := ⟨_, rfl⟩
        rw [← hgO] at hpo
        have HTO := Lib.hid (HTW.out.ext hbo)
        have HBO : Hid (Below w0.heap.size w0 wo) := Lib.hid (HBR.out.trans (hbo.mono HBR.out.size))
        have HPO := Lib.hid hpo
        have HWO := Lib.hid hwo
        have HGO := Lib.hid hgO
        have HRX := Lib.hid hrg
        have HML := Lib.hid hml
        obtain ⟨sq, hsq⟩ : ∃ sq, sq = symP k (x, y) := ⟨_, rfl⟩
        rw [← hsq] at hset
        obtain ⟨sx, sy⟩ := sq
        have HSET := Lib.hid hset
        have HSY : Hid (symP k (x, y) = (sx, sy)) := Lib.hid hsq.symm
        have HGO2 : Hid (GMat wo) := Lib.hid (HG.out.ext (HB0.out.trans (HBO.out.mono HB0.out.size)))
        clear hx hwo hbo hpo hgO hset hrg hm hsq
        go_upto_region 7 with fail
        rw [← HWO.out, ← HGO.out]
        refine wp_region_J (by kernel_rfl) (fun listed act w' => ∃ b0 b1 b2 b3 b4 b5 b6 b7 v25 v26 v27 v28 v29 v30 v31, listed = #[b0, b1, b2, b3, b4, b5, b6, b7] ∧ act = Act.mk #[.int .i64 k, .agg #[.int .i64 st, .slice A ps.length c, .slice B hs.length d], undef, .pointer (some ⟨w.heap.size, 0, none⟩), .pointer (some ⟨w.heap.size + 1, 0, none⟩), .int .i64 0, .pointer (some ⟨U, 0, none⟩), .int .i64 m, .pointer (some ⟨gO, 0, none⟩), undef, undef, .agg #[.int .i64 st, .slice A ps.length c, .slice B hs.length d], .bool true, .bool false, undef, .agg #[.int .i64 st, .slice A ps.length c, .slice B hs.length d], .agg #[.int .i64 st, .slice (some ⟨gh, 0, none⟩) ps.length c2, .slice B2 os.length d2], .pointer (some ⟨U, 1, none⟩), .slice (some ⟨gh, 0, none⟩) ps.length c2, .int .i64 ps.length, .int .i64 m, .bool true, .int .i64 m, .pointer (some ⟨gh, m * 2, none⟩), .agg #[.int .i64 x, .int .i64 y], v25, v26, v27, v28, v29, v30, v31, u32, undef, undef, undef, undef, undef, undef, undef, undef, undef, undef, undef, undef, undef, undef, undef, undef, undef, undef, undef, undef, undef, undef, undef, undef, undef, undef, undef, undef, undef, undef, undef, undef, undef, undef, undef, undef, undef, undef, undef, undef, undef, undef, undef, undef, undef, undef, undef, undef, undef, undef] [] ∧ TuA wo U gh gO ps.length c2 k m x y sx sy b0 b1 b2 b3 b4 b5 b6 b7 v25 v26 v27 v28 v29 v30 v31 w') ?_ ?_ ?_
        · exact ⟨_, _, _, _, _, _, _, _, _, _, _, _, _, _, _, rfl, rfl, ⟨(by simp), (by simp), (by simp), (by simp), (by simp), (by simp), (by simp), (fun _ => (Below.refl _ wo).drew), (by simp), (by simp)⟩⟩
        · rintro i listed act w' hi ⟨b0, b1, b2, b3, b4, b5, b6, b7, v25, v26, v27, v28, v29, v30, v31, rfl, rfl, H⟩
          have hi16 : i < 8 := by
            obtain ⟨-, o, ho, -⟩ := mem_ready.1 hi
            exact (Array.getElem?_eq_some_iff.1 ho).1
          obtain rfl | rfl | rfl | rfl | rfl | rfl | rfl | rfl : i = 0 ∨ i = 1 ∨ i = 2 ∨ i = 3 ∨ i = 4 ∨ i = 5 ∨ i = 6 ∨ i = 7 := by omega
          all_goals simp [mem_ready, Region.binds] at hi
          · refine wpOp_hidden rfl fun K hK => ?_
            go_wp2
            refine OnlyN.mk (hK.out _ _ ⟨true, _, _, _, _, _, _, _, .pointer (some ⟨U, 1, none⟩), _, _, _, _, _, _, rfl, rfl, ⟨fun _ => rfl, H.h1, H.h2, H.h3, H.h4, H.h5, H.h6, H.below, H.hord, H.h7⟩⟩)
          · have b7f : b7 = false := by
              cases hb : b7 with
              | false => rfl
              | true => exact absurd (H.hord hb).1 (by simp [hi])
            have cc1 := ((H.below b7f).cell (p := ⟨U, 1, none⟩) HTO.out.blk.lt).trans (HTO.out.blk.cell_ 1 (.slice (some ⟨gh, 0, none⟩) ps.length c2) rfl)
            obtain rfl := H.h0 (by simp [hi])
            clear b7f
            refine wpOp_hidden rfl fun K hK => ?_
            go_wp2
            refine OnlyN.mk (hK.out _ _ ⟨_, true, _, _, _, _, _, _, _, .slice (some ⟨gh, 0, none⟩) ps.length c2, _, _, _, _, _, rfl, rfl, ⟨H.h0, fun _ => rfl, H.h2, H.h3, H.h4, H.h5, H.h6, H.below, fun h => ⟨rfl, (H.hord h).2.1, (H.hord h).2.2⟩, H.h7⟩⟩)
          · refine wpOp_hidden rfl fun K hK => ?_
            go_wp2
            refine OnlyN.mk (hK.out _ _ ⟨_, _, true, _, _, _, _, _, _, _, .int .i64 m, _, _, _, _, rfl, rfl, ⟨H.h0, H.h1, fun _ => rfl, H.h3, H.h4, H.h5, H.h6, H.below, H.hord, H.h7⟩⟩)
          · refine wpOp_hidden rfl fun K hK => ?_
            go_wp2
            refine OnlyN.mk (hK.out _ _ ⟨_, _, _, true, _, _, _, _, _, _, _, .int .i64 k, _, _, _, rfl, rfl, ⟨H.h0, H.h1, H.h2, fun _ => rfl, H.h4, H.h5, H.h6, H.below, H.hord, H.h7⟩⟩)
          · have b7f : b7 = false := by
              cases hb : b7 with
              | false => rfl
              | true => exact absurd (H.hord hb).2.1 (by simp [hi])
            have cc0 := ((H.below b7f).cell (p := ⟨gO, 0, none⟩) HPO.out.lt).trans (HPO.out.cell_ 0 (.int .i64 x) rfl)
            have cc1 := ((H.below b7f).cell (p := ⟨gO, 1, none⟩) HPO.out.lt).trans (HPO.out.cell_ 1 (.int .i64 y) rfl)
            clear b7f
            refine wpOp_hidden rfl fun K hK => ?_
            go_wp2
            refine OnlyN.mk (hK.out _ _ ⟨_, _, _, _, true, _, _, _, _, _, _, _, .agg #[.int .i64 x, .int .i64 y], _, _, rfl, rfl, ⟨H.h0, H.h1, H.h2, H.h3, fun _ => rfl, H.h5, H.h6, H.below, fun h => ⟨(H.hord h).1, rfl, (H.hord h).2.2⟩, H.h7⟩⟩)
          · have b7f : b7 = false := by
              cases hb : b7 with
              | false => rfl
              | true => exact absurd (H.hord hb).2.2 (by simp [hi])
            obtain rfl := H.h3 (by simp [hi])
            obtain rfl := H.h4 (by simp [hi])
            have hcx := apply_any k x y w' ((HGO2.out).ext (H.below b7f)) (by have := HRX.out; omega) (by have := HRX.out; omega)
            rw [HSY.out] at hcx
            have HCX := Lib.hid hcx
            have HB0 := Lib.hid (H.below b7f)
            clear hcx b7f
            refine wpOp_hidden rfl fun K hK => ?_
            go_wp2_with (go_at_call 50; refine HCX.out.mono ?_; intro e w9 hx9; obtain ⟨rfl, hb9⟩ := hx9; refine Hid.out ?_)
            refine Lib.hid ?_
            have HB9 := Lib.hid hb9
            clear hb9 HCX
            go_wp2
            refine OnlyN.mk (hK.out _ _ ⟨_, _, _, _, _, true, _, _, _, _, _, _, _, .agg #[.int .i64 sx, .int .i64 sy], _, rfl, rfl, ⟨H.h0, H.h1, H.h2, H.h3, H.h4, fun _ => rfl, H.h6, fun h => (H.below h).trans (HB9.out.mono (H.below h).size), fun h => ⟨(H.hord h).1, (H.hord h).2.1, rfl⟩, fun h => absurd (H.hord h).2.2 (by simp [hi])⟩⟩)
          · have hml := HML.out
            obtain rfl := H.h1 (by simp [hi])
            obtain rfl := H.h2 (by simp [hi])
            refine wpOp_hidden rfl fun K hK => ?_
            go_wp2
            refine OnlyN.mk (hK.out _ _ ⟨_, _, _, _, _, _, true, _, _, _, _, _, _, _, .pointer (some ⟨gh, m * 2, none⟩), rfl, rfl, ⟨H.h0, H.h1, H.h2, H.h3, H.h4, H.h5, fun _ => rfl, H.below, H.hord, H.h7⟩⟩)
          · obtain rfl := H.h5 (by simp [hi])
            obtain rfl := H.h6 (by simp [hi])
            have hb7f : b7 = false := (by simp [hi])
            have HB0 := Lib.hid (H.below hb7f)
            obtain ⟨g0, g1, g2, g3⟩ := (HTO.out.ext HB0.out).hood.cellk (k := m) (by rw [imgTo_len]; exact HML.out)
            clear hb7f
            refine wpOp_hidden rfl fun K hK => ?_
            go_wp2
            refine OnlyN.mk (hK.out _ _ ⟨_, _, _, _, _, _, _, true, _, _, _, _, _, _, _, rfl, rfl, ⟨H.h0, H.h1, H.h2, H.h3, H.h4, H.h5, H.h6, fun h => (by cases h), fun _ => (by simp [hi]), fun _ => ⟨_, HB0.out, rfl⟩⟩⟩)
        · rintro listed act w' hr ⟨b0, b1, b2, b3, b4, b5, b6, b7, v25, v26, v27, v28, v29, v30, v31, rfl, rfl, H⟩
          have hn := List.eq_nil_iff_forall_not_mem.1 hr
          have r0 := hn 0
          simp [mem_ready, Region.binds] at r0
          subst r0
          have r1 := hn 1
          simp [mem_ready, Region.binds] at r1
          subst r1
          have r2 := hn 2
          simp [mem_ready, Region.binds] at r2
          subst r2
          have r3 := hn 3
          simp [mem_ready, Region.binds] at r3
          subst r3
          have r4 := hn 4
          simp [mem_ready, Region.binds] at r4
          subst r4
          have r5 := hn 5
          simp [mem_ready, Region.binds] at r5
          subst r5
          have r6 := hn 6
          simp [mem_ready, Region.binds] at r6
          subst r6
          have r7 := hn 7
          simp [mem_ready, Region.binds] at r7
          subst r7
          try dsimp only
          obtain ⟨w5, hb5, hw5⟩ := H.h7 rfl
          have htw := (HTO.out.ext hb5).setP HML.out sx sy
          rw [← hw5, HSET.out] at htw
          have HTF := Lib.hid htw
          have HBF : Hid (Below w0.heap.size w0 w') := Lib.hid (by
            rw [hw5]
            have h9 : Below w0.heap.size w0 w5 := HBO.out.trans (hb5.mono HBO.out.size)
            exact (h9.setCell (p := ⟨gh, m * 2, none⟩) HTO.out.gh_lt.1 _).setCell (p := ⟨gh, m * 2 + 1, none⟩) HTO.out.gh_lt.1 _)
          clear H hr hn hb5 hw5 htw
          go_wp2
          go_roundw
          case rel => exact ⟨m + 1, HML.out, (by first | rfl | (rw [hwm]; rfl)), HTF, HBF⟩
          case measure => (try rw [hwm]); exact meas_step HML.out
      · have hme : m = ps.length := Nat.le_antisymm hm (Nat.le_of_not_lt hml)
        subst hme
        have htw := HTW.out
        rw [imgTo_full] at htw
        have HTI0 : Hid (TuW w0.heap.size U gh st ps.length c2 (ps.map (symP k)) B2 d2 os rn wr) := Lib.hid htw
        obtain ⟨wi, hwi⟩ : ∃ wi, wi = wr := ⟨_, rfl⟩
        rw [← hwi] at HTI0 HBR ⊢
        clear hwi htw HTW hwm hm hml HTU0
        go_wp2
        go_loopw [9] (fun bv wr => ∃ (b : Bool) (us : List (Int × Int)) (An : Option Addr) (cn : Nat) (oz : List Hd) (nz : List Nd), bv = .bool b ∧ Hid (TuW w0.heap.size U gh st ps.length c2 us An cn oz nz wr) ∧ Hid (TI k t ⟨st, us, nz⟩) ∧ Hid (Below w0.heap.size w0 wr) ∧ Hid (b = true → us.Pairwise leP)) (fun bv wr => turnM bv wr gh ps.length)
        case atStart => exact ⟨false, _, _, _, _, _, rfl, HTI0, HTI, HBR, Lib.hid (fun h => by cases h)⟩
        case round =>
          clear HTI0 HBR HTI
          obtain ⟨b, us, An, cn, oz, nz, rfl, HTW, HTI, HBR, HSO⟩ := hrel
          cases hbb : b with
          | true =>
            subst hbb
            have HPW := Lib.hid (HSO.out rfl)
            have hlen := HTW.out.len
            have e0 := HTW.out.blk.cell_ 0 (.int .i64 st) rfl
            have e1 := HTW.out.blk.cell_ 1 (.slice (some ⟨gh, 0, none⟩) ps.length c2) rfl
            have e2 := HTW.out.blk.cell_ 2 (.slice An oz.length cn) rfl
            obtain ⟨te, hte⟩ : ∃ te, te = if 4096 < nz.length then (PT.zero, 6) else ((⟨st, us, nz⟩ : PT), (0 : Int)) := ⟨_, rfl⟩
            have HOKT : Hid (TurnOk k t te) := Lib.hid (Or.inr ⟨HTR.out, _, HTI.out, HPW.out, hte⟩)
            have hcx := sized_any st (some ⟨gh, 0, none⟩) ps.length c2 An oz.length cn wr
            obtain ⟨s3, X, n1, c1, Y, n2, c3, hsv, hfin⟩ := sized_fin (W := w0) hte (show OwnP 49 wr w0.heap.size (.slice (some ⟨gh, 0, none⟩) us.length c2) us by rw [hlen]; exact HTW.out.hood) HTW.out.nds HTW.out.eq
            rw [hlen] at hsv
            rw [hsv] at hcx
            have HCX := Lib.hid hcx
            have HFIN := Lib.hid hfin
            clear hlen hte hcx hsv hfin HSO
            go_wp2_with (go_at_call 45; refine HCX.out.mono ?_; intro e wy hx9; obtain ⟨rfl, hb9⟩ := hx9; refine Hid.out ?_)
            refine Lib.hid ?_
            have HFN9 := Lib.hid (HFIN.out.ext hb9)
            have HB9 : Hid (Below w0.heap.size w0 wy) := Lib.hid (HBR.out.trans (hb9.mono HBR.out.size))
            have HQ9 := Lib.hid (HQ0.out.below HB9.out HQ0.out.lt)
            have d0 := HQ9.out.cell_ 0 (.int .i64 0) rfl
            have d1 := HQ9.out.cell_ 1 (.slice none 0 0) rfl
            have d2' := HQ9.out.cell_ 2 (.slice none 0 0) rfl
            have f0 := HQ9.out.frozen 0
            have f1 := HQ9.out.frozen 1
            have f2 := HQ9.out.frozen 2
            clear hb9 HCX e0 e1 e2
            go_wp2
            obtain ⟨f1', f2', os9, f3', f4'⟩ := HFN9.out
            have hlt := HQ0.out.lt
            have hk3 : Kept (fun g => g = w.heap.size + 1) wy (((wy.setCell ⟨w.heap.size + 1, 0, none⟩ (.int .i64 s3)).setCell ⟨w.heap.size + 1, 1, none⟩ (.slice X n1 c1)).setCell ⟨w.heap.size + 1, 2, none⟩ (.slice Y n2 c3)) := (((Kept.refl (fun g => g = w.heap.size + 1) wy).setCell (p := ⟨w.heap.size + 1, 0, none⟩) (Or.inl rfl) _).setCell (p := ⟨w.heap.size + 1, 1, none⟩) (Or.inl rfl) _).setCell (p := ⟨w.heap.size + 1, 2, none⟩) (Or.inl rfl) _
            have ho := OwnN.kept f3' hk3 (fun g e e2 => by have h1 := (own_lt' f3'.1 e).2; rw [e2] at h1; exact Nat.lt_irrefl _ (Nat.lt_of_lt_of_le hlt h1)) (fun x hx g e e2 => by have h1 := (own_lt' (f3'.2 x hx) e).2; rw [e2] at h1; exact Nat.lt_irrefl _ (Nat.lt_of_lt_of_le hlt h1))
            have hpo := hk3.own f2' (fun g e e2 => by have h1 := (own_lt' f2' e).2; rw [e2] at h1; exact Nat.lt_irrefl _ (Nat.lt_of_lt_of_le hlt h1))
            have hbf := (HB0.out.trans (HB9.out.mono HB0.out.size)).trans (hk3.to_below (B := w.heap.size) (Nat.le_trans HB0.out.size HB9.out.size) (fun g hg e => by rw [e] at hg; exact Nat.not_succ_lt_self hg))
            have hq : Blk (((wy.setCell ⟨w.heap.size + 1, 0, none⟩ (.int .i64 s3)).setCell ⟨w.heap.size + 1, 1, none⟩ (.slice X n1 c1)).setCell ⟨w.heap.size + 1, 2, none⟩ (.slice Y n2 c3)) (w.heap.size + 1) 25 #[.int .i64 s3, .slice X n1 c1, .slice Y n2 c3] := ((HQ9.out.set_ 0 (.int .i64 s3)).set_ 1 (.slice X n1 c1)).set_ 2 (.slice Y n2 c3)
            subst f1'
            exact bodyPost_ret (results_ct Tryd.results24 _ _ (w.heap.size + 1) 25 #[.int .i64 te.1.st, .slice X n1 c1, .slice Y n2 c3] (0, 0) _ rfl hq Tryd.underlying25 rfl Tryd.sizeTree) rfl
              ⟨te, HOKT.out, _, _, os9, rfl, own_down hpo HB0.out.size, ⟨own_down ho.1 HB0.out.size, fun x hx => (ho.2 x hx).down HB0.out.size⟩, f4', hbf⟩
          | false =>
            subst hbb
            have hrow := rowP_own HTW.out.hood HTW.out.len
            have HMS0 : Hid (turnM (.bool false) wr gh ps.length = 2 * inv us + 1) := Lib.hid (by unfold turnM; rw [hrow]; rfl)
            clear hrow HSO
            go_wp2
            go_loopw [9, 10] (fun bv iv wj => ∃ (b : Bool) (j : Nat) (uj : List (Int × Int)) (An : Option Addr) (cn : Nat) (oz : List Hd) (nz : List Nd), bv = .bool b ∧ iv = .int .i64 ((j : Int) + 1) ∧ j + 1 ≤ ps.length ∧ Hid (TuW w0.heap.size U gh st ps.length c2 uj An cn oz nz wj) ∧ Hid (TI k t ⟨st, uj, nz⟩) ∧ Hid (Below w0.heap.size w0 wj) ∧
              Hid (b = true → inv uj = inv us ∧ ∀ i, i < j → leP (uj.getD i (0, 0)) (uj.getD (i + 1) (0, 0))) ∧ Hid (b = false → inv uj < inv us)) (fun _ iv _ => ps.length + 1 - (intOf iv).toNat)
            case atStart => exact ⟨true, 0, _, _, _, _, _, rfl, rfl, HPL.out, HTW, HTI, HBR, Lib.hid (fun _ => ⟨rfl, fun i hi => absurd hi (Nat.not_lt_zero _)⟩), Lib.hid (fun h => by cases h)⟩
            case round =>
              clear HTW HTI HBR
              obtain ⟨b, j, uj, Aj, cj, oj, nj, rfl, rfl, hj, HTW, HTI, HBR, HSO, HLT⟩ := hrel
              have e1 := HTW.out.blk.cell_ 1 (.slice (some ⟨gh, 0, none⟩) ps.length c2) rfl
              have HJ := Lib.hid hj
              by_cases hjn : j + 1 < ps.length
              · have d1 : decide ((j : Int) + 1 < (ps.length : Int)) = true := decide_eq_true (by omega)
                have hulen := HTW.out.len
                have hju : j + 1 < uj.length := by rw [hulen]; exact hjn
                have hwj : wrap64 ((j : Int) + 1 - 1) = (j : Int) := by have := HL9.out; unfold wrap64; omega
                have hwj2 : wrap64 (j : Int) = (j : Int) := by have := HL9.out; unfold wrap64; omega
                have hwj3 : wrap64 ((j : Int) + 1 + 1) = (j : Int) + 1 + 1 := by have := HL9.out; unfold wrap64; omega
                obtain ⟨g0, g1, -, -⟩ := HTW.out.hood.cellk (k := j) (by omega)
                obtain ⟨g2, g3, -, -⟩ := HTW.out.hood.cellk (k := j + 1) hju
                have hgt : gtB (uj[j]'(by omega)) uj[j + 1] = true → inv (swapG j uj) + 1 = inv uj := inv_swap j uj hju
                have hset := swapG_set j uj hju
                have hgd : uj.getD j (0, 0) = uj[j]'(by omega) := by rw [List.getD_eq_getElem?_getD, List.getElem?_eq_getElem (by omega)]; rfl
                have hgd2 : uj.getD (j + 1) (0, 0) = uj[j + 1] := by rw [List.getD_eq_getElem?_getD, List.getElem?_eq_getElem hju]; rfl
                have hle : ¬ gtB (uj[j]'(by omega)) uj[j + 1] = true → leP (uj.getD j (0, 0)) (uj.getD (j + 1) (0, 0)) := fun h => by rw [hgd, hgd2]; exact h
                obtain ⟨a, ha⟩ : ∃ a, a = uj[j]'(by omega) := ⟨_, rfl⟩
                obtain ⟨a', ha'⟩ : ∃ a', a' = uj[j + 1] := ⟨_, rfl⟩
                rw [← ha] at g0 g1 hgt hset hle
                rw [← ha'] at g2 g3 hgt hset hle
                have HSETA : Hid (uj[j]? = some a) := Lib.hid (by rw [List.getElem?_eq_getElem (by omega), ha])
                have HSETB : Hid (uj[j + 1]? = some a') := Lib.hid (by rw [List.getElem?_eq_getElem hju, ha'])
                obtain ⟨x, y⟩ := a
                obtain ⟨x', y'⟩ := a'
                dsimp only at g0 g1 g2 g3
                have hgtd : gtB (x, y) (x', y') = decide (0 < ordP x y x' y') := rfl
                have HGT := Lib.hid hgt
                have HSET := Lib.hid hset
                have HLE := Lib.hid hle
                have HJN := Lib.hid hjn
                have HJU := Lib.hid hju
                have G0 := cell_regrown g0
                have G1 := cell_regrown g1
                have G2 := cell_regrown g2
                have G3 := cell_regrown g3
                have E1 := cell_regrown e1
                have cC := fun d os => Calls.regrown_of (w := wr) (d := d) (os := os) (compare_any x y x' y' _)
                unfold ptV at cC
                have CC := Lib.hid cC
                clear ha ha' hgd hgd2 hgt hset hle hulen hju g0 g1 g2 g3 cC
                by_cases hcm : 0 < ordP x y x' y'
                · have q1 : decide (0 < ordP x y x' y') = true := decide_eq_true hcm
                  have HGB : Hid (gtB (x, y) (x', y') = true) := Lib.hid (by rw [hgtd, q1])
                  clear hcm hgtd
                  go_upto_region 15 with fail
                  refine wp_region_quiet_below (by kernel_rfl) (by kernel_rfl) ?_
                  repeat (go_big_quiet_step (with_reducible exact CC.out _ _))
                  refine wpQuiet_nil ?_
                  intro _ hw'
                  obtain ⟨⟨dq, osq⟩, hw''⟩ := hw'
                  subst hw''
                  obtain ⟨wq, hbq, hwq⟩ : ∃ wq, Below wr.heap.size wr wq ∧ wq = _ := ⟨_, below_regrown wr dq osq, rfl⟩
                  rw [← hwq]
                  have HTQ := Lib.hid (HTW.out.ext hbq)
                  have HBQ : Hid (Below w0.heap.size w0 wq) := Lib.hid (HBR.out.trans (hbq.mono HBR.out.size))
                  clear hbq hwq G0 G1 G2 G3 E1 CC e1 HTW HBR
                  have hbwq := HB0.out.trans (HBQ.out.mono HB0.out.size)
                  have hcan := HTI.out.can
                  rw [HTS.out.1, HTS.out.2] at hcan
                  dsimp only at hcan
                  have hoj : oj.length = nj.length := by rw [← HTQ.out.eq, List.length_map]
                  obtain ⟨An', cn', env, hnds, -⟩ := HTQ.out.nds.nds
                  injection env with env1 env2 env3
                  subst env1 env3
                  have hcall := swapped_any st (some ⟨gh, 0, none⟩) c2 ps Aj cj oj j (ps.length - j) wq hnds ((HT.out.on hbwq).up hbwq.size) HST.out.1 HST.out.2 (by have := HL9.out; omega) (by have := HJN.out; omega) (by have := HJN.out; omega)
                    (by rw [HTQ.out.eq]; exact hcan.v) (by rw [hoj]; exact hcan.pos) (by rw [HTQ.out.eq, hoj]; exact hcan.root) (by rw [HTQ.out.eq, hoj]; exact hcan.lv)
                    (by rw [hoj]; exact Nat.le_trans hcan.size (Nat.le_trans (cap_mono (q' := 8) (by have := HST.out; omega) _ 9 HL9.out) (by decide)))
                  rw [HTQ.out.eq] at hcall
                  have HCALL := Lib.hid hcall
                  have HTI2 := HTI.out.swap (by rw [HTS.out.2]; have := HL9.out; omega) (j := j) HJU.out
                  rw [show (PT.mk st uj nj).ps.length = ps.length from HTQ.out.len] at HTI2
                  have HTI3 : Hid (TI k t ⟨st, swapG j uj, swpN nj (ps.length - j)⟩) := Lib.hid HTI2
                  have u0 := HTQ.out.blk.cell_ 0 (.int .i64 st) rfl
                  have u1 := HTQ.out.blk.cell_ 1 (.slice (some ⟨gh, 0, none⟩) ps.length c2) rfl
                  have u2 := HTQ.out.blk.cell_ 2 (.slice Aj oj.length cj) rfl
                  clear hbwq hcan hoj hnds hcall HTI2 env2
                  go_wp2_with (go_at_call 52; refine HCALL.out.mono ?_; intro e w6 hx9; obtain ⟨nv, o2, rfl, ho2, he2, hb2⟩ := hx9; obtain ⟨A6, d6, ev2, -, -⟩ := ho2.nds; subst ev2; refine Hid.out ?_)
                  refine Lib.hid ?_
                  have HT6 := Lib.hid (HTQ.out.ext hb2)
                  have HB6 : Hid (Below w0.heap.size w0 w6) := Lib.hid (HBQ.out.trans (hb2.mono HBQ.out.size))
                  have ht7 := HT6.out.setT (An' := A6) (cn' := d6) (os' := o2) ⟨own_down ho2.1 HBQ.out.size, fun x hx => (ho2.2 x hx).down HBQ.out.size⟩
                  rw [he2] at ht7
                  have x0 := HT6.out.blk.cell_ 0 (.int .i64 st) rfl
                  have x1 := HT6.out.blk.cell_ 1 (.slice (some ⟨gh, 0, none⟩) ps.length c2) rfl
                  have x2 := HT6.out.blk.cell_ 2 (.slice Aj oj.length cj) rfl
                  have f0 := HT6.out.blk.frozen 0
                  have f1 := HT6.out.blk.frozen 1
                  have f2 := HT6.out.blk.frozen 2
                  obtain ⟨ws, hws⟩ : ∃ ws, ws = ((w6.setCell ⟨U, 0, none⟩ (.int .i64 st)).setCell ⟨U, 1, none⟩ (.slice (some ⟨gh, 0, none⟩) ps.length c2)).setCell ⟨U, 2, none⟩ (.slice A6 o2.length d6) := ⟨_, rfl⟩
                  rw [← hws] at ht7
                  have HT7 := Lib.hid ht7
                  have HB7 : Hid (Below w0.heap.size w0 ws) := Lib.hid (by
                    rw [hws]
                    exact ((HB6.out.setCell (p := ⟨U, 0, none⟩) HUB.out _).setCell (p := ⟨U, 1, none⟩) HUB.out _).setCell (p := ⟨U, 2, none⟩) HUB.out _)
                  have HWS := Lib.hid hws
                  clear ho2 he2 hb2 ht7 hws u0 u1 u2 HCALL
                  go_upto_region 17 with fail
                  rw [← HWS.out]
                  clear x0 x1 x2 f0 f1 f2
                  have HWJ := Lib.hid (And.intro hwj hwj2)
                  obtain ⟨W0, hW0⟩ : ∃ W0, W0 = ws.drew := ⟨_, rfl⟩
                  have hta : TuW w0.heap.size U gh st ps.length c2 uj A6 d6 o2 (swpN nj (ps.length - j)) W0 := by rw [hW0]; exact HT7.out.ext (Below.refl _ ws).drew
                  have hba : Below w0.heap.size w0 W0 := by rw [hW0]; exact HB7.out.drew
                  obtain ⟨W1, hW1⟩ : ∃ W1, W1 = (W0.setCell ⟨gh, j * 2, none⟩ (.int .i64 x')).setCell ⟨gh, j * 2 + 1, none⟩ (.int .i64 y') := ⟨_, rfl⟩
                  have htb := hta.setP (Nat.lt_of_succ_lt HJN.out) x' y'
                  rw [← hW1] at htb
                  obtain ⟨W2, hW2⟩ : ∃ W2, W2 = (W1.setCell ⟨gh, (j + 1) * 2, none⟩ (.int .i64 x)).setCell ⟨gh, (j + 1) * 2 + 1, none⟩ (.int .i64 y) := ⟨_, rfl⟩
                  have htc := htb.setP HJN.out x y
                  rw [← hW2, HSET.out] at htc
                  have hghb := HT7.out.gh_lt.1
                  have HBC : Hid (Below w0.heap.size w0 W2) := Lib.hid (by
                    rw [hW2, hW1]
                    exact (((hba.setCell (p := ⟨gh, j * 2, none⟩) hghb _).setCell (p := ⟨gh, j * 2 + 1, none⟩) hghb _).setCell (p := ⟨gh, (j + 1) * 2, none⟩) hghb _).setCell (p := ⟨gh, (j + 1) * 2 + 1, none⟩) hghb _)
                  have hca := hta.hood.cellk (k := j) (by rw [hta.len]; exact Nat.lt_of_succ_lt HJN.out)
                  have hcb := hta.hood.cellk (k := j + 1) HJU.out
                  obtain ⟨rr, hcc⟩ : ∃ rr : Int × Int, W1.cell? ⟨gh, (j + 1) * 2, none⟩ = some (.int .i64 rr.1) ∧ W1.cell? ⟨gh, (j + 1) * 2 + 1, none⟩ = some (.int .i64 rr.2) ∧ W1.frozen? ⟨gh, (j + 1) * 2, none⟩ = false ∧ W1.frozen? ⟨gh, (j + 1) * 2 + 1, none⟩ = false := ⟨_, htb.hood.cellk (k := j + 1) (by rw [htb.len]; exact HJN.out)⟩
                  rw [(List.getElem?_eq_some_iff.1 HSETA.out).2] at hca
                  rw [(List.getElem?_eq_some_iff.1 HSETB.out).2] at hcb
                  have HCA := Lib.hid hca
                  have HCB := Lib.hid hcb
                  have HCC := Lib.hid hcc
                  have HTA := Lib.hid hta
                  have HTB := Lib.hid htb
                  have HTC := Lib.hid htc
                  have HWz := Lib.hid hW0
                  have HW1 := Lib.hid hW1
                  have HW2 := Lib.hid hW2
                  have HINV : Hid (false = false → inv (swapG j uj) < inv us) := Lib.hid (fun _ => by
                    have h1 := HGT.out HGB.out
                    cases hb : b with
                    | true => have := (HSO.out hb).1; omega
                    | false => have := HLT.out hb; omega)
                  clear hW0 hta hba hW1 htb hW2 htc hghb hca hcb hcc
                  refine wp_region_J (by kernel_rfl) (fun listed act w' => ∃ b0 b1 b2 b3 b4 b5 b6 b7 b8 b9 b10 b11 b12 b13 b14 b15 b16 b17 b18 b19 b20 b21 v59 v60 v61 v62 v63 v64 v65 v66 v67 v68 v69 v70 v71 v72 v73 v74 v75 v76 v77 v78, listed = #[b0, b1, b2, b3, b4, b5, b6, b7, b8, b9, b10, b11, b12, b13, b14, b15, b16, b17, b18, b19, b20, b21] ∧ act = Act.mk #[.int .i64 k, .agg #[.int .i64 st, .slice A ps.length c, .slice B hs.length d], undef, .pointer (some ⟨w.heap.size, 0, none⟩), .pointer (some ⟨w.heap.size + 1, 0, none⟩), .int .i64 0, .pointer (some ⟨U, 0, none⟩), u7, u8, .bool b, .int .i64 ((j : Int) + 1), .agg #[.int .i64 st, .slice A ps.length c, .slice B hs.length d], .bool true, .bool false, undef, .agg #[.int .i64 st, .slice A ps.length c, .slice B hs.length d], .agg #[.int .i64 st, .slice (some ⟨gh, 0, none⟩) ps.length c2, .slice B2 os.length d2], .pointer (some ⟨U, 1, none⟩), .slice (some ⟨gh, 0, none⟩) ps.length c2, .int .i64 ps.length, .int .i64 ps.length, .bool false, u22, u23, u24, u25, u26, u27, u28, u29, u30, u31, u32, .bool false, .bool true, .int .i64 ((j : Int) + 1), .pointer (some ⟨U, 1, none⟩), .slice (some ⟨gh, 0, none⟩) ps.length c2, .int .i64 ps.length, .bool true, u40, u41, .pointer (some ⟨U, 1, none⟩), .slice (some ⟨gh, 0, none⟩) ps.length c2, .int .i64 ((j : Int) + 1), .int .i64 j, .pointer (some ⟨gh, j * 2, none⟩), .agg #[.int .i64 x, .int .i64 y], .pointer (some ⟨U, 1, none⟩), .slice (some ⟨gh, 0, none⟩) ps.length c2, .int .i64 ((j : Int) + 1), .pointer (some ⟨gh, (j + 1) * 2, none⟩), .agg #[.int .i64 x', .int .i64 y'], .int .i64 (ordP x y x' y'), .bool true, .agg #[.int .i64 st, .slice (some ⟨gh, 0, none⟩) ps.length c2, .slice Aj oj.length cj], .int .i64 ((j : Int) + 1), .int .i64 j, .agg #[.int .i64 st, .slice (some ⟨gh, 0, none⟩) ps.length c2, .slice A6 o2.length d6], v59, v60, v61, v62, v63, v64, v65, v66, v67, v68, v69, v70, v71, v72, v73, v74, v75, v76, v77, v78, undef, undef, undef, undef] [] ∧ TuB W0 W1 W2 U gh ps.length c2 j x y x' y' b0 b1 b2 b3 b4 b5 b6 b7 b8 b9 b10 b11 b12 b13 b14 b15 b16 b17 b18 b19 b20 b21 v59 v60 v61 v62 v63 v64 v65 v66 v67 v68 v69 v70 v71 v72 v73 v74 v75 v76 v77 v78 w') ?_ ?_ ?_
                  · exact ⟨_, _, _, _, _, _, _, _, _, _, _, _, _, _, _, _, _, _, _, _, _, _, _, _, _, _, _, _, _, _, _, _, _, _, _, _, _, _, _, _, _, _, rfl, rfl, ⟨(by simp), (by simp), (by simp), (by simp), (by simp), (by simp), (by simp), (by simp), (by simp), (by simp), (by simp), (by simp), (by simp), (by simp), (by simp), (by simp), (by simp), (by simp), (by simp), (by simp), (fun _ => HWz.out.symm), (by simp), (by simp), (by simp), (by simp), (by simp), (by simp)⟩⟩
                  · rintro i listed act w' hi ⟨b0, b1, b2, b3, b4, b5, b6, b7, b8, b9, b10, b11, b12, b13, b14, b15, b16, b17, b18, b19, b20, b21, v59, v60, v61, v62, v63, v64, v65, v66, v67, v68, v69, v70, v71, v72, v73, v74, v75, v76, v77, v78, rfl, rfl, H⟩
                    have hi16 : i < 22 := by
                      obtain ⟨-, o, ho, -⟩ := mem_ready.1 hi
                      exact (Array.getElem?_eq_some_iff.1 ho).1
                    obtain rfl | rfl | rfl | rfl | rfl | rfl | rfl | rfl | rfl | rfl | rfl | rfl | rfl | rfl | rfl | rfl | rfl | rfl | rfl | rfl | rfl | rfl : i = 0 ∨ i = 1 ∨ i = 2 ∨ i = 3 ∨ i = 4 ∨ i = 5 ∨ i = 6 ∨ i = 7 ∨ i = 8 ∨ i = 9 ∨ i = 10 ∨ i = 11 ∨ i = 12 ∨ i = 13 ∨ i = 14 ∨ i = 15 ∨ i = 16 ∨ i = 17 ∨ i = 18 ∨ i = 19 ∨ i = 20 ∨ i = 21 := by omega
                    all_goals simp [mem_ready, Region.binds] at hi
                    · refine wpOp_hidden rfl fun K hK => ?_
                      go_wp2
                      refine OnlyN.mk (hK.out _ _ ⟨true, _, _, _, _, _, _, _, _, _, _, _, _, _, _, _, _, _, _, _, _, _, .pointer (some ⟨U, 1, none⟩), _, _, _, _, _, _, _, _, _, _, _, _, _, _, _, _, _, _, _, rfl, rfl, ⟨fun _ => rfl, H.h1, H.h2, H.h3, H.h4, H.h5, H.h6, H.h7, H.h8, H.h9, H.h10, H.h11, H.h12, H.h13, H.h14, H.h15, H.h16, H.h17, H.h18, H.h20, H.w0, H.w1, H.w2, H.k17, H.k16, H.o19, H.o21⟩⟩)
                    · have b19f : b19 = false := by
                        cases hb : b19 with
                        | false => rfl
                        | true => exact absurd (H.o19 hb).1 (by simp [hi])
                      obtain rfl := H.w0 b19f
                      clear b19f
                      have cc1 := HTA.out.blk.cell_ 1 (.slice (some ⟨gh, 0, none⟩) ps.length c2) rfl
                      obtain rfl := H.h0 (by simp [hi])
                      refine wpOp_hidden rfl fun K hK => ?_
                      go_wp2
                      refine OnlyN.mk (hK.out _ _ ⟨_, true, _, _, _, _, _, _, _, _, _, _, _, _, _, _, _, _, _, _, _, _, _, .slice (some ⟨gh, 0, none⟩) ps.length c2, _, _, _, _, _, _, _, _, _, _, _, _, _, _, _, _, _, _, rfl, rfl, ⟨H.h0, fun _ => rfl, H.h2, H.h3, H.h4, H.h5, H.h6, H.h7, H.h8, H.h9, H.h10, H.h11, H.h12, H.h13, H.h14, H.h15, H.h16, H.h17, H.h18, H.h20, H.w0, H.w1, H.w2, H.k17, H.k16, fun h => ⟨rfl, (H.o19 h).2.1, (H.o19 h).2.2.1, (H.o19 h).2.2.2.1, (H.o19 h).2.2.2.2⟩, H.o21⟩⟩)
                    · refine wpOp_hidden rfl fun K hK => ?_
                      go_wp2
                      refine OnlyN.mk (hK.out _ _ ⟨_, _, true, _, _, _, _, _, _, _, _, _, _, _, _, _, _, _, _, _, _, _, _, _, .int .i64 ((j : Int) + 1), _, _, _, _, _, _, _, _, _, _, _, _, _, _, _, _, _, rfl, rfl, ⟨H.h0, H.h1, fun _ => rfl, H.h3, H.h4, H.h5, H.h6, H.h7, H.h8, H.h9, H.h10, H.h11, H.h12, H.h13, H.h14, H.h15, H.h16, H.h17, H.h18, H.h20, H.w0, H.w1, H.w2, H.k17, H.k16, H.o19, H.o21⟩⟩)
                    · have hwj := HWJ.out.1
                      have hwj2 := HWJ.out.2
                      obtain rfl := H.h2 (by simp [hi])
                      refine wpOp_hidden rfl fun K hK => ?_
                      go_wp2
                      refine OnlyN.mk (hK.out _ _ ⟨_, _, _, true, _, _, _, _, _, _, _, _, _, _, _, _, _, _, _, _, _, _, _, _, _, .int .i64 j, _, _, _, _, _, _, _, _, _, _, _, _, _, _, _, _, rfl, rfl, ⟨H.h0, H.h1, H.h2, fun _ => rfl, H.h4, H.h5, H.h6, H.h7, H.h8, H.h9, H.h10, H.h11, H.h12, H.h13, H.h14, H.h15, H.h16, H.h17, H.h18, H.h20, H.w0, H.w1, H.w2, H.k17, H.k16, H.o19, H.o21⟩⟩)
                    · refine wpOp_hidden rfl fun K hK => ?_
                      go_wp2
                      refine OnlyN.mk (hK.out _ _ ⟨_, _, _, _, true, _, _, _, _, _, _, _, _, _, _, _, _, _, _, _, _, _, _, _, _, _, .pointer (some ⟨U, 1, none⟩), _, _, _, _, _, _, _, _, _, _, _, _, _, _, _, rfl, rfl, ⟨H.h0, H.h1, H.h2, H.h3, fun _ => rfl, H.h5, H.h6, H.h7, H.h8, H.h9, H.h10, H.h11, H.h12, H.h13, H.h14, H.h15, H.h16, H.h17, H.h18, H.h20, H.w0, H.w1, H.w2, H.k17, H.k16, H.o19, H.o21⟩⟩)
                    · have b21f : b21 = false := by
                        cases hb : b21 with
                        | false => rfl
                        | true => exact absurd (H.o21 hb).2 (by simp [hi])
                      have cu : w'.cell? ⟨U, 1, none⟩ = some (.slice (some ⟨gh, 0, none⟩) ps.length c2) := by
                        cases hb : b19 with
                        | false => rw [H.w0 hb]; exact HTA.out.blk.cell_ 1 (.slice (some ⟨gh, 0, none⟩) ps.length c2) rfl
                        | true => rw [H.w1 hb b21f]; exact HTB.out.blk.cell_ 1 (.slice (some ⟨gh, 0, none⟩) ps.length c2) rfl
                      clear b21f
                      obtain rfl := H.h4 (by simp [hi])
                      refine wpOp_hidden rfl fun K hK => ?_
                      go_wp2
                      refine OnlyN.mk (hK.out _ _ ⟨_, _, _, _, _, true, _, _, _, _, _, _, _, _, _, _, _, _, _, _, _, _, _, _, _, _, _, .slice (some ⟨gh, 0, none⟩) ps.length c2, _, _, _, _, _, _, _, _, _, _, _, _, _, _, rfl, rfl, ⟨H.h0, H.h1, H.h2, H.h3, H.h4, fun _ => rfl, H.h6, H.h7, H.h8, H.h9, H.h10, H.h11, H.h12, H.h13, H.h14, H.h15, H.h16, H.h17, H.h18, H.h20, H.w0, H.w1, H.w2, H.k17, H.k16, H.o19, fun h => ⟨(H.o21 h).1, rfl⟩⟩⟩)
                    · refine wpOp_hidden rfl fun K hK => ?_
                      go_wp2
                      refine OnlyN.mk (hK.out _ _ ⟨_, _, _, _, _, _, true, _, _, _, _, _, _, _, _, _, _, _, _, _, _, _, _, _, _, _, _, _, .int .i64 ((j : Int) + 1), _, _, _, _, _, _, _, _, _, _, _, _, _, rfl, rfl, ⟨H.h0, H.h1, H.h2, H.h3, H.h4, H.h5, fun _ => rfl, H.h7, H.h8, H.h9, H.h10, H.h11, H.h12, H.h13, H.h14, H.h15, H.h16, H.h17, H.h18, H.h20, H.w0, H.w1, H.w2, H.k17, H.k16, H.o19, H.o21⟩⟩)
                    · refine wpOp_hidden rfl fun K hK => ?_
                      go_wp2
                      refine OnlyN.mk (hK.out _ _ ⟨_, _, _, _, _, _, _, true, _, _, _, _, _, _, _, _, _, _, _, _, _, _, _, _, _, _, _, _, _, .pointer (some ⟨U, 1, none⟩), _, _, _, _, _, _, _, _, _, _, _, _, rfl, rfl, ⟨H.h0, H.h1, H.h2, H.h3, H.h4, H.h5, H.h6, fun _ => rfl, H.h8, H.h9, H.h10, H.h11, H.h12, H.h13, H.h14, H.h15, H.h16, H.h17, H.h18, H.h20, H.w0, H.w1, H.w2, H.k17, H.k16, H.o19, H.o21⟩⟩)
                    · have b19f : b19 = false := by
                        cases hb : b19 with
                        | false => rfl
                        | true => exact absurd (H.o19 hb).2.1 (by simp [hi])
                      obtain rfl := H.w0 b19f
                      clear b19f
                      have cc1 := HTA.out.blk.cell_ 1 (.slice (some ⟨gh, 0, none⟩) ps.length c2) rfl
                      obtain rfl := H.h7 (by simp [hi])
                      refine wpOp_hidden rfl fun K hK => ?_
                      go_wp2
                      refine OnlyN.mk (hK.out _ _ ⟨_, _, _, _, _, _, _, _, true, _, _, _, _, _, _, _, _, _, _, _, _, _, _, _, _, _, _, _, _, _, .slice (some ⟨gh, 0, none⟩) ps.length c2, _, _, _, _, _, _, _, _, _, _, _, rfl, rfl, ⟨H.h0, H.h1, H.h2, H.h3, H.h4, H.h5, H.h6, H.h7, fun _ => rfl, H.h9, H.h10, H.h11, H.h12, H.h13, H.h14, H.h15, H.h16, H.h17, H.h18, H.h20, H.w0, H.w1, H.w2, H.k17, H.k16, fun h => ⟨(H.o19 h).1, rfl, (H.o19 h).2.2.1, (H.o19 h).2.2.2.1, (H.o19 h).2.2.2.2⟩, H.o21⟩⟩)
                    · refine wpOp_hidden rfl fun K hK => ?_
                      go_wp2
                      refine OnlyN.mk (hK.out _ _ ⟨_, _, _, _, _, _, _, _, _, true, _, _, _, _, _, _, _, _, _, _, _, _, _, _, _, _, _, _, _, _, _, .int .i64 ((j : Int) + 1), _, _, _, _, _, _, _, _, _, _, rfl, rfl, ⟨H.h0, H.h1, H.h2, H.h3, H.h4, H.h5, H.h6, H.h7, H.h8, fun _ => rfl, H.h10, H.h11, H.h12, H.h13, H.h14, H.h15, H.h16, H.h17, H.h18, H.h20, H.w0, H.w1, H.w2, H.k17, H.k16, H.o19, H.o21⟩⟩)
                    · have hjn := HJN.out
                      have hjn2 := Nat.lt_of_succ_lt HJN.out
                      obtain rfl := H.h8 (by simp [hi])
                      obtain rfl := H.h9 (by simp [hi])
                      refine wpOp_hidden rfl fun K hK => ?_
                      go_wp2
                      refine OnlyN.mk (hK.out _ _ ⟨_, _, _, _, _, _, _, _, _, _, true, _, _, _, _, _, _, _, _, _, _, _, _, _, _, _, _, _, _, _, _, _, .pointer (some ⟨gh, (j + 1) * 2, none⟩), _, _, _, _, _, _, _, _, _, rfl, rfl, ⟨H.h0, H.h1, H.h2, H.h3, H.h4, H.h5, H.h6, H.h7, H.h8, H.h9, fun _ => rfl, H.h11, H.h12, H.h13, H.h14, H.h15, H.h16, H.h17, H.h18, H.h20, H.w0, H.w1, H.w2, H.k17, H.k16, H.o19, H.o21⟩⟩)
                    · have b19f : b19 = false := by
                        cases hb : b19 with
                        | false => rfl
                        | true => exact absurd (H.o19 hb).2.2.1 (by simp [hi])
                      obtain rfl := H.w0 b19f
                      clear b19f
                      obtain ⟨g0, g1, g2, g3⟩ := HCB.out
                      obtain rfl := H.h10 (by simp [hi])
                      refine wpOp_hidden rfl fun K hK => ?_
                      go_wp2
                      refine OnlyN.mk (hK.out _ _ ⟨_, _, _, _, _, _, _, _, _, _, _, true, _, _, _, _, _, _, _, _, _, _, _, _, _, _, _, _, _, _, _, _, _, .agg #[.int .i64 x', .int .i64 y'], _, _, _, _, _, _, _, _, rfl, rfl, ⟨H.h0, H.h1, H.h2, H.h3, H.h4, H.h5, H.h6, H.h7, H.h8, H.h9, H.h10, fun _ => rfl, H.h12, H.h13, H.h14, H.h15, H.h16, H.h17, H.h18, H.h20, H.w0, H.w1, H.w2, H.k17, H.k16, fun h => ⟨(H.o19 h).1, (H.o19 h).2.1, rfl, (H.o19 h).2.2.2.1, (H.o19 h).2.2.2.2⟩, H.o21⟩⟩)
                    · refine wpOp_hidden rfl fun K hK => ?_
                      go_wp2
                      refine OnlyN.mk (hK.out _ _ ⟨_, _, _, _, _, _, _, _, _, _, _, _, true, _, _, _, _, _, _, _, _, _, _, _, _, _, _, _, _, _, _, _, _, _, .pointer (some ⟨U, 1, none⟩), _, _, _, _, _, _, _, rfl, rfl, ⟨H.h0, H.h1, H.h2, H.h3, H.h4, H.h5, H.h6, H.h7, H.h8, H.h9, H.h10, H.h11, fun _ => rfl, H.h13, H.h14, H.h15, H.h16, H.h17, H.h18, H.h20, H.w0, H.w1, H.w2, H.k17, H.k16, H.o19, H.o21⟩⟩)
                    · have b19f : b19 = false := by
                        cases hb : b19 with
                        | false => rfl
                        | true => exact absurd (H.o19 hb).2.2.2.1 (by simp [hi])
                      obtain rfl := H.w0 b19f
                      clear b19f
                      have cc1 := HTA.out.blk.cell_ 1 (.slice (some ⟨gh, 0, none⟩) ps.length c2) rfl
                      obtain rfl := H.h12 (by simp [hi])
                      refine wpOp_hidden rfl fun K hK => ?_
                      go_wp2
                      refine OnlyN.mk (hK.out _ _ ⟨_, _, _, _, _, _, _, _, _, _, _, _, _, true, _, _, _, _, _, _, _, _, _, _, _, _, _, _, _, _, _, _, _, _, _, .slice (some ⟨gh, 0, none⟩) ps.length c2, _, _, _, _, _, _, rfl, rfl, ⟨H.h0, H.h1, H.h2, H.h3, H.h4, H.h5, H.h6, H.h7, H.h8, H.h9, H.h10, H.h11, H.h12, fun _ => rfl, H.h14, H.h15, H.h16, H.h17, H.h18, H.h20, H.w0, H.w1, H.w2, H.k17, fun _ => rfl, fun h => ⟨(H.o19 h).1, (H.o19 h).2.1, (H.o19 h).2.2.1, rfl, (H.o19 h).2.2.2.2⟩, H.o21⟩⟩)
                    · refine wpOp_hidden rfl fun K hK => ?_
                      go_wp2
                      refine OnlyN.mk (hK.out _ _ ⟨_, _, _, _, _, _, _, _, _, _, _, _, _, _, true, _, _, _, _, _, _, _, _, _, _, _, _, _, _, _, _, _, _, _, _, _, .int .i64 ((j : Int) + 1), _, _, _, _, _, rfl, rfl, ⟨H.h0, H.h1, H.h2, H.h3, H.h4, H.h5, H.h6, H.h7, H.h8, H.h9, H.h10, H.h11, H.h12, H.h13, fun _ => rfl, H.h15, H.h16, H.h17, H.h18, H.h20, H.w0, H.w1, H.w2, H.k17, H.k16, H.o19, H.o21⟩⟩)
                    · have hwj := HWJ.out.1
                      have hwj2 := HWJ.out.2
                      obtain rfl := H.h14 (by simp [hi])
                      refine wpOp_hidden rfl fun K hK => ?_
                      go_wp2
                      refine OnlyN.mk (hK.out _ _ ⟨_, _, _, _, _, _, _, _, _, _, _, _, _, _, _, true, _, _, _, _, _, _, _, _, _, _, _, _, _, _, _, _, _, _, _, _, _, .int .i64 j, _, _, _, _, rfl, rfl, ⟨H.h0, H.h1, H.h2, H.h3, H.h4, H.h5, H.h6, H.h7, H.h8, H.h9, H.h10, H.h11, H.h12, H.h13, H.h14, fun _ => rfl, H.h16, H.h17, H.h18, H.h20, H.w0, H.w1, H.w2, H.k17, H.k16, H.o19, H.o21⟩⟩)
                    · have hjn := HJN.out
                      have hjn2 := Nat.lt_of_succ_lt HJN.out
                      obtain rfl := H.h13 (by simp [hi])
                      obtain rfl := H.h15 (by simp [hi])
                      refine wpOp_hidden rfl fun K hK => ?_
                      go_wp2
                      refine OnlyN.mk (hK.out _ _ ⟨_, _, _, _, _, _, _, _, _, _, _, _, _, _, _, _, true, _, _, _, _, _, _, _, _, _, _, _, _, _, _, _, _, _, _, _, _, _, .pointer (some ⟨gh, j * 2, none⟩), _, _, _, rfl, rfl, ⟨H.h0, H.h1, H.h2, H.h3, H.h4, H.h5, H.h6, H.h7, H.h8, H.h9, H.h10, H.h11, H.h12, H.h13, H.h14, H.h15, fun _ => rfl, H.h17, H.h18, H.h20, H.w0, H.w1, H.w2, fun _ => rfl, fun _ => (by simp [hi]), H.o19, H.o21⟩⟩)
                    · have b19f : b19 = false := by
                        cases hb : b19 with
                        | false => rfl
                        | true => exact absurd (H.o19 hb).2.2.2.2 (by simp [hi])
                      obtain rfl := H.w0 b19f
                      clear b19f
                      obtain ⟨g0, g1, g2, g3⟩ := HCA.out
                      obtain rfl := H.h16 (by simp [hi])
                      refine wpOp_hidden rfl fun K hK => ?_
                      go_wp2
                      refine OnlyN.mk (hK.out _ _ ⟨_, _, _, _, _, _, _, _, _, _, _, _, _, _, _, _, _, true, _, _, _, _, _, _, _, _, _, _, _, _, _, _, _, _, _, _, _, _, _, .agg #[.int .i64 x, .int .i64 y], _, _, rfl, rfl, ⟨H.h0, H.h1, H.h2, H.h3, H.h4, H.h5, H.h6, H.h7, H.h8, H.h9, H.h10, H.h11, H.h12, H.h13, H.h14, H.h15, H.h16, fun _ => rfl, H.h18, H.h20, H.w0, H.w1, H.w2, fun _ => (by simp [hi]), H.k16, fun h => ⟨(H.o19 h).1, (H.o19 h).2.1, (H.o19 h).2.2.1, (H.o19 h).2.2.2.1, rfl⟩, H.o21⟩⟩)
                    · have hjn := HJN.out
                      have hjn2 := Nat.lt_of_succ_lt HJN.out
                      obtain rfl := H.h1 (by simp [hi])
                      obtain rfl := H.h3 (by simp [hi])
                      refine wpOp_hidden rfl fun K hK => ?_
                      go_wp2
                      refine OnlyN.mk (hK.out _ _ ⟨_, _, _, _, _, _, _, _, _, _, _, _, _, _, _, _, _, _, true, _, _, _, _, _, _, _, _, _, _, _, _, _, _, _, _, _, _, _, _, _, .pointer (some ⟨gh, j * 2, none⟩), _, rfl, rfl, ⟨H.h0, H.h1, H.h2, H.h3, H.h4, H.h5, H.h6, H.h7, H.h8, H.h9, H.h10, H.h11, H.h12, H.h13, H.h14, H.h15, H.h16, H.h17, fun _ => rfl, H.h20, H.w0, H.w1, H.w2, H.k17, H.k16, H.o19, H.o21⟩⟩)
                    · obtain rfl := H.h18 (by simp [hi])
                      obtain rfl := H.h11 (by simp [hi])
                      obtain rfl := H.w0 (by simp [hi])
                      obtain ⟨g0, g1, g2, g3⟩ := HCA.out
                      have h13 := H.k16 (H.k17 (by simp [hi]))
                      refine wpOp_hidden rfl fun K hK => ?_
                      go_wp2
                      refine OnlyN.mk (hK.out _ _ ⟨_, _, _, _, _, _, _, _, _, _, _, _, _, _, _, _, _, _, _, true, _, _, _, _, _, _, _, _, _, _, _, _, _, _, _, _, _, _, _, _, _, _, rfl, rfl, ⟨H.h0, H.h1, H.h2, H.h3, H.h4, H.h5, H.h6, H.h7, H.h8, H.h9, H.h10, H.h11, H.h12, H.h13, H.h14, H.h15, H.h16, H.h17, H.h18, H.h20, fun h => (by cases h), fun _ _ => HW1.out.symm, fun h => absurd (H.o21 h).1 (by simp [hi]), H.k17, H.k16, fun _ => ⟨(by simp [hi]), (by simp [hi]), (by simp [hi]), h13, (by simp [hi])⟩, fun h => ⟨rfl, (H.o21 h).2⟩⟩⟩)
                    · have hjn := HJN.out
                      have hjn2 := Nat.lt_of_succ_lt HJN.out
                      obtain rfl := H.h5 (by simp [hi])
                      obtain rfl := H.h6 (by simp [hi])
                      refine wpOp_hidden rfl fun K hK => ?_
                      go_wp2
                      refine OnlyN.mk (hK.out _ _ ⟨_, _, _, _, _, _, _, _, _, _, _, _, _, _, _, _, _, _, _, _, true, _, _, _, _, _, _, _, _, _, _, _, _, _, _, _, _, _, _, _, _, .pointer (some ⟨gh, (j + 1) * 2, none⟩), rfl, rfl, ⟨H.h0, H.h1, H.h2, H.h3, H.h4, H.h5, H.h6, H.h7, H.h8, H.h9, H.h10, H.h11, H.h12, H.h13, H.h14, H.h15, H.h16, H.h17, H.h18, fun _ => rfl, H.w0, H.w1, H.w2, H.k17, H.k16, H.o19, H.o21⟩⟩)
                    · obtain rfl := H.h20 (by simp [hi])
                      obtain rfl := H.h17 (by simp [hi])
                      obtain rfl := H.w1 (by simp [hi]) (by simp [hi])
                      obtain ⟨g0, g1, g2, g3⟩ := HCC.out
                      refine wpOp_hidden rfl fun K hK => ?_
                      go_wp2
                      refine OnlyN.mk (hK.out _ _ ⟨_, _, _, _, _, _, _, _, _, _, _, _, _, _, _, _, _, _, _, _, _, true, _, _, _, _, _, _, _, _, _, _, _, _, _, _, _, _, _, _, _, _, rfl, rfl, ⟨H.h0, H.h1, H.h2, H.h3, H.h4, H.h5, H.h6, H.h7, H.h8, H.h9, H.h10, H.h11, H.h12, H.h13, H.h14, H.h15, H.h16, H.h17, H.h18, H.h20, fun h => absurd h (by simp [hi]), fun _ h => (by cases h), fun _ => HW2.out.symm, H.k17, H.k16, H.o19, fun _ => (by simp [hi])⟩⟩)
                  · rintro listed act w' hr ⟨b0, b1, b2, b3, b4, b5, b6, b7, b8, b9, b10, b11, b12, b13, b14, b15, b16, b17, b18, b19, b20, b21, v59, v60, v61, v62, v63, v64, v65, v66, v67, v68, v69, v70, v71, v72, v73, v74, v75, v76, v77, v78, rfl, rfl, H⟩
                    have hn := List.eq_nil_iff_forall_not_mem.1 hr
                    have r0 := hn 0
                    simp [mem_ready, Region.binds] at r0
                    subst r0
                    have r1 := hn 1
                    simp [mem_ready, Region.binds] at r1
                    subst r1
                    have r2 := hn 2
                    simp [mem_ready, Region.binds] at r2
                    subst r2
                    have r3 := hn 3
                    simp [mem_ready, Region.binds] at r3
                    subst r3
                    have r4 := hn 4
                    simp [mem_ready, Region.binds] at r4
                    subst r4
                    have r5 := hn 5
                    simp [mem_ready, Region.binds] at r5
                    subst r5
                    have r6 := hn 6
                    simp [mem_ready, Region.binds] at r6
                    subst r6
                    have r7 := hn 7
                    simp [mem_ready, Region.binds] at r7
                    subst r7
                    have r8 := hn 8
                    simp [mem_ready, Region.binds] at r8
                    subst r8
                    have r9 := hn 9
                    simp [mem_ready, Region.binds] at r9
                    subst r9
                    have r10 := hn 10
                    simp [mem_ready, Region.binds] at r10
                    subst r10
                    have r11 := hn 11
                    simp [mem_ready, Region.binds] at r11
                    subst r11
                    have r12 := hn 12
                    simp [mem_ready, Region.binds] at r12
                    subst r12
                    have r13 := hn 13
                    simp [mem_ready, Region.binds] at r13
                    subst r13
                    have r14 := hn 14
                    simp [mem_ready, Region.binds] at r14
                    subst r14
                    have r15 := hn 15
                    simp [mem_ready, Region.binds] at r15
                    subst r15
                    have r16 := hn 16
                    simp [mem_ready, Region.binds] at r16
                    subst r16
                    have r17 := hn 17
                    simp [mem_ready, Region.binds] at r17
                    subst r17
                    have r18 := hn 18
                    simp [mem_ready, Region.binds] at r18
                    subst r18
                    have r19 := hn 19
                    simp [mem_ready, Region.binds] at r19
                    subst r19
                    have r20 := hn 20
                    simp [mem_ready, Region.binds] at r20
                    subst r20
                    have r21 := hn 21
                    simp [mem_ready, Region.binds] at r21
                    subst r21
                    try dsimp only
                    obtain rfl := H.w2 rfl
                    have HTF := HTC
                    have HBF := HBC
                    clear H hr hn
                    go_wp2
                    go_roundw
                    case rel => exact ⟨false, j + 1, swapG j uj, A6, d6, o2, swpN nj (ps.length - j), rfl, (by first | rfl | (rw [hwj3]; rfl)), HJN.out, HTF, HTI3, HBF, Lib.hid (fun h => by cases h), HINV⟩
                    case measure => (try rw [hwj3]); have := HJN.out; simp only [intOf]; omega
                · have q1 : decide (0 < ordP x y x' y') = false := decide_eq_false hcm
                  have HGB : Hid (¬ gtB (x, y) (x', y') = true) := Lib.hid (by rw [hgtd, q1]; exact Bool.false_ne_true)
                  clear hcm hgtd
                  go_upto_region 15 with fail
                  refine wp_region_quiet_below (by kernel_rfl) (by kernel_rfl) ?_
                  repeat (go_big_quiet_step (with_reducible exact CC.out _ _))
                  refine wpQuiet_nil ?_
                  intro _ hw'
                  obtain ⟨⟨dq, osq⟩, hw''⟩ := hw'
                  subst hw''
                  go_wp2
                  go_roundw
                  case rel => exact ⟨b, j + 1, uj, Aj, cj, oj, nj, rfl, (by first | rfl | (rw [hwj3]; rfl)), HJN.out, Lib.hid (HTW.out.ext (below_regrown wr dq osq)), HTI, Lib.hid (HBR.out.trans ((below_regrown wr dq osq).mono HBR.out.size)), Lib.hid (fun hb => ⟨(HSO.out hb).1, fun i hi => by
                    rcases Nat.lt_or_ge i j with h1 | h1
                    · exact (HSO.out hb).2 i h1
                    · obtain rfl : i = j := Nat.le_antisymm (Nat.le_of_lt_succ hi) h1
                      exact HLE.out HGB.out⟩), HLT⟩
                  case measure => (try rw [hwj3]); have := HJN.out; simp only [intOf]; omega
              · have hje : j + 1 = ps.length := Nat.le_antisymm hj (Nat.le_of_not_lt hjn)
                have d1 : decide ((j : Int) + 1 < (ps.length : Int)) = false := decide_eq_false (by omega)
                have HPAIR : Hid (b = true → uj.Pairwise leP) := Lib.hid (fun hb => adj_pairwise uj (fun i hi => by
                  have h1 := (HSO.out hb).2 i (by have := HTW.out.len; omega)
                  rwa [List.getD_eq_getElem?_getD, List.getElem?_eq_getElem (by omega), List.getD_eq_getElem?_getD, List.getElem?_eq_getElem hi] at h1))
                have hrow2 := rowP_own HTW.out.hood HTW.out.len
                have HMS : Hid (turnM (.bool b) wr gh ps.length < 2 * inv us + 1) := Lib.hid (by
                  unfold turnM
                  rw [hrow2]
                  cases hb : b with
                  | true => have := (HSO.out hb).1; simp only [flagM]; omega
                  | false => have := HLT.out hb; simp only [flagM]; omega)
                clear hrow2 hj hjn
                go_wp2
                go_roundw
                case rel => exact ⟨b, uj, Aj, cj, oj, nj, rfl, HTW, HTI, HBR, HPAIR⟩
                case measure => exact Nat.lt_of_lt_of_eq HMS.out HMS0.out.symm
end Go.Proofs.YtojnnfihpiegoaaDoor
