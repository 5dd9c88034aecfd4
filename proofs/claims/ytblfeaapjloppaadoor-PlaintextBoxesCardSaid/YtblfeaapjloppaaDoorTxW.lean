/-
  plaintext.Text. No condition.
-/
import Derived.Test.YtblfeaapjloppaaDoorTx
namespace Go.Proofs.YtblfeaapjloppaaDoor
open Go.RowKit
set_option maxRecDepth 100000
set_option linter.unusedVariables false
set_option linter.unusedSimpArgs false

def RetText (r : List UInt8 × Int) (w : World) (e : Ending) (w' : World) : Prop := e = .returned (.tuple #[.string ⟨r.1.toArray⟩, .int .i64 r.2]) ∧ Below w.heap.size w w'
theorem RetText.bad {r : List UInt8 × Int} {k : Int} {w w' : World} (h : r = ([], k)) (hb : Below w.heap.size w w') : RetText r w (.returned (.tuple #[.string ⟨#[]⟩, .int .i64 k])) w' := by
  subst h
  exact ⟨rfl, hb⟩
theorem any_take {ps : List Cel} {k : Nat} (h : (ps.take k).any negB = false) (hk : k < ps.length) (h2 : negB ps[k] = false) : (ps.take (k + 1)).any negB = false := by
  rw [List.take_succ_eq_append_getElem hk, List.any_append, h]
  simp [h2]
theorem any_yes {ps : List Cel} {k : Nat} (hk : k < ps.length) (h2 : negB ps[k] = true) : ps.any negB = true := List.any_eq_true.2 ⟨_, List.getElem_mem hk, h2⟩
theorem rep_snoc (l : List UInt8) (j : Nat) (c : UInt8) : l ++ List.replicate j c ++ [c] = l ++ List.replicate (j + 1) c := by
  rw [List.append_assoc, List.replicate_succ']
theorem ms_up {n k : Nat} (h : k < n) : n - (intOf (.int .i64 ((k : Int) + 1))).toNat < n - (intOf (.int .i64 (k : Int))).toNat := by
  simp [intOf]
  omega
theorem ms_gap {a b : Int} (h : a < b) : (b - (intOf (.int .i64 (a + 1)))).toNat < (b - (intOf (.int .i64 a))).toNat := by
  simp [intOf]
  omega
theorem gap_in {y t : Int} {j : Nat} (h : t + j = y) (h0 : 0 ≤ t) (h1 : y ≤ 2000000) : wrap64 (y + 1) = y + 1 := by unfold wrap64; omega
theorem len_32 {a b n : Nat} (h : a = n + b) (h1 : n ≤ 65536) (h2 : (b : Int) ≤ 2000000) : a < 4294967296 := by omega
theorem len_33 {a b i n : Nat} {z : Int} (h : a = n + b + i) (h1 : n ≤ 65536) (hb : b = z.toNat) (h2 : z ≤ 2000000) (h3 : (i : Int) ≤ 2000000) : a < 4294967296 := by omega
theorem wr_a {n : Nat} {y : Int} (h1 : n ≤ 65536) (h2 : 0 ≤ y) (h3 : y ≤ 1048576) : wrap64 ((n : Int) + y) = n + y := by unfold wrap64; omega
theorem wr_b {n : Nat} {y z : Int} (h1 : n ≤ 65536) (h2 : 0 ≤ y) (h3 : y ≤ 1048576) (h4 : 0 ≤ z) (h5 : z ≤ 1048576) : wrap64 ((n : Int) + y - z) = n + y - z := by unfold wrap64; omega
theorem wr_c {x : Int} (h0 : -2000000 ≤ x) (h1 : x ≤ 2000000) : wrap64 (x + 1) = x + 1 := by unfold wrap64; omega
theorem step_eq (top : Int) (t : TS) (x y s : Int) {ly : Nat} {lx : Nat} {x' : Int} (h1 : ly = (y - t.y).toNat) (h2 : x' = if t.y < y then 0 else t.x) (h3 : lx = (x - x').toNat) :
    (⟨t.out ++ List.replicate ly 10 ++ List.replicate lx 46 ++ [chB top s], x + 1, y⟩ : TS) = stepT top t ⟨x, y, s⟩ := by
  subst h1 h2 h3
  rfl
theorem TI.far' {top : Int} {ps : List Cel} {k : Nat} {t : TS} (h : TI top ps k t) (ht : top = topC ps) (hr : rightC ps = true) (hn : ps.any negB = false) (hk : k < ps.length) (ho : 65536 < (t.out.length : Int) + ps[k].y - t.y ∨ 65536 < ps[k].x) : textT ps = ([], 6) := by
  subst ht
  exact h.far hr hn hk ho
theorem TI.far2' {top : Int} {ps : List Cel} {k : Nat} {t : TS} (h : TI top ps k t) (ht : top = topC ps) (hr : rightC ps = true) (hn : ps.any negB = false) (ho : 65536 < t.out.length) : textT ps = ([], 6) := by
  subst ht
  exact h.far2 hr hn ho
set_option maxHeartbeats 8000000 in
theorem text_any (A : Option Addr) (c : Nat) (ps : List Cel) (w : World) (ha : Cls w A ps) :
    Calls Tryd.prog 12 #[.slice A ps.length c] w (RetText (textT ps) w) := by
  have hn := ha.le
  have hR := right_any A c ps w ha
  by_cases hr : rightC ps = false
  · have HN := Lib.hid (text_bad hr)
    rw [hr] at hR
    clear hr
    go_enter Tryd.func12, Tryd.ntmps12
    go_wp2_with (go_at_call 25; refine hR.mono ?_)
    rintro e w1 ⟨rfl, hb1⟩
    go_wp2
    go_ret2
    exact RetText.bad HN.out hb1
  have hr1 : rightC ps = true := by simpa using hr
  rw [hr1] at hR
  have HR := Lib.hid hr1
  have hl5 : ps.length ≤ 5000 := right_len hr1
  clear hr hr1
  go_enter Tryd.func12, Tryd.ntmps12
  go_wp2_with (go_at_call 25; refine hR.mono ?_)
  rintro e w1 ⟨rfl, hb1⟩
  clear hR
  go_wp2
  have HA := Lib.hid ha
  have HB1 := Lib.hid hb1
  clear ha hb1
  go_loopw [17] (fun i wr => ∃ k : Nat, k ≤ ps.length ∧ i = .int .i64 k ∧ Hid (Below w.heap.size w wr) ∧ Hid ((ps.take k).any negB = false)) (fun i _ => ps.length - (intOf i).toNat)
  case atStart => exact ⟨0, Nat.zero_le _, rfl, HB1, Lib.hid (by simp)⟩
  case round =>
    clear HB1
    obtain ⟨k, hk, rfl, HB, HT⟩ := hrel
    by_cases hlt : k < ps.length
    · obtain ⟨b1, o1, e1, hbl, hc0, hc1, hc2⟩ := (HA.out.ext HB.out).at_ hlt
      have HQ := right_cel HR.out hlt
      obtain ⟨q, hq⟩ : ∃ q, q = ps[k] := ⟨_, rfl⟩
      rw [← hq] at hc0 hc1 hc2 HQ
      have HQE := Lib.hid hq
      have HQ2 := Lib.hid HQ
      have hnb := below_new wr (.cells #[.int .i64 q.x, .int .i64 q.y, .int .i64 q.s] 34)
      have p0 := Blk.new wr 34 #[.int .i64 q.x, .int .i64 q.y, .int .i64 q.s]
      have HB2 := Lib.hid (HB.out.trans (hnb.mono HB.out.size))
      have hw1 : wrap64 ((k : Int) + 1) = (k : Int) + 1 := wr_c (by omega) (by omega)
      clear hq HQ hnb
      subst e1
      by_cases h0 : q.x < 0
      · have d0 : decide (q.x < 0) = true := decide_eq_true h0
        have HN := Lib.hid (text_neg HR.out (any_yes hlt (by rw [← HQE.out]; unfold negB; rw [d0] <;> rfl)))
        clear h0
        have x0 := p0.cell 0
        have x1 := p0.cell 1
        go_wp2
        go_ret2
        exact RetText.bad HN.out HB2.out
      have d0 : decide (q.x < 0) = false := decide_eq_false h0
      by_cases h1 : q.y < 0
      · have d1 : decide (q.y < 0) = true := decide_eq_true h1
        have HN := Lib.hid (text_neg HR.out (any_yes hlt (by rw [← HQE.out]; unfold negB; rw [d0, d1] <;> rfl)))
        clear h0 h1
        have x0 := p0.cell 0
        have x1 := p0.cell 1
        go_wp2
        go_ret2
        exact RetText.bad HN.out HB2.out
      have d1 : decide (q.y < 0) = false := decide_eq_false h1
      have HN := Lib.hid (any_take HT.out hlt (by rw [← HQE.out]; unfold negB; rw [d0, d1] <;> rfl))
      clear h0 h1
      have x0 := p0.cell 0
      have x1 := p0.cell 1
      go_wp2
      go_roundw
      case rel => exact ⟨k + 1, hlt, rfl, HB2, HN⟩
      case measure => exact ms_up hlt
    · obtain rfl : k = ps.length := by omega
      have dk : decide ((ps.length : Int) < ps.length) = false := decide_eq_false (by omega)
      have HNG : Hid (ps.any negB = false) := Lib.hid (by have h := HT.out; rwa [List.take_length] at h)
      have hCH := chars_any A c ps wr (HA.out.ext HB.out)
      obtain ⟨top, htop⟩ : ∃ top, top = topC ps := ⟨_, rfl⟩
      have HTOP := Lib.hid htop
      rw [← htop] at hCH
      clear htop hk hlt HT
      go_wp2_with (go_at_call 26; refine hCH.mono ?_; rintro e w' ⟨rfl, rfl⟩)
      clear hCH
      go_loopw [7, 8, 9, 34] (fun o x y i wz => ∃ (k : Nat) (t : TS), k ≤ ps.length ∧ i = .int .i64 k ∧ OwnB wz w.heap.size o t.out ∧ x = .int .i64 t.x ∧ y = .int .i64 t.y ∧ Hid (Below w.heap.size w wz) ∧ Hid (TI top ps k t) ∧ Hid (t.out.length ≤ 65536)) (fun _ _ _ i _ => ps.length - (intOf i).toNat)
      case atStart => exact ⟨0, ⟨[], 0, 0⟩, Nat.zero_le _, rfl, OwnB.nil _ _, rfl, rfl, HB, Lib.hid (TI.start), Lib.hid (by simp)⟩
      case round =>
        clear HB
        obtain ⟨wz, rfl⟩ : ∃ wz : World, wz = wr := ⟨_, rfl⟩
        obtain ⟨k, t, hk, rfl, hown, rfl, rfl, HB, HI, HL⟩ := hrel
        by_cases hlt : k < ps.length
        · obtain ⟨b1, o1, e1, hbl, hc0, hc1, hc2⟩ := (HA.out.ext HB.out).at_ hlt
          have HQ := right_cel HR.out hlt
          have HS := HTOP.out ▸ top_ge hlt
          have HNG2 := neg_no HNG.out hlt
          have HNX := HI.out.nx hlt HNG2.1 HNG2.2
          obtain ⟨q, hq⟩ : ∃ q, q = ps[k] := ⟨_, rfl⟩
          rw [← hq] at hc0 hc1 hc2 HQ HS HNX HNG2
          obtain ⟨qx, qy, qs⟩ := q
          dsimp only at hc0 hc1 hc2 HQ HS HNX HNG2
          have HQE := Lib.hid hq
          have p0 := Blk.new wz 34 #[.int .i64 qx, .int .i64 qy, .int .i64 qs]
          have hnb := below_new wz (.cells #[.int .i64 qx, .int .i64 qy, .int .i64 qs] 34)
          have HB2 := Lib.hid (HB.out.trans (hnb.mono HB.out.size))
          have hown2 := hown.ext hnb
          obtain ⟨v8, hv8⟩ := hown.form
          have hw1 : wrap64 ((k : Int) + 1) = (k : Int) + 1 := wr_c (by omega) (by omega)
          have hw2 : wrap64 ((t.out.length : Int) + qy) = t.out.length + qy := wr_a HL.out HNG2.2 HQ.2.2.2.1
          have hw3 : wrap64 ((t.out.length : Int) + qy - t.y) = t.out.length + qy - t.y := wr_b HL.out HNG2.2 HQ.2.2.2.1 HI.out.y0 HI.out.y1
          have hbsz := HB.out.size
          have HQ2 := Lib.hid (And.intro HQ (And.intro HNG2 (And.intro HNX HS)))
          clear hq HQ HNG2 HNX HS hnb hown
          subst e1
          obtain ⟨c8, rfl⟩ := hv8
          by_cases h0 : 65536 < (t.out.length : Int) + qy - t.y
          · have d0 : decide (65536 < (t.out.length : Int) + qy - t.y) = true := decide_eq_true h0
            have HN := Lib.hid (HI.out.far' HTOP.out HR.out HNG.out hlt (by rw [← HQE.out]; exact .inl h0))
            clear h0 hown2
            have x0 := p0.cell 0
            have x1 := p0.cell 1
            go_wp2
            go_ret2
            exact RetText.bad HN.out HB2.out
          have d0 : decide (65536 < (t.out.length : Int) + qy - t.y) = false := decide_eq_false h0
          by_cases h1 : 65536 < qx
          · have d1 : decide (65536 < qx) = true := decide_eq_true h1
            have HN := Lib.hid (HI.out.far' HTOP.out HR.out HNG.out hlt (by rw [← HQE.out]; exact .inr h1))
            clear h0 h1 hown2
            have x0 := p0.cell 0
            have x1 := p0.cell 1
            go_wp2
            go_ret2
            exact RetText.bad HN.out HB2.out
          have d1 : decide (65536 < qx) = false := decide_eq_false h1
          have HS1 := Lib.hid (And.intro h0 h1)
          clear h0 h1
          have x0 := p0.cell 0
          have x1 := p0.cell 1
          go_upto_region 17 with fail
          obtain ⟨wa, hwa⟩ : ∃ wa, wa = wz.alloc (.cells #[.int .i64 qx, .int .i64 qy, .int .i64 qs] 34) := ⟨_, rfl⟩
          have hsa : w.heap.size ≤ wa.heap.size := by rw [hwa]; simp; omega
          rw [← hwa] at p0 HB2 hown2 ⊢
          have HP0 := Lib.hid p0
          have HO0 := Lib.hid hown2
          have HSA := Lib.hid hsa
          clear x0 x1 hwa p0 hown2 d0 d1 hw2 hw3 hsa hc0 hc1 hc2
          go_loopw [7, 8, 9] (fun o x y wb => ∃ (j : Nat) (L : List UInt8) (xv : Int), y = .int .i64 (t.y + j) ∧ t.y + j ≤ qy ∧ x = .int .i64 xv ∧ Hid (xv = if j = 0 then t.x else 0) ∧ Hid (L = t.out ++ List.replicate j 10) ∧ Hid (OwnB wb w.heap.size o L) ∧ Blk wb wz.heap.size 34 #[.int .i64 qx, .int .i64 qy, .int .i64 qs] ∧ Hid (Below w.heap.size w wb)) (fun _ _ y _ => (qy - (intOf y)).toNat)
          case atStart => exact ⟨0, t.out, t.x, by simp, by have := HQ2.out.2.2.1.1; simpa using this, rfl, Lib.hid rfl, Lib.hid (by simp), HO0, HP0.out, HB2⟩
          case round =>
            obtain ⟨j, L, x', rfl, hj, rfl, HXE, HLE, HO, hp, HBb⟩ := hrel
            have x1 := hp.cell 1
            by_cases hjl : t.y + j < qy
            · have dj : decide (t.y + (j : Int) < qy) = true := decide_eq_true hjl
              have hwy : wrap64 (t.y + (j : Int) + 1) = t.y + j + 1 := gap_in rfl HI.out.y0 (by have := HQ2.out.1; omega)
              have hown3 := HO.out
              have hln3 : L.length < 4294967296 := len_32 (by rw [HLE.out, List.length_append, List.length_replicate]) HL.out (by have := HQ2.out.1; have := HI.out.y0; omega)
              have hbs3 := HBb.out.size
              have hjl2 := Lib.hid hjl
              clear hjl
              go_wp2_with (at_builtin; refine wpList_pushB rfl _ _ rfl w.heap.size _ _ rfl hown3 10 _ rfl rfl hln3 hbs3 ?_)
              intro v' w9 ho9 hb9 hk9
              have hp9 := hk9 _ _ _ (by decide) hp
              have HO9 := Lib.hid ho9
              have HB9 := Lib.hid (HBb.out.trans hb9)
              clear ho9 hb9 hk9 hown3
              go_wp2
              go_roundw
              case rel => exact ⟨j + 1, _, 0, (by rw [hwy, Int.natCast_add, ← Int.add_assoc]; rfl), (by have := hjl2.out; omega), rfl, Lib.hid (by rw [if_neg (by omega)]), Lib.hid (by rw [HLE.out, rep_snoc]), HO9, hp9, HB9⟩
              case measure => rw [hwy]; exact ms_gap hjl2.out
            · have dj : decide (t.y + (j : Int) < qy) = false := decide_eq_false hjl
              have hjq : t.y + j = qy := by omega
              have HJ : Hid (j = (qy - t.y).toNat) := Lib.hid (by omega)
              have HX : Hid (x' = if t.y < qy then 0 else t.x) := Lib.hid (by
                rw [HXE.out]
                by_cases h : j = 0
                · rw [if_pos h, if_neg (by omega)]
                · rw [if_neg h, if_pos (by omega)])
              have HXB : Hid (0 ≤ x' ∧ x' ≤ qx) := Lib.hid (by
                have h1 := HX.out
                have h2 := HQ2.out
                have h3 := HI.out.x0
                rw [h1]
                split <;> omega)
              clear hj hjl HXE
              rw [hjq] at dj ⊢
              clear hjq
              go_wp2
              clear dj
              obtain ⟨wb, rfl⟩ : ∃ wb : World, wb = wr := ⟨_, rfl⟩
              go_loopw [7, 8] (fun o x wc => ∃ (i : Nat) (M : List UInt8), x = .int .i64 (x' + i) ∧ x' + i ≤ qx ∧ Hid (M = L ++ List.replicate i 46) ∧ Hid (OwnB wc w.heap.size o M) ∧ Blk wc wz.heap.size 34 #[.int .i64 qx, .int .i64 qy, .int .i64 qs] ∧ Hid (Below w.heap.size w wc)) (fun _ x _ => (qx - (intOf x)).toNat)
              case atStart => exact ⟨0, L, by simp, by have := HXB.out.2; simpa using this, Lib.hid (by simp), HO, hp, HBb⟩
              case round =>
                clear HO hp HBb
                obtain ⟨i, M, rfl, hi, HME, HO, hp, HBb⟩ := hrel
                have x0 := hp.cell 0
                by_cases hil : x' + i < qx
                · have di : decide (x' + (i : Int) < qx) = true := decide_eq_true hil
                  have hwx : wrap64 (x' + (i : Int) + 1) = x' + i + 1 := gap_in rfl HXB.out.1 (by have := HQ2.out.1; omega)
                  have hown3 := HO.out
                  have hln3 : M.length < 4294967296 := len_33 (by rw [HME.out, HLE.out, List.length_append, List.length_append, List.length_replicate, List.length_replicate]) HL.out HJ.out (by have := HQ2.out.1; have := HI.out.y0; omega) (by have := HQ2.out.1; have := HXB.out; omega)
                  have hbs3 := HBb.out.size
                  have hil2 := Lib.hid hil
                  clear hil
                  go_wp2_with (at_builtin; refine wpList_pushB rfl _ _ rfl w.heap.size _ _ rfl hown3 46 _ rfl rfl hln3 hbs3 ?_)
                  intro v' w9 ho9 hb9 hk9
                  have hp9 := hk9 _ _ _ (by decide) hp
                  have HO9 := Lib.hid ho9
                  have HB9 := Lib.hid (HBb.out.trans hb9)
                  clear ho9 hb9 hk9 hown3
                  go_wp2
                  go_roundw
                  case rel => exact ⟨i + 1, _, (by rw [hwx, Int.natCast_add, ← Int.add_assoc]; rfl), (by have := hil2.out; omega), Lib.hid (by rw [HME.out, rep_snoc]), HO9, hp9, HB9⟩
                  case measure => rw [hwx]; exact ms_gap hil2.out
                · have di : decide (x' + (i : Int) < qx) = false := decide_eq_false hil
                  have hiq : x' + i = qx := by omega
                  have HIQ : Hid (i = (qx - x').toNat) := Lib.hid (by omega)
                  have x2 := hp.cell 2
                  obtain ⟨sn, hsn⟩ : ∃ sn : Nat, qs = (sn : Int) := ⟨qs.toNat, by have := HQ2.out.1; omega⟩
                  have hos : sn < (ofB top).size := by
                    have h := of_size (top := top) (s := qs) HQ2.out.1.2.2.2.2.1 HQ2.out.2.2.2 (by rw [HTOP.out]; exact (top_bd HR.out).2)
                    omega
                  have HCB : Hid ((ofB top)[sn] = chB top qs) := Lib.hid (by
                    have h := of_get (top := top) (s := qs) HQ2.out.1.2.2.2.2.1 HQ2.out.2.2.2 (by rw [HTOP.out]; exact (top_bd HR.out).2) (by omega)
                    rw [← h]
                    congr 1
                    omega)
                  have HST := Lib.hid (step_eq top t qx qy qs HJ.out HX.out HIQ.out)
                  have HI2 := Lib.hid (HI.out.step HR.out hlt (neg_no HNG.out hlt).1 (neg_no HNG.out hlt).2)
                  rw [← HQE.out, ← HST.out, ← HLE.out, ← HME.out, ← HCB.out] at HI2
                  have hown3 := HO.out
                  have hln3 : M.length < 4294967296 := len_33 (by rw [HME.out, HLE.out, List.length_append, List.length_append, List.length_replicate, List.length_replicate]) HL.out HJ.out (by have := HQ2.out.1; have := HI.out.y0; omega) (by have := HQ2.out.1; have := HXB.out; omega)
                  have hbs3 := HBb.out.size
                  have hwx : wrap64 (qx + 1) = qx + 1 := wr_c (by have := HQ2.out.1; omega) (by have := HQ2.out.1; omega)
                  have hos2 : (ofB top)[sn]? = some (ofB top)[sn] := by simp [hos]
                  clear hil hi HST HO
                  rw [hiq] at di ⊢
                  clear hiq
                  subst hsn
                  by_cases hbig : 65536 < M.length + 1
                  · have dl : decide ((65536 : Int) < (M.length : Int) + 1) = true := decide_eq_true (by omega)
                    have HN := Lib.hid (HI2.out.far2' HTOP.out HR.out HNG.out (by show 65536 < (M ++ _).length; rw [List.length_append]; exact hbig))
                    go_wp2_with (at_builtin; refine wpList_pushB rfl _ _ rfl w.heap.size _ _ rfl hown3 _ _ rfl rfl hln3 hbs3 ?_)
                    intro v' w9 ho9 hb9 hk9
                    obtain ⟨A9, c9, hv9⟩ := ho9.form
                    rw [List.length_append, List.length_singleton] at hv9
                    subst hv9
                    have HB9 := Lib.hid (HBb.out.trans hb9)
                    clear ho9 hb9 hk9 hown3
                    go_wp2
                    go_ret2
                    exact RetText.bad HN.out HB9.out
                  · have dl : decide ((65536 : Int) < (M.length : Int) + 1) = false := decide_eq_false (by omega)
                    have HL9 : Hid ((M ++ [(ofB top)[sn]]).length ≤ 65536) := Lib.hid (by rw [List.length_append]; exact Nat.le_of_not_lt hbig)
                    go_wp2_with (at_builtin; refine wpList_pushB rfl _ _ rfl w.heap.size _ _ rfl hown3 _ _ rfl rfl hln3 hbs3 ?_)
                    intro v' w9 ho9 hb9 hk9
                    obtain ⟨A9, c9, hv9⟩ := ho9.form
                    have HO9 := Lib.hid ho9
                    rw [List.length_append, List.length_singleton] at hv9
                    have hv9' := hv9
                    subst hv9
                    have HB9 := Lib.hid (HBb.out.trans hb9)
                    clear ho9 hb9 hk9 hown3 hv9'
                    go_wp2
                    go_roundw
                    case rel => exact ⟨k + 1, _, hlt, rfl, HO9.out, (by rw [hwx]), rfl, HB9, HI2, HL9⟩
                    case measure => exact ms_up hlt
        · obtain rfl : k = ps.length := by omega
          have HD := Lib.hid ((show TI (topC ps) ps ps.length t by rw [← HTOP.out]; exact HI.out).done)
          have dk : decide ((ps.length : Int) < ps.length) = false := decide_eq_false (by omega)
          obtain ⟨A8, c8, hv8⟩ := hown.form
          subst hv8
          clear hk hlt
          by_cases h0 : 0 < ps.length
          · have d0 : decide ((0 : Int) < ps.length) = true := decide_eq_true (by omega)
            have hne : ps ≠ [] := List.length_pos_iff.1 h0
            have HD2 : Hid (t.out ++ [10] = bodyT ps) := Lib.hid (by have h := HD.out; rwa [if_neg hne] at h)
            have hbs3 := HB.out.size
            have hln3 : t.out.length < 4294967296 := Nat.lt_of_le_of_lt HL.out (by decide)
            have hown3 := hown
            clear hne HD hown
            by_cases hbig : 65536 < t.out.length + 1
            · have dl : decide ((65536 : Int) < (t.out.length : Int) + 1) = true := decide_eq_true (by omega)
              have HN := Lib.hid (text_far HR.out HNG.out (by rw [← HD2.out, List.length_append]; exact hbig))
              go_wp2_with (at_builtin; refine wpList_pushB rfl _ _ rfl w.heap.size _ _ rfl hown3 10 _ rfl rfl hln3 hbs3 ?_)
              intro v' w9 ho9 hb9 hk9
              obtain ⟨A9, c9, hv9⟩ := ho9.form
              rw [List.length_append, List.length_singleton] at hv9
              subst hv9
              have HB9 := Lib.hid (HB.out.trans hb9)
              clear ho9 hb9 hk9 hown3
              go_wp2
              go_ret2
              exact RetText.bad HN.out HB9.out
            · have dl : decide ((65536 : Int) < (t.out.length : Int) + 1) = false := decide_eq_false (by omega)
              have HN := Lib.hid (text_ok HR.out HNG.out (by rw [← HD2.out, List.length_append]; exact hbig))
              go_wp2_with (at_builtin; refine wpList_pushB rfl _ _ rfl w.heap.size _ _ rfl hown3 10 _ rfl rfl hln3 hbs3 ?_)
              intro v' w9 ho9 hb9 hk9
              obtain ⟨A9, c9, hv9⟩ := ho9.form
              rw [List.length_append, List.length_singleton] at hv9
              subst hv9
              have hcv := back_any (c := c9) (l := t.out ++ [10]) (by rw [List.length_append, List.length_singleton]; exact ho9)
              rw [List.length_append, List.length_singleton] at hcv
              rw [HD2.out] at hcv
              have HB9 := Lib.hid (HB.out.trans hb9)
              clear ho9 hb9 hk9 hown3
              go_wp2
              go_ret2
              exact ⟨(by rw [HN.out]; rfl), HB9.out⟩
          · have d0 : decide ((0 : Int) < ps.length) = false := decide_eq_false (by omega)
            have hne : ps = [] := List.eq_nil_of_length_eq_zero (by omega)
            have HD2 : Hid (t.out = bodyT ps) := Lib.hid (by have h := HD.out; rwa [if_pos hne, List.append_nil] at h)
            have dl : decide ((65536 : Int) < (t.out.length : Int)) = false := decide_eq_false (by have := HL.out; omega)
            have HN := Lib.hid (text_ok HR.out HNG.out (by rw [← HD2.out]; have := HL.out; omega))
            have hcv := back_any hown
            rw [HD2.out] at hcv
            rw [← HD2.out] at hcv
            clear hne HD
            go_wp2
            go_ret2
            exact ⟨(by rw [HN.out, ← HD2.out]; rfl), HB.out⟩
end Go.Proofs.YtblfeaapjloppaaDoor
