/-
  cellularref15.walk: the rows that begin with some elements. Where the nodes are a tree's.
-/
import Derived.Test.YtlegfdllipkggaaDoorZG10
namespace Go.Proofs.YtlegfdllipkggaaDoor
open Go.RowKit Go.Maps
set_option maxRecDepth 100000
set_option linter.unusedVariables false
set_option linter.unusedSimpArgs false
/-- the rows so far: all of them, if they are not too many -/
def Rw15Ok (tot : List Rw) (rs : List Rh) : Prop := (tot.length ≤ 400 → rs.map Rh.rw_ = tot) ∧ (400 < tot.length → 400 < rs.length) ∧ rs.length ≤ 401
def Rw15Post (B : Nat) (tot : List Rw) (rv : Value) (w : World) (e : Ending) (w' : World) : Prop :=
 ∃ rv' rs', e = .returned rv' ∧ OwnRA w' B rv' rs' ∧ Rw15Ok tot rs' ∧ Kept (fun g => rv.ownBlock = some g) w w' ∧ (rv'.ownBlock = rv.ownBlock ∨ ∃ g, rv'.ownBlock = some g ∧ w.heap.size ≤ g)
theorem Rw15Ok.step {tot more tot' : List Rw} {rs rs' : List Rh} (h : Rw15Ok tot rs) (h' : Rw15Ok (rs.map Rh.rw_ ++ more) rs') (ht : tot' = tot ++ more) : Rw15Ok tot' rs' := by
 subst ht
 obtain ⟨h1, h2, h3⟩ := h
 obtain ⟨k1, k2, k3⟩ := h'
 refine ⟨fun hl => ?_, fun hl => ?_, k3⟩
 ·rw [List.length_append] at hl
  have e := h1 (by omega)
  have := k1 (by rw [List.length_append, e]; omega)
  rw [this, e]
 ·rw [List.length_append] at hl
  by_cases ht : tot.length ≤ 400
  ·exact k2 (by rw [List.length_append, h1 ht]; exact hl)
  ·exact k2 (by rw [List.length_append, List.length_map]; have := h2 (by omega); omega)
theorem Rw15Post.first {B : Nat} {tot : List Rw} {rv : Value} {w w1 : World} {e : Ending} {w' : World} (hb : Below w.heap.size w w1) (h : Rw15Post B tot rv w1 e w') : Rw15Post B tot rv w e w' := by
 obtain ⟨rv', rs', e1, h1, h2, h3, h4⟩ := h
 exact ⟨rv', rs', e1, h1, h2, (Kept.of_new _ hb).trans h3, h4.imp id fun ⟨g, g1, g2⟩ => ⟨g, g1, Nat.le_trans hb.size g2⟩⟩
theorem kept_chain {rv rv1 rv2 : Value} {w w1 w2 : World} (h : Kept (fun g => rv.ownBlock = some g) w w1) (hn : rv1.ownBlock = rv.ownBlock ∨ ∃ g, rv1.ownBlock = some g ∧ w.heap.size ≤ g) (k : Kept (fun g => rv1.ownBlock = some g) w1 w2) (kn : rv2.ownBlock = rv1.ownBlock ∨ ∃ g, rv2.ownBlock = some g ∧ w1.heap.size ≤ g) :
  Kept (fun g => rv.ownBlock = some g) w w2 ∧ (rv2.ownBlock = rv.ownBlock ∨ ∃ g, rv2.ownBlock = some g ∧ w.heap.size ≤ g) := by
 refine ⟨⟨h.below.trans k.below, fun g hg hs => (k.block g (Nat.lt_of_lt_of_le hg h.below.size) (fun e => ?_)).trans (h.block g hg hs)⟩, ?_⟩
 ·rcases hn with hn | ⟨g', e', h'⟩
  ·exact hs (by rw [← hn]; exact e)
  ·rw [e'] at e
   injection e with e
   omega
 ·rcases kn with kn | ⟨g', e', h'⟩
  ·rcases hn with hn | ⟨g2, e2, h2⟩
   ·exact .inl (kn.trans hn)
   ·exact .inr ⟨g2, kn.trans e2, h2⟩
  ·exact .inr ⟨g', e', Nat.le_trans h.below.size h'⟩
theorem all_take {l : List Int} {z : Int} {i : Nat} (h : i < l.length) : (l.take (i + 1)).all (fun n => decide (n = z)) = ((l.take i).all (fun n => decide (n = z)) && decide (l[i] = z)) := by
 rw [List.take_add_one, List.getElem?_eq_getElem h, List.all_append]
 simp
structure Rw16J (V : World) (post : Ending → World → Prop) (B : Nat) (tv : Value) (rv : Value) (iv : Value) (lv : Value) (pv : Value) (ins : List Int) (el : Int) (x : Int) (kk : Int) (b0 b1 b2 b3 b4 b5 b6 b7 b8 b9 b10 : Bool) (v78 v79 v80 v81 v82 v83 v84 v85 v86 v87 v8 : Value) (w : World) : Prop where
 h0 : b0 = true → v78 = tv
 h1 : b1 = true → v79 = rv
 h2 : b2 = true → v80 = iv
 h3 : b3 = true → v81 = .int .i64 kk
 h4 : b4 = true → v82 = .int .i64 el
 h6 : b6 = true → v84 = lv
 h7 : b7 = true → v85 = pv
 h8 : b8 = true → v86 = .int .i64 x
 h10 : b10 = true → v8 = v87
 wa : b5 = false → w = V.drew
 wb : b5 = true → b9 = false → Below V.heap.size V w ∧ ∃ A9 c9, v83 = .slice A9 (ins.length + 1) c9 ∧ OwnIA w B (.slice A9 (ins.length + 1) c9) (ins ++ [el])
 wd : b9 = true → post (.returned v87) w
 o4 : b4 = true → b3 = true
 o5 : b5 = true → b2 = true ∧ b4 = true
 o7 : b7 = true → b6 = true
 o8 : b8 = true → b7 = true
 o9 : b9 = true → b0 = true ∧ b1 = true ∧ b5 = true ∧ b8 = true
 o10 : b10 = true → b9 = true
structure Rw20J (V : World) (post : Ending → World → Prop) (B : Nat) (tv : Value) (rv : Value) (iv : Value) (lv : Value) (pv : Value) (ins : List Int) (el : Int) (x : Int) (kk : Int) (b0 b1 b2 b3 b4 b5 b6 b7 b8 b9 b10 : Bool) (v94 v95 v96 v97 v98 v99 v100 v101 v102 v103 v1 : Value) (w : World) : Prop where
 h0 : b0 = true → v94 = tv
 h1 : b1 = true → v95 = rv
 h2 : b2 = true → v96 = iv
 h3 : b3 = true → v97 = .int .i64 kk
 h5 : b5 = true → v99 = lv
 h6 : b6 = true → v100 = .int .i64 kk
 h7 : b7 = true → v101 = pv
 h8 : b8 = true → v102 = .int .i64 x
 h10 : b10 = true → v1 = v103
 wa : b4 = false → w = V.drew
 wb : b4 = true → b9 = false → Below V.heap.size V w ∧ ∃ A9 c9, v98 = .slice A9 (ins.length + 1) c9 ∧ OwnIA w B (.slice A9 (ins.length + 1) c9) (ins ++ [el])
 wd : b9 = true → post (.returned v103) w
 hz : b10 = false → v1 = rv
 o4 : b4 = true → b2 = true ∧ b3 = true
 o7 : b7 = true → b5 = true ∧ b6 = true
 o8 : b8 = true → b7 = true
 o9 : b9 = true → b0 = true ∧ b1 = true ∧ b4 = true ∧ b8 = true
 o10 : b10 = true → b9 = true
set_option maxHeartbeats 32000000 in
theorem rwalk15_any (B n q : Nat) (st : Int) (hA : Option Addr) (hc : Nat) (nA : Option Addr) (nc : Nat) (ps : List (Int × Int)) (hs : List Hd) (WB : World) (hWB : WB.heap.size = B) (hP : Pts WB hA ps) (hpn : ps.length = n) (hN : Nds WB nA hs) (hV : VNd q (hs.map Hd.nd)) (hq : 0 < q) (hn1 : 1 ≤ n) (hn : n ≤ 25) :
  ∀ (L : Nat) (ins : List Int) (k : Int) (A2 : Option Addr) (c2 : Nat) (rv : Value) (rs : List Rh) (w : World), OwnIA w B (.slice A2 ins.length c2) ins → OwnRA w B rv rs → Below B WB w → ins.length + L = n → rs.length ≤ 401 → NdOk (hs.map Hd.nd) L k →
  Calls Tryd.prog 28 #[.agg #[.int .i64 st, .slice hA n hc, .slice nA hs.length nc], rv, .slice A2 ins.length c2, .int .i64 k] w (Rw15Post B (rs.map Rh.rw_ ++ rowsT (hs.map Hd.nd) (ctrP ps) L ins k) rv w) := by
 have HV := Lib.hid (And.intro hV (And.intro hq (And.intro hn1 hn)))
 have HNW := Lib.hid hN
 have HPW := Lib.hid hP
 have HPN := Lib.hid hpn
 have HWB := Lib.hid hWB
 have hn9 : n ≤ 9223372036854775807 := by omega
 have hhs := hN.le
 have HCT := Lib.hid (ctr_lt ps)
 obtain ⟨cv, hcv⟩ : ∃ cv, cv = ctrP ps := ⟨_, rfl⟩
 rw [← hcv] at HCT ⊢
 have HCV := Lib.hid hcv
 clear hV hq hn1 hn hN hWB hP hpn hcv
 intro L
 induction L with
 | zero =>
  intro ins k A2 c2 rv rs w hI hR hb hl hrs hk
  have hln : ins.length = n := by omega
  obtain ⟨rA, rc, er, hrr, -⟩ := hR.rws
  subst er
  have hil9 : ins.length ≤ 9223372036854775807 := by omega
  have hrl9 : rs.length ≤ 9223372036854775807 := by omega
  obtain ⟨w0, hw0⟩ : ∃ W, W = w.alloc (.cells #[.int .i64 st, .slice hA n hc, .slice nA hs.length nc] 25) := ⟨_, rfl⟩
  obtain ⟨gT, hgT⟩ : ∃ g, g = w.heap.size := ⟨_, rfl⟩
  have b0 : Below w.heap.size w w0 := by rw [hw0]; exact below_new _ _
  have HBX : Hid (Blk w0 gT 25 #[.int .i64 st, .slice hA n hc, .slice nA hs.length nc]) := Lib.hid (by rw [hgT, hw0]; exact Blk.new _ _ _)
  have hBw : B ≤ w.heap.size := by rw [← HWB.out]; exact hb.size
  have HI0 := Lib.hid (hI.ext b0)
  have HR0 := Lib.hid (hR.ext b0)
  have HBB := Lib.hid (hb.trans (b0.mono hBw))
  have HBB' : Hid (WB.heap.size ≤ w0.heap.size) := Lib.hid HBB.out.size
  have HB0 := Lib.hid b0
  have HW0 : Hid (w0 = w.alloc (.cells #[.int .i64 st, .slice hA n hc, .slice nA hs.length nc] 25) ∧ gT = w.heap.size) := Lib.hid ⟨hw0, hgT⟩
  have HRS := Lib.hid hrs
  have x1 := HBX.out.cell_ 1 (.slice hA n hc) rfl
  clear hw0 hgT b0 hb hI hR hrr hBw
  go_enter Tryd.func28, Tryd.ntmps28
  go_upto_region 1 with fail
  rw [← HW0.out.1, ← HW0.out.2]
  by_cases h4 : 400 < rs.length
  ·have d0 : decide (400 < rs.length) = true := decide_eq_true h4
   have d0' : decide ((400 : Int) < (rs.length : Int)) = true := decide_eq_true (by omega)
   have H4 := Lib.hid h4
   clear hk h4 hl hln x1
   go_wp2
   go_ret
   exact ⟨_, rs, rfl, HR0.out, ⟨fun h => by rw [List.length_append, List.length_map] at h; have := H4.out; omega, fun _ => H4.out, HRS.out⟩, Kept.of_new _ HB0.out, .inl rfl⟩
  ·have d0 : decide (400 < rs.length) = false := decide_eq_false h4
   have d0' : decide ((400 : Int) < (rs.length : Int)) = false := decide_eq_false (by omega)
   have d1 : ((ins.length : Int) == (n : Int)) = true := beq_iff_eq.2 (by omega)
   have H4 := Lib.hid h4
   have HLN := Lib.hid hln
   have hbb0 : Below WB.heap.size WB w0 := by rw [HWB.out]; exact HBB.out
   have hcall := rcentre_any hA ps hc w0 (HPW.out.ext hbb0)
   rw [HPN.out, ← HCV.out] at hcall
   have HCALL := Lib.hid hcall
   clear hk h4 hl hln hbb0 hcall
   go_wp2_with (go_at_call 52; refine HCALL.out.mono ?_; rintro e w2 ⟨rfl, hb2⟩; refine Hid.out ?_)
   refine Lib.hid ?_
   have HB2 := Lib.hid hb2
   have HI2 := Lib.hid (HI0.out.ext hb2)
   have HR2 := Lib.hid (HR0.out.ext hb2)
   have HS2 := Lib.hid (HBB.out.trans (hb2.mono (by rw [← HWB.out]; exact Nat.le_trans HBB'.out (Nat.le_refl _))))
   clear hb2 x1 HCALL d0 d0' d1
   by_cases hcn : cv < 0
   ·have d1 : decide (cv < 0) = true := decide_eq_true hcn
    have d2 : decide (0 ≤ cv) = false := decide_eq_false (by omega)
    by_cases ho : k = 0
    ·have f1 : (k == 0) = true := beq_iff_eq.2 ho
     have HS : Hid (skipR cv ins k = true) := Lib.hid (by unfold skipR; rw [if_pos hcn]; exact decide_eq_true ho)
     clear hcn ho
     go_wp2
     go_ret
     exact ⟨_, rs, rfl, HR2.out, by rw [rowsT_zero_t HS.out, List.append_nil]; exact ⟨fun _ => rfl, fun h => by rw [List.length_map] at h; exact h, HRS.out⟩, Kept.of_new _ (HB0.out.trans (HB2.out.mono HB0.out.size)), .inl rfl⟩
    ·have f1 : (k == 0) = false := beq_false_of_ne ho
     have HS : Hid (skipR cv ins k = false) := Lib.hid (by unfold skipR; rw [if_pos hcn]; exact decide_eq_false ho)
     clear hcn ho
     have hown := HR2.out
     have hI := HI2.out
     have hnl : rs.length < 1000000000000 := by have := HRS.out; omega
     have hbs : B ≤ w2.heap.size := by rw [← HWB.out]; exact HS2.out.size
     go_wp2_with (at_builtin; refine wpList_pushR rfl _ _ _ rfl B 47 3 (by decide) Tryd.underlying29 Tryd.infoRow _ _ rfl hown _ c2 ins k hI rfl hnl hbs ?_)
     intro v' w6 ho6 hk6 hn6
     have HO6 := Lib.hid ho6
     have HK6 : Hid (Kept (fun g => (Value.slice rA rs.length rc).ownBlock = some g) w w6) := Lib.hid ((Kept.of_new _ (HB0.out.trans (HB2.out.mono HB0.out.size))).trans hk6)
     have HN6 : Hid (v'.ownBlock = (Value.slice rA rs.length rc).ownBlock ∨ ∃ g, v'.ownBlock = some g ∧ w.heap.size ≤ g) := Lib.hid (hn6.imp id fun ⟨g, g1, g2⟩ => ⟨g, g1, Nat.le_trans (Nat.le_trans HB0.out.size HB2.out.size) g2⟩)
     clear ho6 hk6 hn6 hown hI hnl hbs
     go_wp2
     go_ret
     refine ⟨v', _, rfl, HO6.out, ?_, HK6.out, HN6.out⟩
     rw [rowsT_zero_f HS.out]
     have hlen : (rs.map Rh.rw_ ++ [(ins, k)]).length = rs.length + 1 := by rw [List.length_append, List.length_map]; rfl
     refine ⟨fun _ => by rw [List.map_append]; rfl, fun h => by rw [hlen] at h; rw [List.length_append]; exact h, by rw [List.length_append]; have := H4.out; simp; omega⟩
   ·have d1 : decide (cv < 0) = false := decide_eq_false hcn
    have d2 : decide (0 ≤ cv) = true := decide_eq_true (by omega)
    obtain ⟨cn, hcc⟩ : ∃ cn : Nat, cv = (cn : Int) := ⟨cv.toNat, by omega⟩
    subst hcc
    have hcl : cn < ins.length := by
     rcases HCT.out with h | ⟨-, h⟩
     ·exact absurd h hcn
     ·rw [Int.toNat_natCast, HPN.out] at h; have := HLN.out; omega
    obtain ⟨b', o', e', -, xz⟩ := (OwnI.reads HI2.out).at_ hcl
    obtain ⟨z, hz⟩ : ∃ z, z = ins[cn] := ⟨_, rfl⟩
    subst e'
    rw [← hz] at xz
    have HZ : Hid (ins.getD cn 0 = z) := Lib.hid (by rw [hz, List.getD_eq_getElem?_getD, List.getElem?_eq_getElem hcl]; rfl)
    clear hz
    by_cases ho : z = k
    ·have f1 : (z == k) = true := beq_iff_eq.2 ho
     have HS : Hid (skipR (cn : Int) ins k = true) := Lib.hid (by unfold skipR; rw [if_neg hcn, Int.toNat_natCast, HZ.out]; exact decide_eq_true ho)
     clear hcn ho
     go_wp2
     go_ret
     exact ⟨_, rs, rfl, HR2.out, by rw [rowsT_zero_t HS.out, List.append_nil]; exact ⟨fun _ => rfl, fun h => by rw [List.length_map] at h; exact h, HRS.out⟩, Kept.of_new _ (HB0.out.trans (HB2.out.mono HB0.out.size)), .inl rfl⟩
    ·have f1 : (z == k) = false := beq_false_of_ne ho
     have HS : Hid (skipR (cn : Int) ins k = false) := Lib.hid (by unfold skipR; rw [if_neg hcn, Int.toNat_natCast, HZ.out]; exact decide_eq_false ho)
     clear hcn ho
     have hown := HR2.out
     have hI := HI2.out
     have hnl : rs.length < 1000000000000 := by have := HRS.out; omega
     have hbs : B ≤ w2.heap.size := by rw [← HWB.out]; exact HS2.out.size
     go_wp2_with (at_builtin; refine wpList_pushR rfl _ _ _ rfl B 47 3 (by decide) Tryd.underlying29 Tryd.infoRow _ _ rfl hown _ c2 ins k hI rfl hnl hbs ?_)
     intro v' w6 ho6 hk6 hn6
     have HO6 := Lib.hid ho6
     have HK6 : Hid (Kept (fun g => (Value.slice rA rs.length rc).ownBlock = some g) w w6) := Lib.hid ((Kept.of_new _ (HB0.out.trans (HB2.out.mono HB0.out.size))).trans hk6)
     have HN6 : Hid (v'.ownBlock = (Value.slice rA rs.length rc).ownBlock ∨ ∃ g, v'.ownBlock = some g ∧ w.heap.size ≤ g) := Lib.hid (hn6.imp id fun ⟨g, g1, g2⟩ => ⟨g, g1, Nat.le_trans (Nat.le_trans HB0.out.size HB2.out.size) g2⟩)
     clear ho6 hk6 hn6 hown hI hnl hbs
     go_wp2
     go_ret
     refine ⟨v', _, rfl, HO6.out, ?_, HK6.out, HN6.out⟩
     rw [rowsT_zero_f HS.out]
     have hlen : (rs.map Rh.rw_ ++ [(ins, k)]).length = rs.length + 1 := by rw [List.length_append, List.length_map]; rfl
     refine ⟨fun _ => by rw [List.map_append]; rfl, fun h => by rw [hlen] at h; rw [List.length_append]; exact h, by rw [List.length_append]; have := H4.out; simp; omega⟩
 | succ L ih =>
  intro ins k A2 c2 rv rs w hI hR hb hl hrs hk
  have hln : ¬ ins.length = n := by omega
  obtain ⟨rA, rc, er, hrr, -⟩ := hR.rws
  subst er
  have hil9 : ins.length ≤ 9223372036854775807 := by omega
  have hrl9 : rs.length ≤ 9223372036854775807 := by omega
  obtain ⟨w0, hw0⟩ : ∃ W, W = w.alloc (.cells #[.int .i64 st, .slice hA n hc, .slice nA hs.length nc] 25) := ⟨_, rfl⟩
  obtain ⟨gT, hgT⟩ : ∃ g, g = w.heap.size := ⟨_, rfl⟩
  have b0 : Below w.heap.size w w0 := by rw [hw0]; exact below_new _ _
  have HBX : Hid (Blk w0 gT 25 #[.int .i64 st, .slice hA n hc, .slice nA hs.length nc]) := Lib.hid (by rw [hgT, hw0]; exact Blk.new _ _ _)
  have hBw : B ≤ w.heap.size := by rw [← HWB.out]; exact hb.size
  have HI0 := Lib.hid (hI.ext b0)
  have HR0 := Lib.hid (hR.ext b0)
  have HBB := Lib.hid (hb.trans (b0.mono hBw))
  have HBB' : Hid (WB.heap.size ≤ w0.heap.size) := Lib.hid HBB.out.size
  have HB0 := Lib.hid b0
  have HW0 : Hid (w0 = w.alloc (.cells #[.int .i64 st, .slice hA n hc, .slice nA hs.length nc] 25) ∧ gT = w.heap.size) := Lib.hid ⟨hw0, hgT⟩
  have HRS := Lib.hid hrs
  have x1 := HBX.out.cell_ 1 (.slice hA n hc) rfl
  clear hw0 hgT b0 hb hI hR hrr hBw
  go_enter Tryd.func28, Tryd.ntmps28
  go_upto_region 1 with fail
  rw [← HW0.out.1, ← HW0.out.2]
  by_cases h4 : 400 < rs.length
  ·have d0 : decide (400 < rs.length) = true := decide_eq_true h4
   have d0' : decide ((400 : Int) < (rs.length : Int)) = true := decide_eq_true (by omega)
   have H4 := Lib.hid h4
   clear hk h4 hl hln x1
   go_wp2
   go_ret
   exact ⟨_, rs, rfl, HR0.out, ⟨fun h => by rw [List.length_append, List.length_map] at h; have := H4.out; omega, fun _ => H4.out, HRS.out⟩, Kept.of_new _ HB0.out, .inl rfl⟩
  ·have d0 : decide (400 < rs.length) = false := decide_eq_false h4
   have d0' : decide ((400 : Int) < (rs.length : Int)) = false := decide_eq_false (by omega)
   have d1 : ((ins.length : Int) == (n : Int)) = false := beq_false_of_ne (by omega)
   have H4 := Lib.hid h4
   have HLN := Lib.hid hl
   have HK := Lib.hid hk
   have HIH := Lib.hid ih
   clear hk h4 hl hln ih
   have hbb : Below WB.heap.size WB w0 := by rw [HWB.out]; exact HBB.out
   obtain ⟨kn, hkn⟩ : ∃ kn : Nat, k = (kn : Int) := ⟨k.toNat, by have := HK.out.1; omega⟩
   subst hkn
   have hk1 : kn < hs.length := by have := (HK.out.2 (Nat.succ_pos L)).1; rwa [Int.toNat_natCast, List.length_map] at this
   obtain ⟨nb, no, en, -, g0, g1, gz⟩ := (HNW.out.ext hbb).at_ hk1
   subst en
   have hnd := ndl_at hs hk1
   obtain ⟨x, hx⟩ : ∃ x, x = hs[kn] := ⟨_, rfl⟩
   rw [← hx] at g0 g1 gz hnd
   have hlq : x.zs.length = q := by
    have h := HV.out.1.lev.len kn (by rw [List.length_map]; exact hk1)
    rw [hnd] at h
    exact h
   have HZI : Hid (∀ w', Below B WB w' → Ints w' x.A x.zs) := Lib.hid (fun w' hb => by
    obtain ⟨_, _, _, -, -, -, gz'⟩ := (HNW.out.ext (by rw [HWB.out]; exact hb)).at_ hk1
    rw [hx]
    exact gz')
   obtain ⟨l, hl⟩ : ∃ l, l = x.zs := ⟨_, rfl⟩
   obtain ⟨zA, hzA⟩ : ∃ a, a = x.A := ⟨_, rfl⟩
   obtain ⟨zc, hzc⟩ : ∃ a, a = x.c := ⟨_, rfl⟩
   rw [← hl, ← hzA] at gz HZI
   rw [← hl, ← hzA, ← hzc] at g1
   rw [← hl] at hlq
   have HLS : Hid ((ndAt (hs.map Hd.nd) ((kn : Int)).toNat).2 = l) := Lib.hid (by rw [Int.toNat_natCast, hnd, hl]; rfl)
   have HLQ : Hid (l.length = q ∧ 0 < l.length) := Lib.hid ⟨hlq, by rw [hlq]; exact HV.out.2.1⟩
   obtain ⟨zb, zo, ez, -, -⟩ := gz.at_ HLQ.out.2
   subst ez
   have hll9 : l.length ≤ 9223372036854775807 := gz.le
   obtain ⟨z0, hz0⟩ : ∃ z, z = l.headD 0 := ⟨_, rfl⟩
   have HZ0 : Hid (z0 = l.headD 0) := Lib.hid hz0
   have HZM : Hid (z0 ∈ l) := Lib.hid (by
    rw [hz0]
    have hq := HLQ.out.2
    cases l with
    | nil => exact absurd hq (by simp)
    | cons x r => simp)
   have HC0 : Hid (∀ w', Below B WB w' → w'.cell? ⟨zb, zo, none⟩ = some (.int .i64 z0)) := Lib.hid (fun w' hb => by
    rw [hz0]
    obtain ⟨b, o, e, -, hc⟩ := (HZI.out w' hb).at_ HLQ.out.2
    injection e with e; injection e with e1 e2
    subst e1; subst e2
    rw [Nat.add_zero] at hc
    rw [hc]
    have hq := HLQ.out.2
    cases l with
    | nil => exact absurd hq (by simp)
    | cons x r => rfl)
   have HIN : Hid (ins.length ≤ 100) := Lib.hid (by have := HLN.out; have := HV.out.2.2.2; omega)
   have HSTEP : Hid (∀ (rv1 : Value) (rs1 : List Rh) (V : World) (el nx : Int), OwnRA V B rv1 rs1 → Below B WB V → rs1.length ≤ 401 → nx ∈ l → ∀ (W : World) (A9 : Option Addr) (c9 : Nat), Below V.heap.size V W → OwnIA W B (.slice A9 (ins.length + 1) c9) (ins ++ [el]) →
     Calls Tryd.prog 28 #[.agg #[.int .i64 st, .slice hA n hc, .slice (some ⟨nb, no, none⟩) hs.length nc], rv1, .slice A9 (ins.length + 1) c9, .int .i64 nx] W (Rw15Post B (rs1.map Rh.rw_ ++ rowsT (hs.map Hd.nd) cv L (ins ++ [el]) nx) rv1 V)) :=
    Lib.hid (fun rv1 rs1 V el nx h1 h2 h3 h4 W A9 c9 hb ho => by
     have hl1 : (ins ++ [el]).length = ins.length + 1 := by rw [List.length_append]; rfl
     have hBV : B ≤ V.heap.size := by rw [← HWB.out]; exact h2.size
     have := HIH.out (ins ++ [el]) nx A9 c9 rv1 rs1 W (by rw [hl1]; exact ho) (h1.ext hb) (h2.trans (hb.mono hBV)) (by rw [hl1]; have := HLN.out; omega) h3 (HK.out.kid HV.out.1 (by rw [HLS.out]; exact h4))
     rw [hl1] at this
     refine this.mono fun e w' h => h.first hb)
   have c0 := HC0.out w0 HBB.out
   have x2 := HBX.out.cell_ 2 _ rfl
   clear HIH HK hbb hnd hx hlq hl hzA hzc hz0
   go_wp2
   go_loopw [12, 13] (fun sv iv wr => ∃ (i m : Nat), i ≤ l.length ∧ iv = .int .i64 i ∧ sv = .bool ((l.take i).all fun n => decide (n = z0)) ∧ wr = w0.drewN m) (fun _ iv _ => l.length - (intOf iv).toNat)
   case atStart => exact ⟨0, 0, Nat.zero_le _, rfl, rfl, rfl⟩
   case round =>
    obtain ⟨i, m, hi, rfl, rfl, rfl⟩ := hrel
    by_cases hil : i < l.length
    ·obtain ⟨b', o', e', -, hc⟩ := gz.at_ hil
     obtain ⟨rfl, rfl⟩ : zb = b' ∧ zo = o' := by injection e' with e'; injection e' with h1 h2; exact ⟨h1, h2⟩
     obtain ⟨y, hy⟩ : ∃ y, y = l[i] := ⟨_, rfl⟩
     rw [← hy] at hc
     have hwi : wrap64 ((i : Int) + 1) = (i : Int) + 1 := by unfold wrap64; omega
     have HI := Lib.hid hil
     have HAT : Hid ((l.take (i + 1)).all (fun n => decide (n = z0)) = ((l.take i).all (fun n => decide (n = z0)) && decide (y = z0))) := Lib.hid (by rw [hy]; exact all_take hil)
     obtain ⟨sb, hsb⟩ : ∃ sb, sb = (l.take i).all (fun n => decide (n = z0)) := ⟨_, rfl⟩
     rw [← hsb] at HAT ⊢
     have h0l : (0 : Nat) < l.length := HLQ.out.2
     clear e' hy hsb hi
     cases sb with
     | false =>
      go_wp2
      go_quiet (fail)
      go_wp2
      go_roundw
      case rel => exact ⟨i + 1, _, HI.out, (by first | rfl | (rw [hwi]; rfl)), (by rw [HAT.out]; rfl), rfl⟩
      case measure => (try rw [hwi]); exact meas_step HI.out
     | true =>
      by_cases hyz : y = z0
      ·have f1 : (y == z0) = true := beq_iff_eq.2 hyz
       have HYZ := Lib.hid hyz
       clear hyz
       go_wp2
       go_quiet (fail)
       go_wp2
       go_roundw
       case rel => exact ⟨i + 1, _, HI.out, (by first | rfl | (rw [hwi]; rfl)), (by rw [HAT.out, decide_eq_true HYZ.out]; rfl), rfl⟩
       case measure => (try rw [hwi]); exact meas_step HI.out
      ·have f1 : (y == z0) = false := beq_false_of_ne hyz
       have HYZ := Lib.hid hyz
       clear hyz
       go_wp2
       go_quiet (fail)
       go_wp2
       go_roundw
       case rel => exact ⟨i + 1, _, HI.out, (by first | rfl | (rw [hwi]; rfl)), (by rw [HAT.out, decide_eq_false HYZ.out]; rfl), rfl⟩
       case measure => (try rw [hwi]); exact meas_step HI.out
    ·obtain rfl : i = l.length := Nat.le_antisymm hi (Nat.le_of_not_lt hil)
     rw [List.take_length]
     have HSL : Hid (sameL l = l.all (fun n => decide (n = z0))) := Lib.hid (by rw [HZ0.out]; rfl)
     obtain ⟨w2, hw2⟩ : ∃ W, W = w0.drewN m := ⟨_, rfl⟩
     rw [← hw2]
     have hb2 : Below w0.heap.size w0 w2 := by rw [hw2]; exact below_drewN (Below.refl _ w0) m
     have hBw0 : B ≤ w0.heap.size := by rw [← HWB.out]; exact HBB'.out
     have HI2 := Lib.hid (HI0.out.ext hb2)
     have HR2 := Lib.hid (HR0.out.ext hb2)
     have HBX2 := Lib.hid (HBX.out.below hb2 HBX.out.lt)
     have HB2 := Lib.hid (HB0.out.trans (hb2.mono HB0.out.size))
     have HS2 := Lib.hid (HBB.out.trans (hb2.mono hBw0))
     have HNE : Hid (∀ w', Kept (fun g => (Value.slice rA rs.length rc).ownBlock = some g) w2 w' → Blk w' gT 25 #[.int .i64 st, .slice hA n hc, .slice (some ⟨nb, no, none⟩) hs.length nc] ∧ OwnIA w' B (.slice A2 ins.length c2) ins ∧ Below B WB w') := Lib.hid (fun w' hk =>
      ⟨hk.blk HBX2.out (own_blk_ne' HR2.out.1 HBX2.out (by decide)), hk.own HI2.out (fun g e1 e2 => own_ne HI2.out HR2.out.1 (by decide) e1 e2), HS2.out.trans (hk.to_below (by rw [← HWB.out]; exact HS2.out.size) (fun g hg e => by have := (own_lt' HR2.out.1 e).2; omega))⟩)
     obtain ⟨sb, hsb⟩ : ∃ sb, sb = l.all (fun n => decide (n = z0)) := ⟨_, rfl⟩
     rw [← hsb] at HSL ⊢
     clear hw2 hb2 hBw0 hi hil hsb c0 x1 x2 g0 g1 gz HBX HI0 HR0
     cases sb with
     | true =>
      go_upto_region 16 with fail
      have HBXV := HBX2
      have HIV := HI2
      have HBV : Hid (B ≤ (World.drew w2).heap.size) := Lib.hid (by rw [← HWB.out]; exact HS2.out.size)
      have HXC : Hid (∀ W, Below w2.heap.size w2 W → W.cell? ⟨zb, zo, none⟩ = some (.int .i64 z0)) := Lib.hid (fun W hb => HC0.out W (HS2.out.trans (hb.mono HBV.out)))
      have HSTV := Lib.hid (HSTEP.out (.slice rA rs.length rc) rs w2 (-1 - (ins.length : Int)) z0 HR2.out HS2.out HRS.out HZM.out)
      have hq9 : wrap64 (-1 - (ins.length : Int)) = -1 - (ins.length : Int) := by have := HIN.out; unfold wrap64; omega
      have h0l : (0 : Nat) < l.length := HLQ.out.2
      refine wp_region_J (by kernel_rfl) (fun listed act w' => ∃ b0 b1 b2 b3 b4 b5 b6 b7 b8 b9 b10 v78 v79 v80 v81 v82 v83 v84 v85 v86 v87 v8, listed = #[b0, b1, b2, b3, b4, b5, b6, b7, b8, b9, b10] ∧ act = Act.mk #[.agg #[.int .i64 st, .slice hA n hc, .slice (some ⟨nb, no, none⟩) hs.length nc], .slice rA rs.length rc, .slice A2 ins.length c2, .int .i64 ↑kn, .pointer (some ⟨gT, 0, none⟩), undef, undef, undef, v8, .int .i64 ↑ins.length, undef, .slice (some ⟨zb, zo, none⟩) l.length zc, .bool true, .int .i64 ↑l.length, undef, .slice rA rs.length rc, .int .i64 ↑rs.length, .bool false, undef, .slice A2 ins.length c2, .int .i64 ↑ins.length, .int .i64 ↑ins.length, .pointer (some ⟨gT, 1, none⟩), .slice hA n hc, .int .i64 ↑n, .bool false, undef, undef, undef, undef, undef, undef, undef, undef, undef, undef, undef, undef, undef, undef, undef, undef, undef, undef, undef, undef, undef, undef, undef, undef, undef, undef, undef, undef, .pointer (some ⟨gT, 2, none⟩), .slice (some ⟨nb, no, none⟩) hs.length nc, .int .i64 ↑kn, .pointer (some ⟨nb, no + kn * 2, none⟩), .pointer (some ⟨nb, no + kn * 2 + 1, none⟩), .slice (some ⟨zb, zo, none⟩) l.length zc, .int .i64 ↑l.length, .slice (some ⟨zb, zo, none⟩) l.length zc, .int .i64 ↑l.length, .bool false, u64, u65, u66, u67, u68, u69, u70, u71, u72, u73, u74, u75, u76, .bool true, v78, v79, v80, v81, v82, v83, v84, v85, v86, v87, undef, undef, undef, undef, undef, undef, undef, undef, undef, undef, undef, undef, undef, undef, undef, undef, undef] [] ∧ Rw16J w2 (Rw15Post B (rs.map Rh.rw_ ++ rowsT (hs.map Hd.nd) cv L (ins ++ [-1 - (ins.length : Int)]) z0) (.slice rA rs.length rc) w2) B (.agg #[.int .i64 st, .slice hA n hc, .slice (some ⟨nb, no, none⟩) hs.length nc]) (.slice rA rs.length rc) (.slice A2 ins.length c2) (.slice (some ⟨zb, zo, none⟩) l.length zc) (.pointer (some ⟨zb, zo, none⟩)) ins (-1 - (ins.length : Int)) (z0) ((ins.length : Int)) b0 b1 b2 b3 b4 b5 b6 b7 b8 b9 b10 v78 v79 v80 v81 v82 v83 v84 v85 v86 v87 v8 w') ?_ ?_ ?_
      ·exact ⟨_, _, _, _, _, _, _, _, _, _, _, _, _, _, _, _, _, _, _, _, _, _, rfl, rfl, ⟨(by simp), (by simp), (by simp), (by simp), (by simp), (by simp), (by simp), (by simp), (by simp), (fun _ => rfl), (by simp), (by simp), (by simp), (by simp), (by simp), (by simp), (by simp), (by simp)⟩⟩
      ·rintro i listed act w' hi ⟨b0, b1, b2, b3, b4, b5, b6, b7, b8, b9, b10, v78, v79, v80, v81, v82, v83, v84, v85, v86, v87, v8, rfl, rfl, H⟩
       have hi16 : i < 11 := by
        obtain ⟨-, o, ho, -⟩ := mem_ready.1 hi
        exact (Array.getElem?_eq_some_iff.1 ho).1
       obtain rfl | rfl | rfl | rfl | rfl | rfl | rfl | rfl | rfl | rfl | rfl : i = 0 ∨ i = 1 ∨ i = 2 ∨ i = 3 ∨ i = 4 ∨ i = 5 ∨ i = 6 ∨ i = 7 ∨ i = 8 ∨ i = 9 ∨ i = 10 := by omega
       all_goals simp [mem_ready, Region.binds] at hi
       ·have b9f : b9 = false := by
         cases hb : b9 with
         | false => rfl
         | true => exact absurd (H.o9 hb).1 (by simp [hi])
        have hB : Below w2.heap.size w2 w' := by
         cases hbw : b5 with
         | false => rw [H.wa hbw]; exact (Below.refl _ w2).drew
         | true => exact (H.wb hbw b9f).1
        clear b9f
        have hcc := HBXV.out.below hB HBXV.out.lt
        have cc0 := hcc.cell_ 0 (.int .i64 st) rfl
        have cc1 := hcc.cell_ 1 (.slice hA n hc) rfl
        have cc2 := hcc.cell_ 2 (.slice (some ⟨nb, no, none⟩) hs.length nc) rfl
        clear hcc hB
        refine wpOp_hidden rfl fun K hK => ?_
        go_wp2
        refine OnlyN.mk (hK.out _ _ ⟨true, _, _, _, _, _, _, _, _, _, _, .agg #[.int .i64 st, .slice hA n hc, .slice (some ⟨nb, no, none⟩) hs.length nc], _, _, _, _, _, _, _, _, _, _, rfl, rfl, ⟨fun _ => rfl, H.h1, H.h2, H.h3, H.h4, H.h6, H.h7, H.h8, H.h10, H.wa, H.wb, H.wd, H.o4, H.o5, H.o7, H.o8, fun h => ⟨rfl, (H.o9 h).2.1, (H.o9 h).2.2.1, (H.o9 h).2.2.2⟩, H.o10⟩⟩)
       ·refine wpOp_hidden rfl fun K hK => ?_
        go_wp2
        refine OnlyN.mk (hK.out _ _ ⟨_, true, _, _, _, _, _, _, _, _, _, _, .slice rA rs.length rc, _, _, _, _, _, _, _, _, _, rfl, rfl, ⟨H.h0, fun _ => rfl, H.h2, H.h3, H.h4, H.h6, H.h7, H.h8, H.h10, H.wa, H.wb, H.wd, H.o4, H.o5, H.o7, H.o8, fun h => ⟨(H.o9 h).1, rfl, (H.o9 h).2.2.1, (H.o9 h).2.2.2⟩, H.o10⟩⟩)
       ·refine wpOp_hidden rfl fun K hK => ?_
        go_wp2
        refine OnlyN.mk (hK.out _ _ ⟨_, _, true, _, _, _, _, _, _, _, _, _, _, .slice A2 ins.length c2, _, _, _, _, _, _, _, _, rfl, rfl, ⟨H.h0, H.h1, fun _ => rfl, H.h3, H.h4, H.h6, H.h7, H.h8, H.h10, H.wa, H.wb, H.wd, H.o4, fun h => ⟨rfl, (H.o5 h).2⟩, H.o7, H.o8, H.o9, H.o10⟩⟩)
       ·refine wpOp_hidden rfl fun K hK => ?_
        go_wp2
        refine OnlyN.mk (hK.out _ _ ⟨_, _, _, true, _, _, _, _, _, _, _, _, _, _, .int .i64 (ins.length : Int), _, _, _, _, _, _, _, rfl, rfl, ⟨H.h0, H.h1, H.h2, fun _ => rfl, H.h4, H.h6, H.h7, H.h8, H.h10, H.wa, H.wb, H.wd, fun h => rfl, H.o5, H.o7, H.o8, H.o9, H.o10⟩⟩)
       ·obtain rfl := H.h3 (by simp [hi])
        refine wpOp_hidden rfl fun K hK => ?_
        go_wp2
        refine OnlyN.mk (hK.out _ _ ⟨_, _, _, _, true, _, _, _, _, _, _, _, _, _, _, .int .i64 (-1 - (ins.length : Int)), _, _, _, _, _, _, rfl, rfl, ⟨H.h0, H.h1, H.h2, H.h3, fun _ => rfl, H.h6, H.h7, H.h8, H.h10, H.wa, H.wb, H.wd, fun _ => (by simp [hi]), fun h => ⟨(H.o5 h).1, rfl⟩, H.o7, H.o8, H.o9, H.o10⟩⟩)
       ·obtain rfl := H.h2 (by simp [hi])
        obtain rfl := H.h4 (by simp [hi])
        have b9f : b9 = false := by
         cases hb : b9 with
         | false => rfl
         | true => exact absurd (H.o9 hb).2.2.1 (by simp [hi])
        have hw := H.wa (by simp [hi])
        subst hw
        have hcall := with_any A2 c2 ins (-1 - (ins.length : Int)) (World.drew w2) ((OwnI.reads HIV.out).ext (Below.refl _ w2).drew) (by have := HIN.out; omega)
        have HCALLX := Lib.hid hcall
        have B9F := Lib.hid b9f
        clear hcall b9f
        refine wpOp_hidden rfl fun K hK => ?_
        go_wp2_with (go_at_call 53; refine HCALLX.out.mono ?_; rintro e w5 ⟨v5, rfl, ho5, hb5⟩; refine Hid.out ?_)
        refine Lib.hid ?_
        obtain ⟨A9, c9, e9, -, -⟩ := ho5.ints
        rw [show (ins ++ [-1 - (ins.length : Int)]).length = ins.length + 1 from by rw [List.length_append]; rfl] at e9
        subst e9
        have HO5 : Hid (OwnIA w5 B (.slice A9 (ins.length + 1) c9) (ins ++ [-1 - (ins.length : Int)])) := Lib.hid (OwnI.down ho5 HBV.out)
        have HB5 : Hid (Below w2.heap.size w2 w5) := Lib.hid (((Below.refl _ w2).drew).trans hb5)
        clear ho5 hb5 HCALLX
        go_wp2
        refine OnlyN.mk (hK.out _ _ ⟨_, _, _, _, _, true, _, _, _, _, _, _, _, _, _, _, .slice A9 (ins.length + 1) c9, _, _, _, _, _, rfl, rfl, ⟨H.h0, H.h1, H.h2, H.h3, H.h4, H.h6, H.h7, H.h8, H.h10, fun h => (by cases h), fun _ _ => ⟨HB5.out, A9, c9, rfl, HO5.out⟩, fun h => absurd h (by rw [B9F.out]; decide), H.o4, fun _ => (by simp [hi]), H.o7, H.o8, fun h => ⟨(H.o9 h).1, (H.o9 h).2.1, rfl, (H.o9 h).2.2.2⟩, H.o10⟩⟩)
       ·refine wpOp_hidden rfl fun K hK => ?_
        go_wp2
        refine OnlyN.mk (hK.out _ _ ⟨_, _, _, _, _, _, true, _, _, _, _, _, _, _, _, _, _, .slice (some ⟨zb, zo, none⟩) l.length zc, _, _, _, _, rfl, rfl, ⟨H.h0, H.h1, H.h2, H.h3, H.h4, fun _ => rfl, H.h7, H.h8, H.h10, H.wa, H.wb, H.wd, H.o4, H.o5, fun h => rfl, H.o8, H.o9, H.o10⟩⟩)
       ·obtain rfl := H.h6 (by simp [hi])
        refine wpOp_hidden rfl fun K hK => ?_
        go_wp2
        refine OnlyN.mk (hK.out _ _ ⟨_, _, _, _, _, _, _, true, _, _, _, _, _, _, _, _, _, _, .pointer (some ⟨zb, zo, none⟩), _, _, _, rfl, rfl, ⟨H.h0, H.h1, H.h2, H.h3, H.h4, H.h6, fun _ => rfl, H.h8, H.h10, H.wa, H.wb, H.wd, H.o4, H.o5, fun _ => (by simp [hi]), fun h => rfl, H.o9, H.o10⟩⟩)
       ·obtain rfl := H.h7 (by simp [hi])
        have b9f : b9 = false := by
         cases hb : b9 with
         | false => rfl
         | true => exact absurd (H.o9 hb).2.2.2 (by simp [hi])
        have hB : Below w2.heap.size w2 w' := by
         cases hbw : b5 with
         | false => rw [H.wa hbw]; exact (Below.refl _ w2).drew
         | true => exact (H.wb hbw b9f).1
        clear b9f
        have cc := HXC.out w' hB
        clear hB
        refine wpOp_hidden rfl fun K hK => ?_
        go_wp2
        refine OnlyN.mk (hK.out _ _ ⟨_, _, _, _, _, _, _, _, true, _, _, _, _, _, _, _, _, _, _, .int .i64 z0, _, _, rfl, rfl, ⟨H.h0, H.h1, H.h2, H.h3, H.h4, H.h6, H.h7, fun _ => rfl, H.h10, H.wa, H.wb, H.wd, H.o4, H.o5, H.o7, fun _ => (by simp [hi]), fun h => ⟨(H.o9 h).1, (H.o9 h).2.1, (H.o9 h).2.2.1, rfl⟩, H.o10⟩⟩)
       ·obtain rfl := H.h0 (by simp [hi])
        obtain rfl := H.h1 (by simp [hi])
        obtain rfl := H.h8 (by simp [hi])
        obtain ⟨hb5, A9, c9, e9, ho5⟩ := H.wb (by simp [hi]) (by simp [hi])
        subst e9
        have hcall := HSTV.out w' A9 c9 hb5 ho5
        have HCALLX := Lib.hid hcall
        clear hcall hb5 ho5
        refine wpOp_hidden rfl fun K hK => ?_
        go_wp2_with (go_at_call 28; refine HCALLX.out.mono ?_; rintro e w6 ⟨rv6, rs6, rfl, hr6, hp6⟩; refine Hid.out ?_)
        refine Lib.hid ?_
        obtain ⟨rA6, rc6, e6, -, -⟩ := hr6.rws
        subst e6
        have HP6 := Lib.hid (And.intro hr6 hp6)
        clear hr6 hp6 HCALLX
        go_wp2
        refine OnlyN.mk (hK.out _ _ ⟨_, _, _, _, _, _, _, _, _, true, _, _, _, _, _, _, _, _, _, _, .slice rA6 rs6.length rc6, _, rfl, rfl, ⟨H.h0, H.h1, H.h2, H.h3, H.h4, H.h6, H.h7, H.h8, fun h => absurd (H.o10 h) (by simp [hi]), fun h => absurd h (by simp [hi]), fun _ h => (by cases h), fun _ => ⟨_, rs6, rfl, HP6.out.1, HP6.out.2⟩, H.o4, H.o5, H.o7, H.o8, fun _ => (by simp [hi]), fun h => rfl⟩⟩)
       ·obtain ⟨rv6, rs6, e6, hr6, hp6⟩ := H.wd (by simp [hi])
        injection e6 with e6
        subst e6
        obtain ⟨rA6, rc6, e6, -, -⟩ := hr6.rws
        subst e6
        have HP6 := Lib.hid (And.intro hr6 hp6)
        clear hr6 hp6
        refine wpOp_hidden rfl fun K hK => ?_
        go_wp2
        refine OnlyN.mk (hK.out _ _ ⟨_, _, _, _, _, _, _, _, _, _, true, _, _, _, _, _, _, _, _, _, _, .slice rA6 rs6.length rc6, rfl, rfl, ⟨H.h0, H.h1, H.h2, H.h3, H.h4, H.h6, H.h7, H.h8, fun _ => rfl, H.wa, H.wb, fun _ => ⟨_, rs6, rfl, HP6.out.1, HP6.out.2⟩, H.o4, H.o5, H.o7, H.o8, H.o9, fun _ => (by simp [hi])⟩⟩)
      ·rintro listed act w' hr ⟨b0, b1, b2, b3, b4, b5, b6, b7, b8, b9, b10, v78, v79, v80, v81, v82, v83, v84, v85, v86, v87, v8, rfl, rfl, H⟩
       have hn := List.eq_nil_iff_forall_not_mem.1 hr
       have r0 := hn 0
       simp [mem_ready, Region.binds] at r0
       subst r0
       have r1 := hn 1
       simp [mem_ready, Region.binds] at r1
       subst r1
       have r2 := hn 2
       simp [mem_ready, Region.binds] at r2
       subst r2
       have r3 := hn 3
       simp [mem_ready, Region.binds] at r3
       subst r3
       have r4 := hn 4
       simp [mem_ready, Region.binds] at r4
       subst r4
       have r5 := hn 5
       simp [mem_ready, Region.binds] at r5
       subst r5
       have r6 := hn 6
       simp [mem_ready, Region.binds] at r6
       subst r6
       have r7 := hn 7
       simp [mem_ready, Region.binds] at r7
       subst r7
       have r8 := hn 8
       simp [mem_ready, Region.binds] at r8
       subst r8
       have r9 := hn 9
       simp [mem_ready, Region.binds] at r9
       subst r9
       have r10 := hn 10
       simp [mem_ready, Region.binds] at r10
       subst r10
       try dsimp only
       obtain ⟨rv6, rs6, e6, hr6, hok6, hk6, hn6⟩ := H.wd rfl
       injection e6 with e6
       subst e6
       obtain rfl := H.h10 rfl
       have HP6 := Lib.hid (And.intro hr6 (And.intro hok6 (And.intro hk6 hn6)))
       have HTOT : Hid (rowsT (hs.map Hd.nd) cv (L + 1) ins (kn : Int) = rowsT (hs.map Hd.nd) cv L (ins ++ [-1 - (ins.length : Int)]) z0) := Lib.hid (by rw [rowsT_all (by rw [HLS.out]; exact HSL.out), HLS.out, HZ0.out])
       clear H hr hn hr6 hok6 hk6 hn6
       go_wp2
       go_ret
       exact ⟨_, rs6, rfl, HP6.out.1, by rw [HTOT.out]; exact HP6.out.2.1, (Kept.of_new _ HB2.out).trans HP6.out.2.2.1, HP6.out.2.2.2.imp id fun ⟨g, g1, g2⟩ => ⟨g, g1, Nat.le_trans HB2.out.size g2⟩⟩
     | false =>
      go_wp2
      go_loopw [1, 14] (fun rvv iv wr => ∃ (j : Nat) (rA1 : Option Addr) (rc1 : Nat) (rss : List Rh), j ≤ l.length ∧ iv = .int .i64 j ∧ rvv = .slice rA1 rss.length rc1 ∧ Hid (OwnRA wr B (.slice rA1 rss.length rc1) rss) ∧ Hid (Rw15Ok (rs.map Rh.rw_ ++ rowsK (hs.map Hd.nd) cv L ins l j) rss) ∧ Hid (Kept (fun g => (Value.slice rA rs.length rc).ownBlock = some g) w2 wr) ∧ Hid ((Value.slice rA1 rss.length rc1).ownBlock = (Value.slice rA rs.length rc).ownBlock ∨ ∃ g, (Value.slice rA1 rss.length rc1).ownBlock = some g ∧ w2.heap.size ≤ g)) (fun _ iv _ => l.length - (intOf iv).toNat)
      case atStart => exact ⟨0, rA, rc, rs, Nat.zero_le _, rfl, rfl, HR2, Lib.hid (by show Rw15Ok (rs.map Rh.rw_ ++ []) rs; rw [List.append_nil]; exact ⟨fun _ => rfl, fun h => by rw [List.length_map] at h; exact h, HRS.out⟩), Lib.hid (Kept.refl _ _), Lib.hid (.inl rfl)⟩
      case round =>
       obtain ⟨j, rA1, rc1, rss, hj, rfl, rfl, HRJ, HOJ, HKJ, HNJ⟩ := hrel
       by_cases hjl : j < l.length
       ·obtain ⟨x', hx'⟩ : ∃ x, x = l[j] := ⟨_, rfl⟩
        have HBXV := Lib.hid (HNE.out _ HKJ.out).1
        have HIV := Lib.hid (HNE.out _ HKJ.out).2.1
        have HSV := Lib.hid (HNE.out _ HKJ.out).2.2
        have HBV : Hid (B ≤ (World.drew wr).heap.size) := Lib.hid (by rw [← HWB.out]; exact HSV.out.size)
        have HXC : Hid (∀ W, Below wr.heap.size wr W → W.cell? ⟨zb, zo + j, none⟩ = some (.int .i64 x')) := Lib.hid (fun W hb => by
         obtain ⟨b', o', e', -, hc0⟩ := (HZI.out W (HSV.out.trans (hb.mono HBV.out))).at_ hjl
         injection e' with e'; injection e' with h1 h2
         subst h1; subst h2
         rw [hx']
         exact hc0)
        have HSTV := Lib.hid (HSTEP.out (.slice rA1 rss.length rc1) rss wr (j : Int) x' HRJ.out HSV.out HOJ.out.2.2 (by rw [hx']; exact List.getElem_mem hjl))
        have HX : Hid (l.getD j 0 = x') := Lib.hid (by rw [hx', List.getD_eq_getElem?_getD, List.getElem?_eq_getElem hjl]; rfl)
        have HJ := Lib.hid hjl
        have hwj : wrap64 ((j : Int) + 1) = (j : Int) + 1 := by unfold wrap64; omega
        have HWJ := Lib.hid hwj
        have hr19 : rss.length ≤ 9223372036854775807 := by have := HOJ.out.2.2; omega
        clear hx' hwj
        go_upto_region 20 with fail
        refine wp_region_J (by kernel_rfl) (fun listed act w' => ∃ b0 b1 b2 b3 b4 b5 b6 b7 b8 b9 b10 v94 v95 v96 v97 v98 v99 v100 v101 v102 v103 v1, listed = #[b0, b1, b2, b3, b4, b5, b6, b7, b8, b9, b10] ∧ act = Act.mk #[.agg #[.int .i64 st, .slice hA n hc, .slice (some ⟨nb, no, none⟩) hs.length nc], v1, .slice A2 ins.length c2, .int .i64 ↑kn, .pointer (some ⟨gT, 0, none⟩), undef, undef, undef, .slice none 0 0, .int .i64 ↑ins.length, undef, .slice (some ⟨zb, zo, none⟩) l.length zc, .bool false, .int .i64 ↑l.length, .int .i64 ↑j, .slice rA rs.length rc, .int .i64 ↑rs.length, .bool false, undef, .slice A2 ins.length c2, .int .i64 ↑ins.length, .int .i64 ↑ins.length, .pointer (some ⟨gT, 1, none⟩), .slice hA n hc, .int .i64 ↑n, .bool false, undef, undef, undef, undef, undef, undef, undef, undef, undef, undef, undef, undef, undef, undef, undef, undef, undef, undef, undef, undef, undef, undef, undef, undef, undef, undef, undef, undef, .pointer (some ⟨gT, 2, none⟩), .slice (some ⟨nb, no, none⟩) hs.length nc, .int .i64 ↑kn, .pointer (some ⟨nb, no + kn * 2, none⟩), .pointer (some ⟨nb, no + kn * 2 + 1, none⟩), .slice (some ⟨zb, zo, none⟩) l.length zc, .int .i64 ↑l.length, .slice (some ⟨zb, zo, none⟩) l.length zc, .int .i64 ↑l.length, .bool false, u64, u65, u66, u67, u68, u69, u70, u71, u72, u73, u74, u75, u76, .bool false, undef, undef, undef, undef, undef, undef, undef, undef, undef, undef, .int .i64 ↑j, .slice (some ⟨zb, zo, none⟩) l.length zc, .int .i64 ↑l.length, .bool true, u92, u93, v94, v95, v96, v97, v98, v99, v100, v101, v102, v103, undef] [] ∧ Rw20J wr (Rw15Post B (rss.map Rh.rw_ ++ rowsT (hs.map Hd.nd) cv L (ins ++ [(j : Int)]) x') (.slice rA1 rss.length rc1) wr) B (.agg #[.int .i64 st, .slice hA n hc, .slice (some ⟨nb, no, none⟩) hs.length nc]) (.slice rA1 rss.length rc1) (.slice A2 ins.length c2) (.slice (some ⟨zb, zo, none⟩) l.length zc) (.pointer (some ⟨zb, zo + j, none⟩)) ins ((j : Int)) (x') ((j : Int)) b0 b1 b2 b3 b4 b5 b6 b7 b8 b9 b10 v94 v95 v96 v97 v98 v99 v100 v101 v102 v103 v1 w') ?_ ?_ ?_
        ·exact ⟨_, _, _, _, _, _, _, _, _, _, _, _, _, _, _, _, _, _, _, _, _, _, rfl, rfl, ⟨(by simp), (by simp), (by simp), (by simp), (by simp), (by simp), (by simp), (by simp), (by simp), (fun _ => rfl), (by simp), (by simp), (fun _ => rfl), (by simp), (by simp), (by simp), (by simp), (by simp)⟩⟩
        ·rintro i listed act w' hi ⟨b0, b1, b2, b3, b4, b5, b6, b7, b8, b9, b10, v94, v95, v96, v97, v98, v99, v100, v101, v102, v103, v1, rfl, rfl, H⟩
         have hi16 : i < 11 := by
          obtain ⟨-, o, ho, -⟩ := mem_ready.1 hi
          exact (Array.getElem?_eq_some_iff.1 ho).1
         obtain rfl | rfl | rfl | rfl | rfl | rfl | rfl | rfl | rfl | rfl | rfl : i = 0 ∨ i = 1 ∨ i = 2 ∨ i = 3 ∨ i = 4 ∨ i = 5 ∨ i = 6 ∨ i = 7 ∨ i = 8 ∨ i = 9 ∨ i = 10 := by omega
         all_goals simp [mem_ready, Region.binds] at hi
         ·have b9f : b9 = false := by
           cases hb : b9 with
           | false => rfl
           | true => exact absurd (H.o9 hb).1 (by simp [hi])
          have hB : Below wr.heap.size wr w' := by
           cases hbw : b4 with
           | false => rw [H.wa hbw]; exact (Below.refl _ wr).drew
           | true => exact (H.wb hbw b9f).1
          clear b9f
          have hcc := HBXV.out.below hB HBXV.out.lt
          have cc0 := hcc.cell_ 0 (.int .i64 st) rfl
          have cc1 := hcc.cell_ 1 (.slice hA n hc) rfl
          have cc2 := hcc.cell_ 2 (.slice (some ⟨nb, no, none⟩) hs.length nc) rfl
          clear hcc hB
          refine wpOp_hidden rfl fun K hK => ?_
          go_wp2
          refine OnlyN.mk (hK.out _ _ ⟨true, _, _, _, _, _, _, _, _, _, _, .agg #[.int .i64 st, .slice hA n hc, .slice (some ⟨nb, no, none⟩) hs.length nc], _, _, _, _, _, _, _, _, _, _, rfl, rfl, ⟨fun _ => rfl, H.h1, H.h2, H.h3, H.h5, H.h6, H.h7, H.h8, H.h10, H.wa, H.wb, H.wd, H.hz, H.o4, H.o7, H.o8, fun h => ⟨rfl, (H.o9 h).2.1, (H.o9 h).2.2.1, (H.o9 h).2.2.2⟩, H.o10⟩⟩)
         ·have b10f : b10 = false := by
           cases hb : b10 with
           | false => rfl
           | true => exact absurd (H.o9 (H.o10 hb)).2.1 (by simp [hi])
          obtain rfl := H.hz b10f
          have B10 := Lib.hid b10f
          clear b10f
          refine wpOp_hidden rfl fun K hK => ?_
          go_wp2
          refine OnlyN.mk (hK.out _ _ ⟨_, true, _, _, _, _, _, _, _, _, _, _, .slice rA1 rss.length rc1, _, _, _, _, _, _, _, _, _, rfl, rfl, ⟨H.h0, fun _ => rfl, H.h2, H.h3, H.h5, H.h6, H.h7, H.h8, H.h10, H.wa, H.wb, H.wd, fun _ => rfl, H.o4, H.o7, H.o8, fun h => ⟨(H.o9 h).1, rfl, (H.o9 h).2.2.1, (H.o9 h).2.2.2⟩, H.o10⟩⟩)
         ·refine wpOp_hidden rfl fun K hK => ?_
          go_wp2
          refine OnlyN.mk (hK.out _ _ ⟨_, _, true, _, _, _, _, _, _, _, _, _, _, .slice A2 ins.length c2, _, _, _, _, _, _, _, _, rfl, rfl, ⟨H.h0, H.h1, fun _ => rfl, H.h3, H.h5, H.h6, H.h7, H.h8, H.h10, H.wa, H.wb, H.wd, H.hz, fun h => ⟨rfl, (H.o4 h).2⟩, H.o7, H.o8, H.o9, H.o10⟩⟩)
         ·refine wpOp_hidden rfl fun K hK => ?_
          go_wp2
          refine OnlyN.mk (hK.out _ _ ⟨_, _, _, true, _, _, _, _, _, _, _, _, _, _, .int .i64 (j : Int), _, _, _, _, _, _, _, rfl, rfl, ⟨H.h0, H.h1, H.h2, fun _ => rfl, H.h5, H.h6, H.h7, H.h8, H.h10, H.wa, H.wb, H.wd, H.hz, fun h => ⟨(H.o4 h).1, rfl⟩, H.o7, H.o8, H.o9, H.o10⟩⟩)
         ·obtain rfl := H.h2 (by simp [hi])
          obtain rfl := H.h3 (by simp [hi])
          have b9f : b9 = false := by
           cases hb : b9 with
           | false => rfl
           | true => exact absurd (H.o9 hb).2.2.1 (by simp [hi])
          have hw := H.wa (by simp [hi])
          subst hw
          have hcall := with_any A2 c2 ins ((j : Int)) (World.drew wr) ((OwnI.reads HIV.out).ext (Below.refl _ wr).drew) (by have := HIN.out; omega)
          have HCALLX := Lib.hid hcall
          have B9F := Lib.hid b9f
          clear hcall b9f
          refine wpOp_hidden rfl fun K hK => ?_
          go_wp2_with (go_at_call 53; refine HCALLX.out.mono ?_; rintro e w5 ⟨v5, rfl, ho5, hb5⟩; refine Hid.out ?_)
          refine Lib.hid ?_
          obtain ⟨A9, c9, e9, -, -⟩ := ho5.ints
          rw [show (ins ++ [(j : Int)]).length = ins.length + 1 from by rw [List.length_append]; rfl] at e9
          subst e9
          have HO5 : Hid (OwnIA w5 B (.slice A9 (ins.length + 1) c9) (ins ++ [(j : Int)])) := Lib.hid (OwnI.down ho5 HBV.out)
          have HB5 : Hid (Below wr.heap.size wr w5) := Lib.hid (((Below.refl _ wr).drew).trans hb5)
          clear ho5 hb5 HCALLX
          go_wp2
          refine OnlyN.mk (hK.out _ _ ⟨_, _, _, _, true, _, _, _, _, _, _, _, _, _, _, .slice A9 (ins.length + 1) c9, _, _, _, _, _, _, rfl, rfl, ⟨H.h0, H.h1, H.h2, H.h3, H.h5, H.h6, H.h7, H.h8, H.h10, fun h => (by cases h), fun _ _ => ⟨HB5.out, A9, c9, rfl, HO5.out⟩, fun h => absurd h (by rw [B9F.out]; decide), H.hz, fun _ => (by simp [hi]), H.o7, H.o8, fun h => ⟨(H.o9 h).1, (H.o9 h).2.1, rfl, (H.o9 h).2.2.2⟩, H.o10⟩⟩)
         ·refine wpOp_hidden rfl fun K hK => ?_
          go_wp2
          refine OnlyN.mk (hK.out _ _ ⟨_, _, _, _, _, true, _, _, _, _, _, _, _, _, _, _, .slice (some ⟨zb, zo, none⟩) l.length zc, _, _, _, _, _, rfl, rfl, ⟨H.h0, H.h1, H.h2, H.h3, fun _ => rfl, H.h6, H.h7, H.h8, H.h10, H.wa, H.wb, H.wd, H.hz, H.o4, fun h => ⟨rfl, (H.o7 h).2⟩, H.o8, H.o9, H.o10⟩⟩)
         ·refine wpOp_hidden rfl fun K hK => ?_
          go_wp2
          refine OnlyN.mk (hK.out _ _ ⟨_, _, _, _, _, _, true, _, _, _, _, _, _, _, _, _, _, .int .i64 (j : Int), _, _, _, _, rfl, rfl, ⟨H.h0, H.h1, H.h2, H.h3, H.h5, fun _ => rfl, H.h7, H.h8, H.h10, H.wa, H.wb, H.wd, H.hz, H.o4, fun h => ⟨(H.o7 h).1, rfl⟩, H.o8, H.o9, H.o10⟩⟩)
         ·obtain rfl := H.h5 (by simp [hi])
          obtain rfl := H.h6 (by simp [hi])
          refine wpOp_hidden rfl fun K hK => ?_
          go_wp2
          refine OnlyN.mk (hK.out _ _ ⟨_, _, _, _, _, _, _, true, _, _, _, _, _, _, _, _, _, _, .pointer (some ⟨zb, zo + j, none⟩), _, _, _, rfl, rfl, ⟨H.h0, H.h1, H.h2, H.h3, H.h5, H.h6, fun _ => rfl, H.h8, H.h10, H.wa, H.wb, H.wd, H.hz, H.o4, fun _ => (by simp [hi]), fun h => rfl, H.o9, H.o10⟩⟩)
         ·obtain rfl := H.h7 (by simp [hi])
          have b9f : b9 = false := by
           cases hb : b9 with
           | false => rfl
           | true => exact absurd (H.o9 hb).2.2.2 (by simp [hi])
          have hB : Below wr.heap.size wr w' := by
           cases hbw : b4 with
           | false => rw [H.wa hbw]; exact (Below.refl _ wr).drew
           | true => exact (H.wb hbw b9f).1
          clear b9f
          have cc := HXC.out w' hB
          clear hB
          refine wpOp_hidden rfl fun K hK => ?_
          go_wp2
          refine OnlyN.mk (hK.out _ _ ⟨_, _, _, _, _, _, _, _, true, _, _, _, _, _, _, _, _, _, _, .int .i64 x', _, _, rfl, rfl, ⟨H.h0, H.h1, H.h2, H.h3, H.h5, H.h6, H.h7, fun _ => rfl, H.h10, H.wa, H.wb, H.wd, H.hz, H.o4, H.o7, fun _ => (by simp [hi]), fun h => ⟨(H.o9 h).1, (H.o9 h).2.1, (H.o9 h).2.2.1, rfl⟩, H.o10⟩⟩)
         ·obtain rfl := H.h0 (by simp [hi])
          obtain rfl := H.h1 (by simp [hi])
          obtain rfl := H.h8 (by simp [hi])
          obtain ⟨hb5, A9, c9, e9, ho5⟩ := H.wb (by simp [hi]) (by simp [hi])
          subst e9
          have hcall := HSTV.out w' A9 c9 hb5 ho5
          have HCALLX := Lib.hid hcall
          clear hcall hb5 ho5
          refine wpOp_hidden rfl fun K hK => ?_
          go_wp2_with (go_at_call 28; refine HCALLX.out.mono ?_; rintro e w6 ⟨rv6, rs6, rfl, hr6, hp6⟩; refine Hid.out ?_)
          refine Lib.hid ?_
          obtain ⟨rA6, rc6, e6, -, -⟩ := hr6.rws
          subst e6
          have HP6 := Lib.hid (And.intro hr6 hp6)
          clear hr6 hp6 HCALLX
          go_wp2
          refine OnlyN.mk (hK.out _ _ ⟨_, _, _, _, _, _, _, _, _, true, _, _, _, _, _, _, _, _, _, _, .slice rA6 rs6.length rc6, _, rfl, rfl, ⟨H.h0, H.h1, H.h2, H.h3, H.h5, H.h6, H.h7, H.h8, fun h => absurd (H.o10 h) (by simp [hi]), fun h => absurd h (by simp [hi]), fun _ h => (by cases h), fun _ => ⟨_, rs6, rfl, HP6.out.1, HP6.out.2⟩, H.hz, H.o4, H.o7, H.o8, fun _ => (by simp [hi]), fun h => rfl⟩⟩)
         ·obtain ⟨rv6, rs6, e6, hr6, hp6⟩ := H.wd (by simp [hi])
          injection e6 with e6
          subst e6
          obtain ⟨rA6, rc6, e6, -, -⟩ := hr6.rws
          subst e6
          have HP6 := Lib.hid (And.intro hr6 hp6)
          clear hr6 hp6
          refine wpOp_hidden rfl fun K hK => ?_
          go_wp2
          refine OnlyN.mk (hK.out _ _ ⟨_, _, _, _, _, _, _, _, _, _, true, _, _, _, _, _, _, _, _, _, _, .slice rA6 rs6.length rc6, rfl, rfl, ⟨H.h0, H.h1, H.h2, H.h3, H.h5, H.h6, H.h7, H.h8, fun _ => rfl, H.wa, H.wb, fun _ => ⟨_, rs6, rfl, HP6.out.1, HP6.out.2⟩, fun h => (by cases h), H.o4, H.o7, H.o8, H.o9, fun _ => (by simp [hi])⟩⟩)
        ·rintro listed act w' hr ⟨b0, b1, b2, b3, b4, b5, b6, b7, b8, b9, b10, v94, v95, v96, v97, v98, v99, v100, v101, v102, v103, v1, rfl, rfl, H⟩
         have hn := List.eq_nil_iff_forall_not_mem.1 hr
         have r0 := hn 0
         simp [mem_ready, Region.binds] at r0
         subst r0
         have r1 := hn 1
         simp [mem_ready, Region.binds] at r1
         subst r1
         have r2 := hn 2
         simp [mem_ready, Region.binds] at r2
         subst r2
         have r3 := hn 3
         simp [mem_ready, Region.binds] at r3
         subst r3
         have r4 := hn 4
         simp [mem_ready, Region.binds] at r4
         subst r4
         have r5 := hn 5
         simp [mem_ready, Region.binds] at r5
         subst r5
         have r6 := hn 6
         simp [mem_ready, Region.binds] at r6
         subst r6
         have r7 := hn 7
         simp [mem_ready, Region.binds] at r7
         subst r7
         have r8 := hn 8
         simp [mem_ready, Region.binds] at r8
         subst r8
         have r9 := hn 9
         simp [mem_ready, Region.binds] at r9
         subst r9
         have r10 := hn 10
         simp [mem_ready, Region.binds] at r10
         subst r10
         try dsimp only
         obtain ⟨rv6, rs6, e6, hr6, hok6, hk6, hn6⟩ := H.wd rfl
         injection e6 with e6
         subst e6
         obtain rfl := H.h10 rfl
         obtain ⟨rA6, rc6, e6, -, -⟩ := hr6.rws
         subst e6
         obtain ⟨kc, kn'⟩ := kept_chain HKJ.out HNJ.out hk6 hn6
         have HOK : Hid (Rw15Ok (rs.map Rh.rw_ ++ rowsK (hs.map Hd.nd) cv L ins l (j + 1)) rs6) := Lib.hid (HOJ.out.step hok6 (by rw [List.append_assoc, rowsK_step, HX.out]))
         have HP6 := Lib.hid (And.intro hr6 (And.intro kc kn'))
         obtain ⟨w6, rfl⟩ : ∃ w6 : World, w6 = w' := ⟨_, rfl⟩
         clear H hr hn hr6 hok6 hk6 hn6 kc kn'
         go_wp2
         go_roundw
         case rel => exact ⟨j + 1, rA6, rc6, rs6, HJ.out, (by first | rfl | (rw [HWJ.out]; rfl)), rfl, Lib.hid HP6.out.1, HOK, Lib.hid HP6.out.2.1, Lib.hid HP6.out.2.2⟩
         case measure => (try rw [HWJ.out]); exact meas_step HJ.out
       ·obtain rfl : j = l.length := Nat.le_antisymm hj (Nat.le_of_not_lt hjl)
        have htot : rowsT (hs.map Hd.nd) cv (L + 1) ins (kn : Int) = rowsK (hs.map Hd.nd) cv L ins l l.length := by rw [rowsT_each (by rw [HLS.out]; exact HSL.out), HLS.out]
        have HTOT := Lib.hid htot
        clear hj hjl htot
        go_wp2
        go_ret
        exact ⟨_, rss, rfl, HRJ.out, by rw [HTOT.out]; exact HOJ.out, (Kept.of_new _ HB2.out).trans HKJ.out, HNJ.out.imp id fun ⟨g, g1, g2⟩ => ⟨g, g1, Nat.le_trans HB2.out.size g2⟩⟩
end Go.Proofs.YtlegfdllipkggaaDoor
