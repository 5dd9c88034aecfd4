/-
  The reference's equality of lists of points. No condition but the reach.
  cellularref13.product. No condition but that the nodes are those of valid trees, and bounds.
  cellularref13.Choose. No condition but that the trees have at most twelve nodes, and that there are at most nine.
-/
import Derived.Test.YtojnnfihpiegoaaDoorZCf
import Derived.BigRegion
import Derived.Deep.DeepCutAuto
import Derived.Deep.DeepFit
import Derived.Deep.CutBlock
import Derived.Test.YtojnnfihpiegoaaDoorZCu
import Derived.Test.YtojnnfihpiegoaaDoorZCj
import Derived.Test.YtojnnfihpiegoaaDoorZChs
import Derived.Test.YtojnnfihpiegoaaDoorZCi
namespace Go.Proofs.YtojnnfihpiegoaaDoor
set_option linter.unusedSimpArgs false
set_option linter.unusedVariables false
open Go.RowKit
set_option maxRecDepth 100000

set_option maxHeartbeats 400000 in
theorem samePtsR (A B : Option Addr) (xs ys : List (Int × Int)) (c d : Nat) (w : World) (ha : Pts w A xs) (hb : Pts w B ys) :
  Calls Tryd.prog 48 #[.slice A xs.length c, .slice B ys.length d] w fun e w' => e = .returned (.bool (decide (xs = ys))) ∧ Qt w w' := by
 have hn := ha.le
 have hm := hb.le
 by_cases hl : xs.length = ys.length
 ·have hd : ((xs.length : Int) != ys.length) = false := by simp [hl]
  have HL := Lib.hid hl
  clear hl
  go_enter Tryd.func48, Tryd.ntmps48
  go_wp2
  go_loopw [5] (fun i wr => ∃ k q : Nat, k ≤ xs.length ∧ i = .int .i64 k ∧ wr = w.drewN q ∧ Hid (xs.take k = ys.take k)) (fun i _ => xs.length - (intOf i).toNat)
  case atStart => exact ⟨0, 0, Nat.zero_le _, rfl, rfl, Lib.hid rfl⟩
  case round =>
   obtain ⟨k, q, hk, rfl, rfl, HT⟩ := hrel
   by_cases hlt : k < xs.length
   ·have hlt2 : k < ys.length := by have := HL.out; omega
    obtain ⟨b1, o1, rfl, -, hc, hc'⟩ := ha.at_ hlt
    obtain ⟨b2, o2, rfl, -, hc2, hc2'⟩ := hb.at_ hlt2
    go_wp2
    have hst := Tryd.stood_pt
    have heg := Tryd.guard_pt
    have hnq := neq_pt
    go_quiet (fail)
    go_wp2
    ·have hne : ¬ xs[k] = ys[k] := ptNe_true ‹_›
     go_ret
     refine ⟨ret_bool (decide_eq_false ?_).symm, (Qt.drewN _ _).step _⟩
     rintro rfl
     exact hne rfl
    ·have he : xs[k] = ys[k] := ptNe_false ‹_›
     go_roundw
     case rel => exact ⟨k + 1, _, by omega, by go_num, rfl, Lib.hid (take_eq_snoc HT.out hlt hlt2 he)⟩
     case measure => simp [intOf]; omega
   ·have hk' : k = xs.length := by omega
    have hfin : xs = ys := by
     have := HT.out
     rwa [hk', List.take_of_length_le (Nat.le_refl _), List.take_of_length_le (by rw [HL.out]; exact Nat.le_refl _)] at this
    clear hk'
    have HF := Lib.hid hfin
    clear hfin
    go_wp2
    go_ret
    exact ⟨ret_bool (decide_eq_true HF.out).symm, Qt.drewN _ _⟩
 ·have hd : ((xs.length : Int) != ys.length) = true := by simp; omega
  have hf : ¬ xs = ys := by
   rintro rfl
   exact hl rfl
  have HF := Lib.hid hf
  clear hl hf
  go_enter Tryd.func48, Tryd.ntmps48
  go_wp2
  go_ret
  exact ⟨ret_bool (decide_eq_false HF.out).symm, Qt.refl _⟩
end Go.Proofs.YtojnnfihpiegoaaDoor
namespace Go.Proofs.YtojnnfihpiegoaaDoor
open Go.RowKit Go.Maps
set_option maxRecDepth 100000
set_option linter.unusedVariables false
set_option linter.unusedSimpArgs false

def RpPost (B : Nat) (T : List (List Nd)) (q n : Nat) (kv ov : Value) (ts : List KyH) (os : List Hd) (fh : KyH) (w : World) (e : Ending) (w' : World) : Prop :=
 ∃ kv2 ov2 ts2 os2, e = .returned (.tuple #[.int .i64 (prodR T q n fh.zs (ts.map KyH.zs, os.map Hd.nd)).1, kv2, ov2]) ∧ PpC B w kv ov ts os fh kv2 ov2 ts2 os2 w' ∧ (ts2.map KyH.zs, os2.map Hd.nd) = (prodR T q n fh.zs (ts.map KyH.zs, os.map Hd.nd)).2
theorem lookR_yes {lv : Int} {f : List Int} {s : RS} {n k : Nat} (h : k < n) (hh : hitR lv f s k = true) : lookR lv f s (n - k) k = some k := by
 obtain ⟨m, hm⟩ : ∃ m, n - k = m + 1 := ⟨n - k - 1, by omega⟩
 rw [hm]
 unfold lookR
 rw [if_pos hh]
theorem lookR_no {lv : Int} {f : List Int} {s : RS} {n k : Nat} (h : k < n) (hh : hitR lv f s k = false) : lookR lv f s (n - k) k = lookR lv f s (n - (k + 1)) (k + 1) := by
 obtain ⟨m, hm⟩ : ∃ m, n - k = m + 1 := ⟨n - k - 1, by omega⟩
 rw [hm, show n - (k + 1) = m by omega]
 show (if hitR lv f s k = true then some k else lookR lv f s m (k + 1)) = _
 rw [if_neg (by rw [hh]; decide)]
theorem LT.push {W0 : World} {B : Nat} {lw : Value} {ls : List TrH} {lv : Int} {gX : Nat} {W : World} {kv ov : Value} {ts : List KyH} {os : List Hd} {fh : KyH} {acc : List Int} {kv1 ov1 : Value} {ts1 : List KyH} {os1 : List Hd} {xv : Value} {wr w6 : World}
  (h : LT W0 B lw ls wr) (hL : PpL B lv gX W kv ov ts os fh acc kv1 ov1 ts1 os1 xv wr) (hk : Kept (fun g => xv.ownBlock = some g) wr w6) (u : Value) : LT W0 B lw ls (w6.setCell ⟨gX, 1, none⟩ u) := by
 have k7 : Kept (fun g => g = gX) w6 (w6.setCell ⟨gX, 1, none⟩ u) := (Kept.refl (fun g => g = gX) w6).setCell (p := ⟨gX, 1, none⟩) (Or.inl rfl) u
 have h6 := hk.own h.row (fun g e1 e2 => own_ne h.row hL.R (by decide) e1 e2)
 have hG6 := hk.blk hL.G (own_blk_ne' hL.R hL.G (by decide))
 exact ⟨k7.own h6 (fun g e1 e2 => by subst e2; exact own_blk_ne' h6 hG6 (by decide) e1), h.rd⟩
def kR (T : List (List Nd)) (q n : Nat) (f : List Int) (s : RS) (m : Nat) : List Int × RS := kidsR (prodR T q n) (kidsC T f) m s
structure RpA (V : World) (bs : Nat) (acc : List Int) (xv : Value) (z : Int) (tb : Nat) (tof : Nat) (ln : Nat) (lc : Nat) (bi : Nat) (oi : Nat) (il : Nat) (ic : Nat) (nb : Nat) (no : Nat) (hl : Nat) (nc : Nat) (zb : Nat) (zo : Nat) (q : Nat) (zc : Nat) (i : Nat) (kid : Nat) (s : Nat) (b0 b1 b2 b3 b4 b5 b6 b7 b8 b9 b10 b11 b12 b13 b14 b15 b16 b17 b18 : Bool) (v70 v71 v72 v73 v74 v75 v76 v77 v78 v79 v80 v81 v82 v83 v84 v85 v86 v87 v16 : Value) (w : World) : Prop where
 h0 : b0 = true → v70 = xv
 h1 : b1 = true → v71 = .slice (some ⟨tb, tof, none⟩) ln lc
 h2 : b2 = true → v72 = .int .i64 (i : Int)
 h3 : b3 = true → v73 = .pointer (some ⟨tb, tof + i * 3, none⟩)
 h4 : b4 = true → v74 = .pointer (some ⟨tb, tof + i * 3 + 2, none⟩)
 h5 : b5 = true → v75 = .slice (some ⟨nb, no, none⟩) hl nc
 h6 : b6 = true → v76 = .slice (some ⟨bi, oi, none⟩) il ic
 h7 : b7 = true → v77 = .int .i64 (i : Int)
 h8 : b8 = true → v78 = .pointer (some ⟨bi, oi + i, none⟩)
 h9 : b9 = true → v79 = .int .i64 (kid : Int)
 h10 : b10 = true → v80 = .pointer (some ⟨nb, no + kid * 2, none⟩)
 h11 : b11 = true → v81 = .pointer (some ⟨nb, no + kid * 2 + 1, none⟩)
 h12 : b12 = true → v82 = .slice (some ⟨zb, zo, none⟩) q zc
 h13 : b13 = true → v83 = .int .i64 (s : Int)
 h14 : b14 = true → v84 = .pointer (some ⟨zb, zo + s, none⟩)
 h15 : b15 = true → v85 = .int .i64 z
 hk : b17 = false → ∀ p : Addr, p.block < V.heap.size → w.cell? p = V.cell? p
 wa : b16 = false → w = V.drew
 wb : b16 = true → b17 = false → v86 = .slice (some ⟨V.heap.size, 0, none⟩) 1 1 ∧ w = V.drew.alloc (.cells #[.int .i64 z] 3)
 wc : b17 = true → ∃ X c, v87 = .slice X (acc.length + 1) c ∧ OwnIA w bs (.slice X (acc.length + 1) c) (acc ++ [z]) ∧ Below bs V w
 hx : b18 = false → v16 = xv
 he : b18 = true → v16 = v87
 oe : b18 = true → b17 = true
 o3 : b3 = true → b1 = true ∧ b2 = true
 o4 : b4 = true → b3 = true
 o5 : b5 = true → b4 = true
 o8 : b8 = true → b6 = true ∧ b7 = true
 o9 : b9 = true → b8 = true
 o10 : b10 = true → b5 = true ∧ b9 = true
 o11 : b11 = true → b10 = true
 o12 : b12 = true → b11 = true
 o14 : b14 = true → b12 = true ∧ b13 = true
 o15 : b15 = true → b14 = true
 o16 : b16 = true → b15 = true
 o17 : b17 = true → b0 = true ∧ b16 = true
set_option maxHeartbeats 32000000 in
theorem rproduct_any (W0 : World) (B : Nat) (h0 : W0.heap.size ≤ B) (lw : Value) (ls : List TrH) (q : Nat) (hT : TV q (ls.map TrH.nds)) (hst : ∀ t ∈ ls, t.st = (q : Int)) (hq1 : 1 ≤ q) (hq8 : q ≤ 8) :
  ∀ (n : Nat) (fh : KyH) (kv ov : Value) (ts : List KyH) (os : List Hd) (w : World), okC (ls.map TrH.nds) q n fh.zs → n ≤ 30 → PpS B kv ov ts os w → KI B fh w → LT W0 B lw ls w → Below B W0 w → B ≤ w.heap.size → RI (ls.map TrH.nds) q (ts.map KyH.zs, os.map Hd.nd) → os.length + cap 8 n ≤ 20000000000 →
  Calls Tryd.prog 49 #[lw, .slice fh.A fh.zs.length fh.c, .int .i64 ((n : Nat) : Int), kv, ov] w (RpPost B (ls.map TrH.nds) q n kv ov ts os fh w) := by
 have htn : ls.length = q + 1 := by have := hT.1; rwa [List.length_map] at this
 have hTl : (ls.map TrH.nds).length = q + 1 := hT.1
 have hTg : ∀ i (hi : i < ls.length), (ls.map TrH.nds).getD i [] = (ls[i]).nds := fun i hi => ts_get hi
 generalize ls.map TrH.nds = T at *
 have HH0 := Lib.hid h0
 have HT := Lib.hid hT
 have HST := Lib.hid hst
 have HTG := Lib.hid hTg
 have HTN := Lib.hid (And.intro htn hTl)
 have HQ : Hid (1 ≤ q ∧ q ≤ 8) := Lib.hid ⟨hq1, hq8⟩
 clear h0 hT hst hTg htn hTl hq1 hq8
 intro n
 induction n with
 | zero =>
  intro fh kv ov ts os w hO hn hS hK hLT hb hBw hI hsz
  obtain ⟨A, ids, c⟩ := fh
  dsimp only at hO ⊢
  have hi : Ints w A ids := hK.ints
  obtain ⟨p1, p2, p3, p4⟩ := pickC_ok HT.out hO
  have hl := hO.1
  have hn1 : 0 < ids.length := by have := HTN.out.2; omega
  obtain ⟨bi, oi, e1, -, h0⟩ := hi.at_ hn1
  have hz : ids[0]'hn1 = ids.getD 0 0 := by rw [List.getD_eq_getElem?_getD, List.getElem?_eq_getElem hn1]; rfl
  obtain ⟨z, hz2⟩ : ∃ z : Nat, ids.getD 0 0 = z := ⟨(ids.getD 0 0).toNat, by omega⟩
  rw [hz, hz2] at h0
  rw [hz2] at p4
  have hzl : z + 1 < ids.length := by have := HTN.out.2; omega
  obtain ⟨bi', oi', e2, -, h1⟩ := hi.at_ hzl
  rw [e1] at e2
  injection e2 with e2
  injection e2 with e3 e4
  subst e3 e4
  have hpk : ids[z + 1] = pickC ids := by
   unfold pickC
   rw [hz2, show (1 + (z : Int)).toNat = z + 1 by omega, List.getD_eq_getElem?_getD, List.getElem?_eq_getElem hzl]
   rfl
  rw [hpk] at h1
  rw [Nat.add_comm z 1] at h1
  subst e1
  rw [Nat.add_zero] at h0
  obtain ⟨v, hv⟩ : ∃ v, v = pickC ids := ⟨_, rfl⟩
  rw [← hv] at h1
  have HEX : Hid (prodR T q 0 ids (ts.map KyH.zs, os.map Hd.nd) = (v, (ts.map KyH.zs, os.map Hd.nd))) := Lib.hid (by rw [hv]; rfl)
  have HS := Lib.hid hS
  have hzi : (0 : Int) < (ids.length : Int) := by omega
  have hw1 : wrap64 (1 + (z : Int)) = ((1 + z : Nat) : Int) := by have := HQ.out; unfold wrap64; omega
  have hzl2 : 1 + z < ids.length := Nat.lt_of_le_of_lt (Nat.le_of_eq (Nat.add_comm 1 z)) hzl
  have hzl3 : ((1 + z : Nat) : Int) < (ids.length : Int) := Int.ofNat_lt.2 hzl2
  clear hO hn hS hK hLT hb hI hsz hi p1 p2 p3 p4 hl hz hz2 hpk hv hzl
  go_enter Tryd.func49, Tryd.ntmps49
  go_wp2
  go_ret3
  refine ⟨kv, ov, ts, os, ?_, ⟨HS.out, Kept.refl _ _, .inl rfl, .inl rfl, fun x hx => .inl hx, fun t ht => .inl ht⟩, ?_⟩
  ·dsimp only
   rw [HEX.out]
   first | rfl | done
  ·dsimp only
   rw [HEX.out]
 | succ n ih =>
  intro fh kv ov ts os w hO hn hS hK hLT hb hBw hI hsz
  have hO1 := hO
  obtain ⟨fA, ids, fc⟩ := fh
  obtain ⟨fh, hfh⟩ : ∃ fh, fh = (⟨fA, ids, fc⟩ : KyH) := ⟨_, rfl⟩
  dsimp only at hO hO1 ⊢
  rw [← hfh] at hK ⊢
  obtain ⟨lv, hlv⟩ : ∃ lv : Int, lv = ((n + 1 : Nat) : Int) := ⟨_, rfl⟩
  rw [← hlv]
  have hl0 : (lv == 0) = false := by simp; omega
  have hwl : wrap64 (lv - 1) = (n : Int) := by rw [hlv]; unfold wrap64; omega
  have hkl : ts.length = os.length := by have := hI.len; simpa using this
  obtain ⟨kA, kc, ekv, hkr, -⟩ := own_form hS.krow
  obtain ⟨nA, nc, eov, hnd, -⟩ := hS.out.nds
  obtain ⟨lA, lc, elw, htr⟩ := hLT.trs hb HH0.out
  subst ekv eov elw
  have hol : os.length ≤ 20000000000 := by omega
  have hii : Ints w fA ids := by have := hK.ints; rw [hfh] at this; exact this
  have hil : ids.length = q + 1 := by rw [hO.1]; exact HTN.out.2
  have HIDS : Hid (fh.zs = ids) := Lib.hid (by rw [hfh])
  have HII := Lib.hid hii
  have HIL := Lib.hid hil
  have HO := Lib.hid hO
  have HND := Lib.hid hnd
  have HTRS := Lib.hid htr
  have HLT := Lib.hid hLT
  have HKL := Lib.hid hkl
  have HOL := Lib.hid hol
  have HS := Lib.hid hS
  have HK := Lib.hid hK
  have HB := Lib.hid hb
  have HI := Lib.hid hI
  have HSZ := Lib.hid hsz
  have HFH := Lib.hid hfh
  have HLV := Lib.hid hlv
  have HWL := Lib.hid hwl
  have HIH := Lib.hid ih
  have HN : Hid (n + 1 ≤ 30) := Lib.hid hn
  have HBW : Hid (B ≤ w.heap.size) := Lib.hid hBw
  obtain ⟨s0, hs0⟩ : ∃ s0 : RS, s0 = (ts.map KyH.zs, os.map Hd.nd) := ⟨_, rfl⟩
  have HS0 := Lib.hid hs0
  clear hO hO1 hn hS hK hLT hb hI hsz hkl hkr hnd htr hol hii hil hs0 hfh ih hlv hwl
  go_enter Tryd.func49, Tryd.ntmps49
  go_wp2
  go_loopw [13] (fun iv wr => ∃ k : Nat, k ≤ os.length ∧ iv = .int .i64 k ∧ Hid (Below w.heap.size w wr) ∧ Hid (lookR lv ids s0 os.length 0 = lookR lv ids s0 (os.length - k) k)) (fun iv _ => os.length - (intOf iv).toNat)
  case atStart => exact ⟨0, Nat.zero_le _, rfl, Lib.hid (Below.refl _ _), Lib.hid rfl⟩
  case round =>
   obtain ⟨k, hk, rfl, HBR, HLK⟩ := hrel
   have hwk : wrap64 ((k : Int) + 1) = (k : Int) + 1 := by have := HOL.out; unfold wrap64; omega
   by_cases hko : k < os.length
   ·have hkt : k < ts.length := by rw [HKL.out]; exact hko
    obtain ⟨bn, on, en, -, n0, -, -⟩ := (HND.out.ext HBR.out).at_ hko
    obtain ⟨bk, ok, ck, ek, k0, ki⟩ := (HS.out.ext HBR.out).at_ hkt
    injection ek with ek1 ek2 ek3
    have hnk : ndAt s0.2 k = os[k].nd := by rw [HS0.out]; exact ndl_at os hko
    have htk : s0.1.getD k [] = ts[k].zs := by rw [HS0.out, List.getD_eq_getElem?_getD, List.getElem?_map, List.getElem?_eq_getElem hkt]; rfl
    obtain ⟨x, hx⟩ : ∃ x, x = os[k] := ⟨_, rfl⟩
    obtain ⟨t, ht⟩ : ∃ t, t = ts[k] := ⟨_, rfl⟩
    rw [← hx] at n0 hnk
    rw [← ht] at k0 ki htk
    obtain ⟨xl, xA, xc, xz⟩ := x
    obtain ⟨tA, tz, tc⟩ := t
    dsimp only [KyH.val] at n0 k0 ki
    have HHIT : Hid (hitR lv ids s0 k = ((xl == lv) && decide (tz = ids))) := Lib.hid (by unfold hitR; rw [hnk, htk]; rfl)
    have HKO := Lib.hid hko
    have HCALL := Lib.hid (rsame_any tA fA tz ids tc fc wr ki (HII.out.ext HBR.out))
    clear hx ht hnk htk ki ek2 ek3
    subst en ek1
    by_cases hlx : xl = lv
    ·have d1 : (xl == lv) = true := by simp [hlx]
     by_cases hzz : tz = ids
     ·have d2 : decide (tz = ids) = true := decide_eq_true hzz
      rw [d2] at HCALL
      have HE := Lib.hid (lookR_yes HKO.out (by rw [HHIT.out, d1, d2]; rfl))
      clear hlx hzz
      go_wp2_with (go_at_call 72; refine HCALL.out.mono ?_; intro e w9 hx9; obtain ⟨rfl, hq9⟩ := hx9; refine Hid.out ?_)
      refine Lib.hid ?_
      have HBQ : Hid (Below w.heap.size w w9) := Lib.hid (HBR.out.trans (hq9.below _))
      have HEX : Hid (prodR T q (n + 1) ids (ts.map KyH.zs, os.map Hd.nd) = ((k : Int), (ts.map KyH.zs, os.map Hd.nd))) := Lib.hid (by
       rw [← HS0.out]
       unfold prodR
       have h1 : s0.2.length = os.length := by rw [HS0.out]; simp
       rw [h1, ← HLV.out, HLK.out, HE.out])
      clear hq9
      go_wp2
      go_ret3
      refine ⟨_, _, ts, os, ?_, ⟨HS.out.ext HBQ.out, Kept.of_new _ HBQ.out, .inl rfl, .inl rfl, fun x hx => .inl hx, fun t ht => .inl ht⟩, ?_⟩
      ·rw [HIDS.out, HEX.out]
       first | rfl | done
      ·rw [HIDS.out, HEX.out]
     ·have d2 : decide (tz = ids) = false := decide_eq_false hzz
      rw [d2] at HCALL
      have HE : Hid (lookR lv ids s0 os.length 0 = lookR lv ids s0 (os.length - (k + 1)) (k + 1)) := Lib.hid (HLK.out.trans (lookR_no HKO.out (by rw [HHIT.out, d1, d2]; rfl)))
      clear hlx hzz
      go_wp2_with (go_at_call 72; refine HCALL.out.mono ?_; intro e w9 hx9; obtain ⟨rfl, hq9⟩ := hx9; refine Hid.out ?_)
      refine Lib.hid ?_
      have HBQ : Hid (Below w.heap.size w w9) := Lib.hid (HBR.out.trans (hq9.below _))
      clear hq9
      go_wp2
      go_roundw
      case rel => exact ⟨k + 1, HKO.out, (by first | rfl | (rw [hwk]; rfl)), HBQ, HE⟩
      case measure => (try rw [hwk]); exact meas_step HKO.out
    ·have d1 : (xl == lv) = false := by simpa using hlx
     have HE : Hid (lookR lv ids s0 os.length 0 = lookR lv ids s0 (os.length - (k + 1)) (k + 1)) := Lib.hid (HLK.out.trans (lookR_no HKO.out (by rw [HHIT.out, d1]; rfl)))
     clear hlx
     go_wp2
     go_roundw
     case rel => exact ⟨k + 1, HKO.out, (by first | rfl | (rw [hwk]; rfl)), HBR, HE⟩
     case measure => (try rw [hwk]); exact meas_step HKO.out
   ·have hke : k = os.length := Nat.le_antisymm hk (Nat.le_of_not_lt hko)
    have HNONE : Hid (lookR lv ids s0 os.length 0 = none) := Lib.hid (by rw [HLK.out, hke, Nat.sub_self]; rfl)
    subst hke
    clear hko hk hwk
    obtain ⟨w1, rfl⟩ : ∃ w1, w1 = wr := ⟨_, rfl⟩
    have HSr := Lib.hid (HS.out.ext HBR.out)
    have hLr := HLT.out.ext HBR.out
    obtain ⟨w3, hw3⟩ : ∃ w3, w3 = w1.alloc (.cells #[.int .i64 lv, .slice none 0 0] 53) := ⟨_, rfl⟩
    have hb3 : Below w1.heap.size w1 w3 := by rw [hw3]; exact below_new _ _
    have hG3 : Blk w3 w1.heap.size 53 #[.int .i64 lv, .slice none 0 0] := by rw [hw3]; exact Blk.new _ _ _
    obtain ⟨gX, hgX⟩ : ∃ gX, gX = w1.heap.size := ⟨_, rfl⟩
    rw [← hgX] at hG3
    have HL0 := Lib.hid (PpL.start HSr.out (HK.out.ext HBR.out) hb3 hG3 (by rw [hgX]; exact Nat.le_refl _))
    have HLT0 := Lib.hid (hLr.ext hb3)
    have HW3 := Lib.hid (And.intro hw3 hgX)
    have HB1B : Hid (B ≤ w1.heap.size) := Lib.hid (Nat.le_trans hBw HBR.out.size)
    have HEX : Hid (prodR T q (n + 1) ids (ts.map KyH.zs, os.map Hd.nd) = (((kR T q n ids s0 q).2.2.length : Int), ((kR T q n ids s0 q).2.1 ++ [ids], (kR T q n ids s0 q).2.2 ++ [(lv, (kR T q n ids s0 q).1)]))) := Lib.hid (by
     rw [← HS0.out]
     unfold prodR
     have h1 : s0.2.length = os.length := by rw [HS0.out]; simp
     rw [h1, ← HLV.out, HNONE.out]
     rfl)
    clear hw3 hb3 hG3 hgX HLK hLr hBw hl0
    go_wp2
    rw [← HW3.out.1, ← HW3.out.2]
    go_wp2
    go_loopw [3, 4, 15] (fun k3 o4 sv wr => ∃ (m : Nat) (ts1 : List KyH) (os1 : List Hd) (xv : Value), m ≤ q ∧ sv = .int .i64 m ∧ Hid (PpL B lv gX w1 (.slice kA ts.length kc) (.slice nA os.length nc) ts os fh (kR T q n ids s0 m).1 k3 o4 ts1 os1 xv wr) ∧ Hid ((ts1.map KyH.zs, os1.map Hd.nd) = (kR T q n ids s0 m).2) ∧
     Hid (RI T q (kR T q n ids s0 m).2) ∧ Hid (os1.length ≤ os.length + m * cap 8 n) ∧ Hid ((kR T q n ids s0 m).1.length = m) ∧ Hid (LT W0 B (.slice lA ls.length lc) ls wr)) (fun _ _ sv _ => q - (intOf sv).toNat)
    case atStart => exact ⟨0, ts, os, _, Nat.zero_le _, rfl, HL0, Lib.hid HS0.out.symm, Lib.hid (by rw [show (kR T q n ids s0 0).2 = s0 from rfl, HS0.out]; exact HI.out), Lib.hid (by simp), Lib.hid rfl, HLT0⟩
    case round =>
     clear HL0 HLT0
     obtain ⟨m, ts1, os1, xv, hm, rfl, HL, HEQ, HXI, HSZ1, HAL0, HLT1⟩ := hrel
     obtain ⟨W2, rfl⟩ : ∃ W2, W2 = wr := ⟨_, rfl⟩
     have hwm : wrap64 ((m : Int) + 1) = (m : Int) + 1 := by have := HQ.out; unfold wrap64; omega
     have hbB : Below B W0 W2 := HB.out.trans ((HBR.out.mono HBW.out).trans (HSr.out.below HL.out.kp HB1B.out))
     have HBB := Lib.hid hbB
     have HB2B : Hid (B ≤ W2.heap.size) := Lib.hid (Nat.le_trans HB1B.out HL.out.kp.below.size)
     obtain ⟨tA0, tc0, et0, htr0⟩ := HLT1.out.trs hbB HH0.out
     injection et0 with et1 et2 et3
     subst et1 et3
     have hl0 : 0 < ls.length := by have := HTN.out.1; omega
     obtain ⟨tb, tof, et, htb, hs0, -, -, -, -⟩ := htr0.at_ hl0
     rw [HST.out _ (List.getElem_mem hl0)] at hs0
     rw [Nat.zero_mul, Nat.add_zero] at hs0
     subst et
     clear hbB htr0 et2
     by_cases hmq : m < q
     ·have HMQ := Lib.hid hmq
      clear hm
      go_wp2
      go_loopw [16, 17] (fun nx iv wi => ∃ i : Nat, i ≤ ls.length ∧ iv = .int .i64 i ∧ Hid (OwnIA wi W2.heap.size nx ((kidsC T ids m).take i)) ∧ Hid (Below W2.heap.size W2 wi)) (fun _ iv _ => ls.length - (intOf iv).toNat)
      case atStart => exact ⟨0, Nat.zero_le _, rfl, Lib.hid (OwnI.nil _ _ _), Lib.hid (Below.refl _ _)⟩
      case round =>
       obtain ⟨i, hi, rfl, HNX, HBI⟩ := hrel
       have hwi : wrap64 ((i : Int) + 1) = (i : Int) + 1 := by have := HQ.out; have := HTN.out.1; unfold wrap64; omega
       by_cases hil : i < ls.length
       ·have hkl := kidsC_len T ids m HO.out.1
        have hiT : i < T.length := by have := HTN.out; omega
        obtain ⟨k0, k1, k2⟩ := HO.out.2 i hiT
        obtain ⟨k3, k4⟩ := k2 (Nat.succ_pos _)
        have hTi := HTG.out i hil
        obtain ⟨kid, hkid⟩ : ∃ kid : Nat, ids.getD i 0 = kid := ⟨(ids.getD i 0).toNat, by omega⟩
        have hii : i < ids.length := by rw [HIL.out]; have := HTN.out.1; omega
        have hge : ids[i] = (kid : Int) := by rw [← hkid, List.getD_eq_getElem?_getD, List.getElem?_eq_getElem hii]; rfl
        have hidr : Ints wr fA ids := by have := (HL.out.f.ext HBI.out).ints; rw [HFH.out] at this; exact this
        obtain ⟨bi, oi, e1, hbi, hci⟩ := hidr.at_ hii
        rw [hge] at hci
        have hbB2 : Below B W0 wr := HBB.out.trans (HBI.out.mono HB2B.out)
        obtain ⟨tA2, tc2, et2, htr2⟩ := (HLT1.out.ext HBI.out).trs hbB2 HH0.out
        injection et2 with et2 et3 et4
        subst et2 et4
        obtain ⟨tb', tof', e2, htb2, -, -, ht2, -, hnd2⟩ := htr2.at_ hil
        injection e2 with e2
        injection e2 with e3 e4
        subst e3 e4
        rw [hkid, Int.toNat_natCast, hTi] at k3 k4
        have hkl2 : kid < (ls[i]).hs.length := by have := k3; unfold TrH.nds at this; rwa [List.length_map] at this
        obtain ⟨nb, no, e5, hnb, -, hn1, hzi⟩ := hnd2.at_ hkl2
        have hvi := HT.out.2 i hiT
        rw [hTi] at hvi
        have hnl := hvi.lev.len kid k3
        have hna : ndAt (ls[i]).nds kid = ((ls[i]).hs[kid]).nd := ndl_at _ hkl2
        rw [hna] at hnl
        change ((ls[i]).hs[kid]).zs.length = q at hnl
        have hjz : m < ((ls[i]).hs[kid]).zs.length := by rw [hnl]; exact HMQ.out
        obtain ⟨bz, oz, e6, hbz, hcz⟩ := hzi.at_ hjz
        have hkv : (kidsC T ids m).getD i 0 = ((ls[i]).hs[kid]).zs[m] := by
         rw [kidsC_at HO.out.1 m hiT, hTi, hkid, Int.toNat_natCast, hna]
         show ((ls[i]).hs[kid]).zs.getD m 0 = _
         rw [List.getD_eq_getElem?_getD, List.getElem?_eq_getElem hjz]
         rfl
        have htk : (kidsC T ids m).take (i + 1) = (kidsC T ids m).take i ++ [((ls[i]).hs[kid]).zs[m]] := by
         have h9 : i < (kidsC T ids m).length := by rw [hkl]; exact hiT
         rw [List.take_succ_eq_append_getElem h9, ← hkv, List.getD_eq_getElem?_getD, List.getElem?_eq_getElem h9]
         rfl
        obtain ⟨z, hz⟩ : ∃ z, z = ((ls[i]).hs[kid]).zs[m] := ⟨_, rfl⟩
        rw [← hz] at hcz htk
        rw [hnl] at hn1
        obtain ⟨hdn, hhdn⟩ : ∃ hdn, hdn = (ls[i]).hs.length := ⟨_, rfl⟩
        rw [← hhdn] at ht2 hkl2
        rw [e6] at hn1
        rw [e5] at ht2
        obtain ⟨zc, hzc⟩ : ∃ zc, zc = ((ls[i]).hs[kid]).c := ⟨_, rfl⟩
        rw [← hzc] at hn1
        obtain ⟨inc, hinc⟩ : ∃ inc, inc = (ls[i]).nc := ⟨_, rfl⟩
        rw [← hinc] at ht2
        subst e1
        obtain ⟨acc, hacc⟩ : ∃ acc, acc = (kidsC T ids m).take i := ⟨_, rfl⟩
        rw [← hacc] at htk HNX
        have HAL : Hid (acc.length < 1000000000000) := Lib.hid (by rw [hacc, List.length_take, hkl]; have := HTN.out; have := HQ.out; omega)
        have HTK := Lib.hid htk
        have HII := Lib.hid hii
        have HIL2 := Lib.hid hil
        have HX5 : Hid (wr.cell? ⟨tb, tof + i * 3 + 2, none⟩ = some (.slice (some ⟨nb, no, none⟩) hdn inc) ∧ tb < wr.heap.size) := Lib.hid ⟨ht2, htb2⟩
        have HX9 : Hid (wr.cell? ⟨bi, oi + i, none⟩ = some (.int .i64 (kid : Int)) ∧ bi < wr.heap.size) := Lib.hid ⟨hci, hbi⟩
        have HXC : Hid (wr.cell? ⟨nb, no + kid * 2 + 1, none⟩ = some (.slice (some ⟨bz, oz, none⟩) q zc) ∧ nb < wr.heap.size) := Lib.hid ⟨hn1, hnb⟩
        have HXF : Hid (wr.cell? ⟨bz, oz + m, none⟩ = some (.int .i64 z) ∧ bz < wr.heap.size) := Lib.hid ⟨hcz, hbz⟩
        have HKL2 := Lib.hid hkl2
        have HROW := HNX
        have HBS := Lib.hid HBI.out.size
        clear hkl hiT k0 k1 k2 k3 k4 hTi hge e6 e5 hz hhdn hzc hinc hnd2 hzi hvi hnl hna hjz hkv hkid hidr hci hbi hbB2 htr2 ht2 htb2 hnb hn1 hcz hbz hacc htk hi hkl2 hii et3
        go_upto_region 16 with fail
        refine wp_region_J (by kernel_rfl) (fun listed act w' => ∃ b0 b1 b2 b3 b4 b5 b6 b7 b8 b9 b10 b11 b12 b13 b14 b15 b16 b17 b18 v70 v71 v72 v73 v74 v75 v76 v77 v78 v79 v80 v81 v82 v83 v84 v85 v86 v87 v16, listed = #[b0, b1, b2, b3, b4, b5, b6, b7, b8, b9, b10, b11, b12, b13, b14, b15, b16, b17, b18] ∧ act = Act.mk #[.slice (some ⟨tb, tof, none⟩) ls.length lc, .slice (some ⟨bi, oi, none⟩) ids.length fc, .int .i64 lv, u3, u4, undef, undef, undef, undef, undef, u10, u11, u12, .int .i64 os.length, .pointer (some ⟨gX, 0, none⟩), .int .i64 m, v16, .int .i64 i, u18, .int .i64 lv, .bool false, undef, undef, undef, undef, undef, undef, undef, undef, undef, .int .i64 os.length, .slice nA os.length nc, .int .i64 os.length, .bool false, u34, u35, u36, u37, u38, u39, u40, u41, u42, u43, u44, u45, u46, u47, u48, u49, u50, u51, u52, u53, .int .i64 lv, .agg #[.int .i64 lv, .slice none 0 0], .int .i64 m, .slice (some ⟨tb, tof, none⟩) ls.length lc, .pointer (some ⟨tb, tof, none⟩), .pointer (some ⟨tb, tof, none⟩), .int .i64 q, .bool true, u62, u63, .int .i64 i, .slice (some ⟨tb, tof, none⟩) ls.length lc, .int .i64 ls.length, .bool true, u68, u69, v70, v71, v72, v73, v74, v75, v76, v77, v78, v79, v80, v81, v82, v83, v84, v85, v86, v87, u88, u89, u90, u91, u92, u93, u94, u95, u96, u97, u98, u99, u100, u101, u102, u103, u104, undef, undef, undef, undef, undef, undef, undef, undef, undef, undef, undef, undef, undef] [] ∧ RpA wr W2.heap.size acc u16 z tb tof ls.length lc bi oi ids.length fc nb no hdn inc bz oz q zc i kid m b0 b1 b2 b3 b4 b5 b6 b7 b8 b9 b10 b11 b12 b13 b14 b15 b16 b17 b18 v70 v71 v72 v73 v74 v75 v76 v77 v78 v79 v80 v81 v82 v83 v84 v85 v86 v87 v16 w') ?_ ?_ ?_
        ·exact ⟨_, _, _, _, _, _, _, _, _, _, _, _, _, _, _, _, _, _, _, _, _, _, _, _, _, _, _, _, _, _, _, _, _, _, _, _, _, _, rfl, rfl, ⟨(by simp), (by simp), (by simp), (by simp), (by simp), (by simp), (by simp), (by simp), (by simp), (by simp), (by simp), (by simp), (by simp), (by simp), (by simp), (by simp), (fun _ _ _ => rfl), (fun _ => rfl), (by simp), (by simp), (fun _ => rfl), (by simp), (by simp), (by simp), (by simp), (by simp), (by simp), (by simp), (by simp), (by simp), (by simp), (by simp), (by simp), (by simp), (by simp)⟩⟩
        ·rintro i listed act w' hi ⟨b0, b1, b2, b3, b4, b5, b6, b7, b8, b9, b10, b11, b12, b13, b14, b15, b16, b17, b18, v70, v71, v72, v73, v74, v75, v76, v77, v78, v79, v80, v81, v82, v83, v84, v85, v86, v87, v16, rfl, rfl, H⟩
         have hi16 : i < 19 := by
          obtain ⟨-, o, ho, -⟩ := mem_ready.1 hi
          exact (Array.getElem?_eq_some_iff.1 ho).1
         obtain rfl | rfl | rfl | rfl | rfl | rfl | rfl | rfl | rfl | rfl | rfl | rfl | rfl | rfl | rfl | rfl | rfl | rfl | rfl : i = 0 ∨ i = 1 ∨ i = 2 ∨ i = 3 ∨ i = 4 ∨ i = 5 ∨ i = 6 ∨ i = 7 ∨ i = 8 ∨ i = 9 ∨ i = 10 ∨ i = 11 ∨ i = 12 ∨ i = 13 ∨ i = 14 ∨ i = 15 ∨ i = 16 ∨ i = 17 ∨ i = 18 := by omega
         all_goals simp [mem_ready, Region.binds] at hi
         ·have bAf : b17 = false := by
           cases hb : b17 with
           | false => rfl
           | true => exact absurd (H.o17 hb).1 (by simp [hi])
          have hE : b18 = false := by
           cases hb : b18 with
           | false => rfl
           | true => exact absurd (H.oe hb) (by rw [bAf]; decide)
          obtain rfl := (H.hx hE).symm
          clear bAf hE
          refine wpOp_hidden rfl fun K hK => ?_
          go_wp2
          refine OnlyN.mk (hK.out _ _ ⟨true, _, _, _, _, _, _, _, _, _, _, _, _, _, _, _, _, _, _, u16, _, _, _, _, _, _, _, _, _, _, _, _, _, _, _, _, _, _, rfl, rfl, ⟨fun _ => rfl, H.h1, H.h2, H.h3, H.h4, H.h5, H.h6, H.h7, H.h8, H.h9, H.h10, H.h11, H.h12, H.h13, H.h14, H.h15, H.hk, H.wa, H.wb, H.wc, H.hx, H.he, H.oe, H.o3, H.o4, H.o5, H.o8, H.o9, H.o10, H.o11, H.o12, H.o14, H.o15, H.o16, fun h => ⟨rfl, (H.o17 h).2⟩⟩⟩)
         ·refine wpOp_hidden rfl fun K hK => ?_
          go_wp2
          refine OnlyN.mk (hK.out _ _ ⟨_, true, _, _, _, _, _, _, _, _, _, _, _, _, _, _, _, _, _, _, .slice (some ⟨tb, tof, none⟩) ls.length lc, _, _, _, _, _, _, _, _, _, _, _, _, _, _, _, _, _, rfl, rfl, ⟨H.h0, fun _ => rfl, H.h2, H.h3, H.h4, H.h5, H.h6, H.h7, H.h8, H.h9, H.h10, H.h11, H.h12, H.h13, H.h14, H.h15, H.hk, H.wa, H.wb, H.wc, H.hx, H.he, H.oe, fun h => ⟨rfl, (H.o3 h).2⟩, H.o4, H.o5, H.o8, H.o9, H.o10, H.o11, H.o12, H.o14, H.o15, H.o16, H.o17⟩⟩)
         ·refine wpOp_hidden rfl fun K hK => ?_
          go_wp2
          refine OnlyN.mk (hK.out _ _ ⟨_, _, true, _, _, _, _, _, _, _, _, _, _, _, _, _, _, _, _, _, _, .int .i64 (i : Int), _, _, _, _, _, _, _, _, _, _, _, _, _, _, _, _, rfl, rfl, ⟨H.h0, H.h1, fun _ => rfl, H.h3, H.h4, H.h5, H.h6, H.h7, H.h8, H.h9, H.h10, H.h11, H.h12, H.h13, H.h14, H.h15, H.hk, H.wa, H.wb, H.wc, H.hx, H.he, H.oe, fun h => ⟨(H.o3 h).1, rfl⟩, H.o4, H.o5, H.o8, H.o9, H.o10, H.o11, H.o12, H.o14, H.o15, H.o16, H.o17⟩⟩)
         ·obtain rfl := H.h1 (by simp [hi])
          obtain rfl := H.h2 (by simp [hi])
          have hx := HIL2.out
          refine wpOp_hidden rfl fun K hK => ?_
          go_wp2
          refine OnlyN.mk (hK.out _ _ ⟨_, _, _, true, _, _, _, _, _, _, _, _, _, _, _, _, _, _, _, _, _, _, .pointer (some ⟨tb, tof + i * 3, none⟩), _, _, _, _, _, _, _, _, _, _, _, _, _, _, _, rfl, rfl, ⟨H.h0, H.h1, H.h2, fun _ => rfl, H.h4, H.h5, H.h6, H.h7, H.h8, H.h9, H.h10, H.h11, H.h12, H.h13, H.h14, H.h15, H.hk, H.wa, H.wb, H.wc, H.hx, H.he, H.oe, fun _ => (by simp [hi]), fun h => rfl, H.o5, H.o8, H.o9, H.o10, H.o11, H.o12, H.o14, H.o15, H.o16, H.o17⟩⟩)
         ·obtain rfl := H.h3 (by simp [hi])
          refine wpOp_hidden rfl fun K hK => ?_
          go_wp2
          refine OnlyN.mk (hK.out _ _ ⟨_, _, _, _, true, _, _, _, _, _, _, _, _, _, _, _, _, _, _, _, _, _, _, .pointer (some ⟨tb, tof + i * 3 + 2, none⟩), _, _, _, _, _, _, _, _, _, _, _, _, _, _, rfl, rfl, ⟨H.h0, H.h1, H.h2, H.h3, fun _ => rfl, H.h5, H.h6, H.h7, H.h8, H.h9, H.h10, H.h11, H.h12, H.h13, H.h14, H.h15, H.hk, H.wa, H.wb, H.wc, H.hx, H.he, H.oe, H.o3, fun _ => (by simp [hi]), fun h => rfl, H.o8, H.o9, H.o10, H.o11, H.o12, H.o14, H.o15, H.o16, H.o17⟩⟩)
         ·have bAf : b17 = false := by
           cases hb : b17 with
           | false => rfl
           | true => exact absurd (H.o10 (H.o11 (H.o12 (H.o14 (H.o15 (H.o16 (H.o17 hb).2))).1))).1 (by simp [hi])
          obtain rfl := H.h4 (by simp [hi])
          have cc := (H.hk bAf ⟨tb, tof + i * 3 + 2, none⟩ HX5.out.2).trans HX5.out.1
          clear bAf
          refine wpOp_hidden rfl fun K hK => ?_
          go_wp2
          refine OnlyN.mk (hK.out _ _ ⟨_, _, _, _, _, true, _, _, _, _, _, _, _, _, _, _, _, _, _, _, _, _, _, _, .slice (some ⟨nb, no, none⟩) hdn inc, _, _, _, _, _, _, _, _, _, _, _, _, _, rfl, rfl, ⟨H.h0, H.h1, H.h2, H.h3, H.h4, fun _ => rfl, H.h6, H.h7, H.h8, H.h9, H.h10, H.h11, H.h12, H.h13, H.h14, H.h15, H.hk, H.wa, H.wb, H.wc, H.hx, H.he, H.oe, H.o3, H.o4, fun _ => (by simp [hi]), H.o8, H.o9, fun h => ⟨rfl, (H.o10 h).2⟩, H.o11, H.o12, H.o14, H.o15, H.o16, H.o17⟩⟩)
         ·refine wpOp_hidden rfl fun K hK => ?_
          go_wp2
          refine OnlyN.mk (hK.out _ _ ⟨_, _, _, _, _, _, true, _, _, _, _, _, _, _, _, _, _, _, _, _, _, _, _, _, _, .slice (some ⟨bi, oi, none⟩) ids.length fc, _, _, _, _, _, _, _, _, _, _, _, _, rfl, rfl, ⟨H.h0, H.h1, H.h2, H.h3, H.h4, H.h5, fun _ => rfl, H.h7, H.h8, H.h9, H.h10, H.h11, H.h12, H.h13, H.h14, H.h15, H.hk, H.wa, H.wb, H.wc, H.hx, H.he, H.oe, H.o3, H.o4, H.o5, fun h => ⟨rfl, (H.o8 h).2⟩, H.o9, H.o10, H.o11, H.o12, H.o14, H.o15, H.o16, H.o17⟩⟩)
         ·refine wpOp_hidden rfl fun K hK => ?_
          go_wp2
          refine OnlyN.mk (hK.out _ _ ⟨_, _, _, _, _, _, _, true, _, _, _, _, _, _, _, _, _, _, _, _, _, _, _, _, _, _, .int .i64 (i : Int), _, _, _, _, _, _, _, _, _, _, _, rfl, rfl, ⟨H.h0, H.h1, H.h2, H.h3, H.h4, H.h5, H.h6, fun _ => rfl, H.h8, H.h9, H.h10, H.h11, H.h12, H.h13, H.h14, H.h15, H.hk, H.wa, H.wb, H.wc, H.hx, H.he, H.oe, H.o3, H.o4, H.o5, fun h => ⟨(H.o8 h).1, rfl⟩, H.o9, H.o10, H.o11, H.o12, H.o14, H.o15, H.o16, H.o17⟩⟩)
         ·obtain rfl := H.h6 (by simp [hi])
          obtain rfl := H.h7 (by simp [hi])
          have hx := HII.out
          refine wpOp_hidden rfl fun K hK => ?_
          go_wp2
          refine OnlyN.mk (hK.out _ _ ⟨_, _, _, _, _, _, _, _, true, _, _, _, _, _, _, _, _, _, _, _, _, _, _, _, _, _, _, .pointer (some ⟨bi, oi + i, none⟩), _, _, _, _, _, _, _, _, _, _, rfl, rfl, ⟨H.h0, H.h1, H.h2, H.h3, H.h4, H.h5, H.h6, H.h7, fun _ => rfl, H.h9, H.h10, H.h11, H.h12, H.h13, H.h14, H.h15, H.hk, H.wa, H.wb, H.wc, H.hx, H.he, H.oe, H.o3, H.o4, H.o5, fun _ => (by simp [hi]), fun h => rfl, H.o10, H.o11, H.o12, H.o14, H.o15, H.o16, H.o17⟩⟩)
         ·have bAf : b17 = false := by
           cases hb : b17 with
           | false => rfl
           | true => exact absurd (H.o10 (H.o11 (H.o12 (H.o14 (H.o15 (H.o16 (H.o17 hb).2))).1))).2 (by simp [hi])
          obtain rfl := H.h8 (by simp [hi])
          have cc := (H.hk bAf ⟨bi, oi + i, none⟩ HX9.out.2).trans HX9.out.1
          clear bAf
          refine wpOp_hidden rfl fun K hK => ?_
          go_wp2
          refine OnlyN.mk (hK.out _ _ ⟨_, _, _, _, _, _, _, _, _, true, _, _, _, _, _, _, _, _, _, _, _, _, _, _, _, _, _, _, .int .i64 (kid : Int), _, _, _, _, _, _, _, _, _, rfl, rfl, ⟨H.h0, H.h1, H.h2, H.h3, H.h4, H.h5, H.h6, H.h7, H.h8, fun _ => rfl, H.h10, H.h11, H.h12, H.h13, H.h14, H.h15, H.hk, H.wa, H.wb, H.wc, H.hx, H.he, H.oe, H.o3, H.o4, H.o5, H.o8, fun _ => (by simp [hi]), fun h => ⟨(H.o10 h).1, rfl⟩, H.o11, H.o12, H.o14, H.o15, H.o16, H.o17⟩⟩)
         ·obtain rfl := H.h5 (by simp [hi])
          obtain rfl := H.h9 (by simp [hi])
          have hx := HKL2.out
          refine wpOp_hidden rfl fun K hK => ?_
          go_wp2
          refine OnlyN.mk (hK.out _ _ ⟨_, _, _, _, _, _, _, _, _, _, true, _, _, _, _, _, _, _, _, _, _, _, _, _, _, _, _, _, _, .pointer (some ⟨nb, no + kid * 2, none⟩), _, _, _, _, _, _, _, _, rfl, rfl, ⟨H.h0, H.h1, H.h2, H.h3, H.h4, H.h5, H.h6, H.h7, H.h8, H.h9, fun _ => rfl, H.h11, H.h12, H.h13, H.h14, H.h15, H.hk, H.wa, H.wb, H.wc, H.hx, H.he, H.oe, H.o3, H.o4, H.o5, H.o8, H.o9, fun _ => (by simp [hi]), fun h => rfl, H.o12, H.o14, H.o15, H.o16, H.o17⟩⟩)
         ·obtain rfl := H.h10 (by simp [hi])
          refine wpOp_hidden rfl fun K hK => ?_
          go_wp2
          refine OnlyN.mk (hK.out _ _ ⟨_, _, _, _, _, _, _, _, _, _, _, true, _, _, _, _, _, _, _, _, _, _, _, _, _, _, _, _, _, _, .pointer (some ⟨nb, no + kid * 2 + 1, none⟩), _, _, _, _, _, _, _, rfl, rfl, ⟨H.h0, H.h1, H.h2, H.h3, H.h4, H.h5, H.h6, H.h7, H.h8, H.h9, H.h10, fun _ => rfl, H.h12, H.h13, H.h14, H.h15, H.hk, H.wa, H.wb, H.wc, H.hx, H.he, H.oe, H.o3, H.o4, H.o5, H.o8, H.o9, H.o10, fun _ => (by simp [hi]), fun h => rfl, H.o14, H.o15, H.o16, H.o17⟩⟩)
         ·have bAf : b17 = false := by
           cases hb : b17 with
           | false => rfl
           | true => exact absurd (H.o14 (H.o15 (H.o16 (H.o17 hb).2))).1 (by simp [hi])
          obtain rfl := H.h11 (by simp [hi])
          have cc := (H.hk bAf ⟨nb, no + kid * 2 + 1, none⟩ HXC.out.2).trans HXC.out.1
          clear bAf
          refine wpOp_hidden rfl fun K hK => ?_
          go_wp2
          refine OnlyN.mk (hK.out _ _ ⟨_, _, _, _, _, _, _, _, _, _, _, _, true, _, _, _, _, _, _, _, _, _, _, _, _, _, _, _, _, _, _, .slice (some ⟨bz, oz, none⟩) q zc, _, _, _, _, _, _, rfl, rfl, ⟨H.h0, H.h1, H.h2, H.h3, H.h4, H.h5, H.h6, H.h7, H.h8, H.h9, H.h10, H.h11, fun _ => rfl, H.h13, H.h14, H.h15, H.hk, H.wa, H.wb, H.wc, H.hx, H.he, H.oe, H.o3, H.o4, H.o5, H.o8, H.o9, H.o10, H.o11, fun _ => (by simp [hi]), fun h => ⟨rfl, (H.o14 h).2⟩, H.o15, H.o16, H.o17⟩⟩)
         ·refine wpOp_hidden rfl fun K hK => ?_
          go_wp2
          refine OnlyN.mk (hK.out _ _ ⟨_, _, _, _, _, _, _, _, _, _, _, _, _, true, _, _, _, _, _, _, _, _, _, _, _, _, _, _, _, _, _, _, .int .i64 (m : Int), _, _, _, _, _, rfl, rfl, ⟨H.h0, H.h1, H.h2, H.h3, H.h4, H.h5, H.h6, H.h7, H.h8, H.h9, H.h10, H.h11, H.h12, fun _ => rfl, H.h14, H.h15, H.hk, H.wa, H.wb, H.wc, H.hx, H.he, H.oe, H.o3, H.o4, H.o5, H.o8, H.o9, H.o10, H.o11, H.o12, fun h => ⟨(H.o14 h).1, rfl⟩, H.o15, H.o16, H.o17⟩⟩)
         ·obtain rfl := H.h12 (by simp [hi])
          obtain rfl := H.h13 (by simp [hi])
          have hx := HMQ.out
          refine wpOp_hidden rfl fun K hK => ?_
          go_wp2
          refine OnlyN.mk (hK.out _ _ ⟨_, _, _, _, _, _, _, _, _, _, _, _, _, _, true, _, _, _, _, _, _, _, _, _, _, _, _, _, _, _, _, _, _, .pointer (some ⟨bz, oz + m, none⟩), _, _, _, _, rfl, rfl, ⟨H.h0, H.h1, H.h2, H.h3, H.h4, H.h5, H.h6, H.h7, H.h8, H.h9, H.h10, H.h11, H.h12, H.h13, fun _ => rfl, H.h15, H.hk, H.wa, H.wb, H.wc, H.hx, H.he, H.oe, H.o3, H.o4, H.o5, H.o8, H.o9, H.o10, H.o11, H.o12, fun _ => (by simp [hi]), fun h => rfl, H.o16, H.o17⟩⟩)
         ·have bAf : b17 = false := by
           cases hb : b17 with
           | false => rfl
           | true => exact absurd (H.o16 (H.o17 hb).2) (by simp [hi])
          obtain rfl := H.h14 (by simp [hi])
          have cc := (H.hk bAf ⟨bz, oz + m, none⟩ HXF.out.2).trans HXF.out.1
          clear bAf
          refine wpOp_hidden rfl fun K hK => ?_
          go_wp2
          refine OnlyN.mk (hK.out _ _ ⟨_, _, _, _, _, _, _, _, _, _, _, _, _, _, _, true, _, _, _, _, _, _, _, _, _, _, _, _, _, _, _, _, _, _, .int .i64 z, _, _, _, rfl, rfl, ⟨H.h0, H.h1, H.h2, H.h3, H.h4, H.h5, H.h6, H.h7, H.h8, H.h9, H.h10, H.h11, H.h12, H.h13, H.h14, fun _ => rfl, H.hk, H.wa, H.wb, H.wc, H.hx, H.he, H.oe, H.o3, H.o4, H.o5, H.o8, H.o9, H.o10, H.o11, H.o12, H.o14, fun _ => (by simp [hi]), fun h => rfl, H.o17⟩⟩)
         ·have bAf : b17 = false := by
           cases hb : b17 with
           | false => rfl
           | true => exact absurd (H.o17 hb).2 (by simp [hi])
          obtain rfl := H.h15 (by simp [hi])
          have hw := H.wa (by simp [hi])
          have hA := bAf
          subst hw
          clear bAf
          refine wpOp_hidden rfl fun K hK => ?_
          go_wp2
          refine OnlyN.mk (hK.out _ _ ⟨_, _, _, _, _, _, _, _, _, _, _, _, _, _, _, _, true, _, _, _, _, _, _, _, _, _, _, _, _, _, _, _, _, _, _, .slice (some ⟨wr.heap.size, 0, none⟩) 1 1, _, _, rfl, rfl, ⟨H.h0, H.h1, H.h2, H.h3, H.h4, H.h5, H.h6, H.h7, H.h8, H.h9, H.h10, H.h11, H.h12, H.h13, H.h14, H.h15, fun _ p hp => World.cell?_alloc_lt wr _ p hp, fun h => (by cases h), fun _ _ => ⟨rfl, rfl⟩, fun h => absurd h (by rw [hA]; decide), H.hx, H.he, H.oe, H.o3, H.o4, H.o5, H.o8, H.o9, H.o10, H.o11, H.o12, H.o14, H.o15, fun _ => (by simp [hi]), fun h => ⟨(H.o17 h).1, rfl⟩⟩⟩)
         ·obtain rfl := (H.h0 (by simp [hi])).symm
          obtain ⟨hv, hw⟩ := H.wb (by simp [hi]) (by simp [hi])
          have hE : b18 = false := by
           cases hb : b18 with
           | false => rfl
           | true => exact absurd (H.oe hb) (by simp [hi])
          obtain ⟨Vd, hVd⟩ : ∃ Vd, Vd = World.drew wr := ⟨_, rfl⟩
          have hsz : wr.heap.size = Vd.heap.size := by rw [hVd]; rfl
          rw [← hVd] at hw
          rw [hsz] at hv
          subst hw
          subst hv
          have hown : OwnIA Vd W2.heap.size u16 acc := by rw [hVd]; exact HROW.out
          have hal := HAL.out
          have hws : W2.heap.size ≤ Vd.heap.size := by rw [← hsz]; exact HBS.out
          have HVD := Lib.hid hVd
          clear hVd hsz
          refine wpOp_hidden rfl fun K hK => ?_
          refine wpList_pushI rfl _ _ _ rfl W2.heap.size 3 Tryd.underlying31 Tryd.infoInt _ _ rfl hown _ rfl hal hws ?_
          intro xv' w6 ho6 hb6
          obtain ⟨xA', xc', hxv', -, -⟩ := ho6.ints
          rw [List.length_append, List.length_singleton] at hxv'
          subst hxv'
          have HO6 := Lib.hid ho6
          have HB6 : Hid (Below W2.heap.size wr w6) := Lib.hid (by have h1 := hb6; rw [HVD.out] at h1; exact (Below.refl _ wr).drew.trans h1)
          clear ho6 hb6 hown hal hws
          go_wp2
          refine OnlyN.mk (hK.out _ _ ⟨_, _, _, _, _, _, _, _, _, _, _, _, _, _, _, _, _, true, _, _, _, _, _, _, _, _, _, _, _, _, _, _, _, _, _, _, .slice xA' (acc.length + 1) xc', _, rfl, rfl, ⟨H.h0, H.h1, H.h2, H.h3, H.h4, H.h5, H.h6, H.h7, H.h8, H.h9, H.h10, H.h11, H.h12, H.h13, H.h14, H.h15, fun h => (by cases h), fun h => absurd h (by simp [hi]), fun _ h => (by cases h), fun _ => ⟨_, _, rfl, HO6.out, HB6.out⟩, H.hx, fun h => absurd h (by rw [hE]; decide), fun _ => rfl, H.o3, H.o4, H.o5, H.o8, H.o9, H.o10, H.o11, H.o12, H.o14, H.o15, H.o16, fun _ => (by simp [hi])⟩⟩)
         ·obtain ⟨xA', xc', hv, ho6, hb6⟩ := H.wc (by simp [hi])
          subst hv
          clear ho6 hb6
          refine wpOp_hidden rfl fun K hK => ?_
          go_wp2
          refine OnlyN.mk (hK.out _ _ ⟨_, _, _, _, _, _, _, _, _, _, _, _, _, _, _, _, _, _, true, _, _, _, _, _, _, _, _, _, _, _, _, _, _, _, _, _, _, .slice xA' (acc.length + 1) xc', rfl, rfl, ⟨H.h0, H.h1, H.h2, H.h3, H.h4, H.h5, H.h6, H.h7, H.h8, H.h9, H.h10, H.h11, H.h12, H.h13, H.h14, H.h15, H.hk, H.wa, H.wb, H.wc, fun h => (by cases h), fun _ => rfl, fun _ => (by simp [hi]), H.o3, H.o4, H.o5, H.o8, H.o9, H.o10, H.o11, H.o12, H.o14, H.o15, H.o16, H.o17⟩⟩)
        ·rintro listed act w' hr ⟨b0, b1, b2, b3, b4, b5, b6, b7, b8, b9, b10, b11, b12, b13, b14, b15, b16, b17, b18, v70, v71, v72, v73, v74, v75, v76, v77, v78, v79, v80, v81, v82, v83, v84, v85, v86, v87, v16, rfl, rfl, H⟩
         have hn := List.eq_nil_iff_forall_not_mem.1 hr
         have r0 := hn 0
         simp [mem_ready, Region.binds] at r0
         subst r0
         have r1 := hn 1
         simp [mem_ready, Region.binds] at r1
         subst r1
         have r2 := hn 2
         simp [mem_ready, Region.binds] at r2
         subst r2
         have r3 := hn 3
         simp [mem_ready, Region.binds] at r3
         subst r3
         have r4 := hn 4
         simp [mem_ready, Region.binds] at r4
         subst r4
         have r5 := hn 5
         simp [mem_ready, Region.binds] at r5
         subst r5
         have r6 := hn 6
         simp [mem_ready, Region.binds] at r6
         subst r6
         have r7 := hn 7
         simp [mem_ready, Region.binds] at r7
         subst r7
         have r8 := hn 8
         simp [mem_ready, Region.binds] at r8
         subst r8
         have r9 := hn 9
         simp [mem_ready, Region.binds] at r9
         subst r9
         have r10 := hn 10
         simp [mem_ready, Region.binds] at r10
         subst r10
         have r11 := hn 11
         simp [mem_ready, Region.binds] at r11
         subst r11
         have r12 := hn 12
         simp [mem_ready, Region.binds] at r12
         subst r12
         have r13 := hn 13
         simp [mem_ready, Region.binds] at r13
         subst r13
         have r14 := hn 14
         simp [mem_ready, Region.binds] at r14
         subst r14
         have r15 := hn 15
         simp [mem_ready, Region.binds] at r15
         subst r15
         have r16 := hn 16
         simp [mem_ready, Region.binds] at r16
         subst r16
         have r17 := hn 17
         simp [mem_ready, Region.binds] at r17
         subst r17
         have r18 := hn 18
         simp [mem_ready, Region.binds] at r18
         subst r18
         try dsimp only
         obtain ⟨X, c, hv, ho, hb⟩ := H.wc rfl
         subst hv
         obtain rfl := H.he rfl
         have HNX2 : Hid (OwnIA w' W2.heap.size (.slice X (acc.length + 1) c) ((kidsC T ids m).take (i + 1))) := Lib.hid (by rw [HTK.out]; exact ho)
         have HB2 := Lib.hid (HBI.out.trans hb)
         clear H hr hn ho hb
         go_wp2
         go_roundw
         case rel => exact ⟨i + 1, HIL2.out, (by first | rfl | (rw [hwi]; rfl)), HNX2, HB2⟩
         case measure => (try rw [hwi]); exact meas_step HIL2.out
       ·have hie : i = ls.length := Nat.le_antisymm hi (Nat.le_of_not_lt hil)
        have hrow := HNX.out
        have hkl := kidsC_len T ids m HO.out.1
        have hlT : (kidsC T ids m).length = ls.length := by rw [hkl]; have := HTN.out; omega
        rw [hie, List.take_of_length_le (Nat.le_of_eq hlT)] at hrow
        obtain ⟨gA, gc, egv, -, -⟩ := hrow.ints
        subst egv
        obtain ⟨gh, hgh⟩ : ∃ gh, gh = (⟨gA, kidsC T ids m, gc⟩ : KyH) := ⟨_, rfl⟩
        have hK1 : KI B gh wr := by rw [hgh]; exact hrow.down HB2B.out
        have hgn : ∀ g, kyBlk gh g → W2.heap.size ≤ g := fun g hg => by rw [hgh] at hg; exact (own_lt' hrow hg).2
        have hokk := HO.out.kids HT.out HMQ.out
        have hsz1 : os1.length + cap 8 n ≤ 20000000000 := by
         have h1 := HSZ.out
         have h2 := HSZ1.out
         have h3 : (m + 1) * cap 8 n ≤ 8 * cap 8 n := Nat.mul_le_mul_right _ (by have := HMQ.out; have := HQ.out; omega)
         rw [Nat.succ_mul] at h3
         rw [show cap 8 (n + 1) = 8 * cap 8 n + 1 from rfl] at h1
         omega
        have hxi : RI T q (ts1.map KyH.zs, os1.map Hd.nd) := by rw [HEQ.out]; exact HXI.out
        have hcall := HIH.out gh u3 u4 ts1 os1 wr (by rw [hgh]; exact hokk) (Nat.le_of_succ_le HN.out) (HL.out.wk.ext HBI.out) hK1 (HLT1.out.ext HBI.out) (HBB.out.trans (HBI.out.mono HB2B.out)) (Nat.le_trans HB2B.out HBI.out.size) hxi hsz1
        have HCALL := Lib.hid hcall
        have HXG := Lib.hid (prodR_ok HT.out n (kidsC T ids m) (kR T q n ids s0 m).2 hokk HXI.out)
        have HSM : Hid (kR T q n ids s0 (m + 1) = ((kR T q n ids s0 m).1 ++ [(prodR T q n (kidsC T ids m) (kR T q n ids s0 m).2).1], (prodR T q n (kidsC T ids m) (kR T q n ids s0 m).2).2)) := Lib.hid rfl
        have HGZ : Hid (gh.zs = kidsC T ids m) := Lib.hid (by rw [hgh])
        have HGN := Lib.hid hgn
        have hwl := HWL.out
        rw [hgh] at HCALL
        have HGH := Lib.hid hgh
        dsimp only at HCALL
        clear hie hrow hkl hlT hgh hK1 hgn hokk hsz1 hxi hcall hi hwi
        go_wp2_with (go_at_call 49; refine HCALL.out.mono ?_; intro e w5 hx9; obtain ⟨kv2, ov2, ts2, os2, rfl, hc5, he5⟩ := hx9; refine Hid.out ?_)
        refine Lib.hid ?_
        clear hil
        rw [← HGH.out] at hc5
        have HL5 := Lib.hid (HL.out.call HBI.out HGN.out hc5)
        have HLT5 := Lib.hid ((HLT1.out.ext HBI.out).kept (HL.out.wk.ext HBI.out) hc5.kp)
        rw [HEQ.out] at he5 ⊢
        obtain ⟨acc, hacc⟩ : ∃ acc, acc = (kR T q n ids s0 m).1 := ⟨_, rfl⟩
        obtain ⟨id, hid⟩ : ∃ id, id = (prodR T q n (kidsC T ids m) (kR T q n ids s0 m).2).1 := ⟨_, rfl⟩
        rw [← hid] at HSM ⊢
        rw [← hacc] at HSM HL5 HAL0
        have HSZ5 : Hid (os2.length ≤ os.length + (m + 1) * cap 8 n) := Lib.hid (by
         have h1 := HXG.out.size
         rw [← he5, ← HEQ.out] at h1
         simp only [List.length_map] at h1
         have h2 := HSZ1.out
         have h3 := cap_mono (q := q) (q' := 8) HQ.out.2 n n (Nat.le_refl _)
         rw [Nat.succ_mul]
         omega)
        have HXI5 : Hid (RI T q (kR T q n ids s0 (m + 1)).2) := Lib.hid (by rw [HSM.out]; exact HXG.out.i)
        have HEQ5 : Hid ((ts2.map KyH.zs, os2.map Hd.nd) = (kR T q n ids s0 (m + 1)).2) := Lib.hid (by rw [HSM.out]; exact he5)
        have HAL5 : Hid ((kR T q n ids s0 (m + 1)).1.length = m + 1) := Lib.hid (by rw [HSM.out]; simp [HAL0.out])
        have hown := HL5.out.R
        have hal : acc.length < 1000000000000 := by have := HAL0.out; have := HMQ.out; have := HQ.out; omega
        have hws : w1.heap.size ≤ w5.heap.size := HL5.out.kp.below.size
        have hx5 := HL5.out.G.cell_ 1 xv rfl
        clear hwl HCALL hc5 he5 hacc hid HXG
        go_wp2_with (at_builtin; refine wpList_pushIk rfl _ _ _ rfl w1.heap.size 3 Tryd.underlying31 Tryd.infoInt _ _ rfl hown _ rfl hal hws ?_)
        intro xv' w6 ho6 hk6 hm6
        obtain ⟨xA', xc', hxv', -, -⟩ := ho6.ints
        rw [List.length_append, List.length_singleton] at hxv'
        subst hxv'
        have hG6 := hk6.blk HL5.out.G (own_blk_ne' HL5.out.R HL5.out.G (by decide))
        have hx6 := hG6.cell_ 1 xv rfl
        have hf6 := hG6.frozen 1
        have HL7 := Lib.hid (HL5.out.push ho6 hk6 hm6)
        have HLT7 := Lib.hid (HLT5.out.push HL5.out hk6 (.slice xA' (acc.length + 1) xc'))
        clear ho6 hk6 hm6 hG6 hown hal hws hx5
        go_wp2
        go_roundw
        case rel => exact ⟨m + 1, ts2, os2, _, HMQ.out, (by first | rfl | (rw [hwm]; rfl)), Lib.hid (by rw [HSM.out]; exact HL7.out), HEQ5, HXI5, HSZ5, HAL5, HLT7⟩
        case measure => (try rw [hwm]); exact meas_step HMQ.out
     ·have hme : m = q := Nat.le_antisymm hm (Nat.le_of_not_lt hmq)
      have hBr : B ≤ W2.heap.size := HB2B.out
      obtain ⟨acc, hacc⟩ : ∃ acc, acc = (kR T q n ids s0 m).1 := ⟨_, rfl⟩
      have HACC := Lib.hid hacc
      rw [← hacc] at HL HAL0
      obtain ⟨xA, xc, exv, -, -⟩ := HL.out.R.ints
      subst exv
      have htl : ts1.length = os1.length := by
       have h1 := HXI.out.len
       rw [← HEQ.out] at h1
       simpa using h1
      have hosl : os1.length ≤ 20000000000 := by
       have h1 := HSZ.out
       have h2 := HSZ1.out
       have h3 : m * cap 8 n ≤ 8 * cap 8 n := Nat.mul_le_mul_right _ (by have := HQ.out; omega)
       rw [show cap 8 (n + 1) = 8 * cap 8 n + 1 from rfl] at h1
       omega
      have hlk : (ts1.map KyH.val).length < 1000000000000 := by rw [List.length_map]; omega
      have hln : os1.length < 1000000000000 := by omega
      have hap : 0 < acc.length := by rw [HAL0.out, hme]; have := HQ.out; omega
      have HAP2 := Lib.hid hap
      have HOSL := Lib.hid hosl
      have HME := Lib.hid hme
      have hrow : W2.ownsRow B 31 1 u3 (ts1.map KyH.val).length (ts1.map KyH.val) := by rw [List.length_map]; exact HL.out.wk.krow
      clear hacc htl hosl hap hme hm
      go_wp2_with (at_builtin; refine wpList_pushS rfl _ _ _ rfl B 31 Tryd.underlying72 Tryd.infoInts _ _ rfl hrow fA ids.length fc rfl hlk hBr ?_)
      intro kv' w6 ho6 hk6 hm6
      obtain ⟨S6, K6, M6, G6, R6, N6⟩ := HL.out.key (by rw [HFH.out]; simpa [KyH.val] using ho6) hk6 hm6
      have hs6 := hk6.below.size
      have x0 := G6.cell_ 0 (.int .i64 lv) rfl
      have x1 := G6.cell_ 1 (.slice xA acc.length xc) rfl
      have hI6 : OwnIA w6 B (.slice xA acc.length xc) acc := own_down R6 HB1B.out
      have hout := S6.out
      have hws : B ≤ w6.heap.size := Nat.le_trans hBr hs6
      have HS6 := Lib.hid S6
      have HK6 := Lib.hid K6
      have HM6 := Lib.hid M6
      have HN6 := Lib.hid N6
      have HSS6 := Lib.hid hs6
      clear ho6 hk6 hm6 S6 K6 M6 G6 R6 N6 hs6 hs0 htb hrow hlk hBr
      go_wp2_with (at_builtin; refine wpList_pushN rfl _ _ _ rfl B 53 3 (by decide) Tryd.underlying23 Tryd.infoNode _ _ rfl hout _ _ _ _ hI6 rfl hln hws ?_)
      intro v9 w9 hN9 hk9 hm9
      have HC := Lib.hid ((HL.out.fin rfl HAP2.out HS6.out HK6.out HM6.out HN6.out HSS6.out hN9 hk9 hm9).pre HBR.out)
      obtain ⟨oA9, oc9, e9, -, -⟩ := hN9.nds
      obtain ⟨n9, hn9⟩ : ∃ n9, n9 = (os1 ++ [(⟨lv, xA, xc, acc⟩ : Hd)]).length := ⟨_, rfl⟩
      rw [← hn9] at e9
      have hw9 : wrap64 ((n9 : Int) - 1) = (os1.length : Int) := by rw [hn9]; have := HOSL.out; simp only [List.length_append, List.length_singleton]; unfold wrap64; omega
      have HK0 : Hid ((kR T q n ids s0 q).1 = acc ∧ (kR T q n ids s0 q).2 = (ts1.map KyH.zs, os1.map Hd.nd)) := Lib.hid (by have h1 := HACC.out; have h2 := HEQ.out; rw [HME.out] at h1 h2; exact ⟨h1.symm, h2.symm⟩)
      subst e9
      clear hN9 hk9 hm9 hn9 x0 x1 hI6 hout hws hln
      go_wp2
      go_ret3
      refine ⟨kv', _, ts1 ++ [fh], os1 ++ [⟨lv, xA, xc, acc⟩], ?_, HC.out, ?_⟩
      ·rw [HIDS.out, HEX.out, HK0.out.2]
       show Ending.returned (.tuple #[.int .i64 (wrap64 ((n9 : Int) - 1)), kv', .slice oA9 n9 oc9]) = _
       rw [hw9]
       simp only [List.length_map]
      ·rw [HIDS.out, HEX.out, HK0.out.1, HK0.out.2]
       simp only [List.map_append, List.map_cons, List.map_nil, HIDS.out]
       first | rfl | done
end Go.Proofs.YtojnnfihpiegoaaDoor
namespace Go.Proofs.YtojnnfihpiegoaaDoor
open Go.RowKit Go.Maps
set_option maxRecDepth 100000
set_option linter.unusedVariables false
set_option linter.unusedSimpArgs false

theorem roots_take (all : List TrH) {i : Nat} (hi : i < all.length) : ((all.map TrH.pt).map rootOf).take (i + 1) = ((all.map TrH.pt).map rootOf).take i ++ [((all[i]).hs.length : Int) - 1] := by
 rw [List.take_succ_eq_append_getElem (by simpa using hi)]
 simp [rootOf, TrH.pt]
set_option maxHeartbeats 32000000 in
theorem rchoose_any (st : Int) (A : Option Addr) (c : Nat) (ps : List (Int × Int)) (B : Option Addr) (d : Nat) (hs : List Hd) (lA : Option Addr) (lc : Nat) (ls : List TrH) (w : World) (hp : Pts w A ps) (hN : Nds w B hs) (hls : Trs w lA ls) (hll : ls.length ≤ 9) (hn12 : hs.length ≤ 12) :
  Calls Tryd.prog 23 #[.agg #[.int .i64 st, .slice A ps.length c, .slice B hs.length d], .slice lA ls.length lc] w (RetAE (rchooseT ⟨st, ps, hs.map Hd.nd⟩ (ls.map TrH.pt)) w) := by
 obtain ⟨w0, hw0⟩ : ∃ w0, w0 = (w.alloc (.cells #[.int .i64 st, .slice A ps.length c, .slice B hs.length d] 25)).alloc (.cells #[.int .i64 0, .slice none 0 0, .slice none 0 0] 25) := ⟨_, rfl⟩
 have hb1' := below_new w (.cells #[.int .i64 st, .slice A ps.length c, .slice B hs.length d] 25)
 have hbw0 : Below w.heap.size w w0 := by rw [hw0]; exact hb1'.alloc hb1'.size _
 have p0 : Blk w0 w.heap.size 25 #[.int .i64 st, .slice A ps.length c, .slice B hs.length d] := by rw [hw0]; exact (Blk.new w _ _).alloc _
 have q0 : Blk w0 (w.heap.size + 1) 25 #[.int .i64 0, .slice none 0 0, .slice none 0 0] := by
  rw [hw0]
  have := Blk.new (w.alloc (.cells #[.int .i64 st, .slice A ps.length c, .slice B hs.length d] 25)) 25 #[.int .i64 0, .slice none 0 0, .slice none 0 0]
  simpa using this
 obtain ⟨bT, hbT⟩ : ∃ bT : TrH, bT = ⟨st, A, ps, c, B, hs, d⟩ := ⟨_, rfl⟩
 have hbpt : bT.pt = ⟨st, ps, hs.map Hd.nd⟩ := by rw [hbT]; rfl
 obtain ⟨res, hres⟩ : ∃ res, res = rchooseT ⟨st, ps, hs.map Hd.nd⟩ (ls.map TrH.pt) := ⟨_, rfl⟩
 rw [← hres]
 unfold rchooseT at hres
 rw [← hbpt, show bT.pt :: ls.map TrH.pt = (bT :: ls).map TrH.pt from rfl] at hres
 have hts : Trs w0 lA ls := hls.ext hbw0
 have HLS := Lib.hid hts
 have HRES := Lib.hid hres
 have HBT := Lib.hid hbT
 have HPO := Lib.hid hp
 have HP := Lib.hid (hp.ext hbw0)
 have HN := Lib.hid (hN.ext hbw0)
 have HB0 := Lib.hid hbw0
 have HP0 := Lib.hid p0
 have HQ0 := Lib.hid q0
 have HW0 := Lib.hid hw0
 have HLL := Lib.hid hll
 have HN12 := Lib.hid hn12
 have hpre : Reads w0 w0.heap.size 3 lA ls.length (ls.flatMap TrH.cells) := hts.1
 have hone : ∀ u ∈ ls.flatMap TrH.cells, u.oneCell' = true := by
  intro u hu
  obtain ⟨t, -, ht⟩ := List.mem_flatMap.1 hu
  simp only [TrH.cells, List.mem_cons, List.not_mem_nil, or_false] at ht
  rcases ht with rfl | rfl | rfl <;> rfl
 have HONE := Lib.hid hone
 obtain ⟨i0, hi0, hz0, hz1, hz2⟩ := info_parts Tryd.infoTree
 obtain ⟨w1, hw1⟩ : ∃ w1, w1 = w0.alloc (.cells #[.int .i64 st, .slice A ps.length c, .slice B hs.length d] 25) := ⟨_, rfl⟩
 have hown1 : w1.ownsRow w0.heap.size 25 3 (.slice (some ⟨w0.heap.size, 0, none⟩) 1 1) 1 bT.cells := by
  rw [hw1, hbT]
  exact World.ownsRow_lit (base := w0.heap.size) (e := 25) (size := 3) w0 #[.int .i64 st, .slice A ps.length c, .slice B hs.length d] 1 (Nat.le_refl _) (by decide) rfl
 have hb01 : Below w0.heap.size w0 w1 := by rw [hw1]; exact below_new _ _
 have hr1 : Reads w1 w1.heap.size 3 lA ls.length (ls.flatMap TrH.cells) := (Reads.below hpre hb01).more hb01.size
 have hsz1 : w0.heap.size ≤ w1.heap.size := hb01.size
 have hm1 : 1 + ls.length ≤ maxLen := by unfold maxLen; omega
 have hm2 : (1 + ls.length) * 56 ≤ 140737488355328 := by omega
 have HB01 := Lib.hid hb01
 have HW1 := Lib.hid hw1
 have c0 := p0.cell_ 0 (.int .i64 st) rfl
 have c1 := p0.cell_ 1 (.slice A ps.length c) rfl
 have c2 := p0.cell_ 2 (.slice B hs.length d) rfl
 clear hb1' hbw0 p0 q0 hw0 hp hN hls hts hpre hone hbT hres hbpt hw1 hb01 hn12
 go_enter Tryd.func23, Tryd.ntmps23
 go_upto_region 1 with fail
 rw [← HW0.out]
 clear hll
 go_wp2_with (at_builtin; rw [← HW1.out]; refine wpList_append_any w1 rfl _ _ _ rfl w0.heap.size 25 i0 _ 3 56 Tryd.underlying38 hi0 hz0 hz1 hz2 rfl (by decide) _ 1 _ rfl hown1 w1.heap.size lA ls.length lc _ rfl hr1 HONE.out hm1 hm2 hsz1 ?_)
 intro v2 w2 hown2 hg2 hat2
 have hb12 : Below w0.heap.size w0 w2 := HB01.out.trans ((Below.refl w0.heap.size w1).grown hg2 HB01.out.size (fun k hk => by injection hk with hk; rw [← hk]; exact Nat.le_refl _))
 have HB2 := Lib.hid hb12
 obtain ⟨all, hall⟩ : ∃ all, all = bT :: ls := ⟨_, rfl⟩
 have hal : all.length = 1 + ls.length := by rw [hall, List.length_cons, Nat.add_comm]
 have hown3 : w2.ownsRow w0.heap.size 25 3 v2 all.length (all.flatMap TrH.cells) := by rw [hal, hall]; exact hown2
 have hrd : ∀ t ∈ all, Pts w0 t.hA t.ps ∧ Nds w0 t.nA t.hs := fun t ht => by
  rw [hall] at ht
  rcases List.mem_cons.1 ht with ht | ht
  ·rw [ht, HBT.out]
   exact ⟨HP.out, HN.out⟩
  ·exact ⟨(HLS.out.2.2 t ht).1, (HLS.out.2.2 t ht).2⟩
 have HLT := Lib.hid (LT.mk hown3 hrd : LT w0 w0.heap.size v2 all w2)
 obtain ⟨aA, ac, hv2, htrs⟩ := HLT.out.trs hb12 (Nat.le_refl _)
 rw [← hall] at HRES
 have HALL := Lib.hid hall
 have HTRS := Lib.hid htrs
 have HALB : Hid (all.length ≤ 10) := Lib.hid (by rw [hal]; have := HLL.out; omega)
 have HAL := Lib.hid hal
 subst hv2
 clear hown2 hg2 hat2 hb12 htrs hall hown1 hown3 hrd hr1 hsz1 hm1 hm2 hal
 go_wp2
 obtain ⟨rs, hrs⟩ : ∃ rs, rs = (all.map TrH.pt).map rootOf := ⟨_, rfl⟩
 have HRT0 : Hid (∀ i (hi : i < all.length), rs.take (i + 1) = rs.take i ++ [((all[i]).hs.length : Int) - 1]) := Lib.hid (fun i hi => by rw [hrs]; exact roots_take all hi)
 have HRSL : Hid (rs.length = all.length) := Lib.hid (by rw [hrs]; simp)
 have HRS := Lib.hid hrs
 clear hrs
 go_loopw [7, 8] (fun rv iv wr => ∃ i : Nat, i ≤ all.length ∧ iv = .int .i64 i ∧ Hid (OwnIA wr w2.heap.size rv (rs.take i)) ∧ Hid (Below w2.heap.size w2 wr) ∧ Hid (((all.map TrH.pt).take i).any badT = false)) (fun _ iv _ => all.length - (intOf iv).toNat)
 case atStart => exact ⟨0, Nat.zero_le _, rfl, Lib.hid (OwnI.nil _ _ _), Lib.hid (Below.refl _ _), Lib.hid (by simp)⟩
 case round =>
  obtain ⟨i, hi, rfl, HRO, HBI, HNB⟩ := hrel
  have HBr : Hid (Below w0.heap.size w0 wr) := Lib.hid (HB2.out.trans (HBI.out.mono HB2.out.size))
  have hwi : wrap64 ((i : Int) + 1) = (i : Int) + 1 := by have := HALB.out; unfold wrap64; omega
  by_cases hil : i < all.length
  ·obtain ⟨tb, tof, etA, htb, h0, h1, h2, hpx, hnx⟩ := (HTRS.out.ext HBI.out).at_ hil
   have hat : (all.map TrH.pt)[i]'(by rw [List.length_map]; exact hil) = (all[i]).pt := List.getElem_map ..
   have HST2 : Hid (badT (all[i]).pt = false → ((all.map TrH.pt).take (i + 1)).any badT = false) := Lib.hid (fun h => any_take (by rw [List.length_map]; exact hil) HNB.out (by rw [hat]; exact h))
   have HHIT : Hid (badT (all[i]).pt = true → (all.map TrH.pt).any badT = true) := Lib.hid (fun h => any_at (by rw [List.length_map]; exact hil) (by rw [hat]; exact h))
   have hrt := HRT0.out i hil
   have hml : (rs.take i).length < 1000000000000 := by rw [List.length_take]; have := HALB.out; have := HRSL.out; omega
   have hnxl := hnx.le
   obtain ⟨x, hx⟩ : ∃ x, x = all[i] := ⟨_, rfl⟩
   rw [← hx] at h0 h1 h2 hpx hnx HST2 HHIT hrt hnxl
   clear hat
   obtain ⟨xst, xhA, xps, xhc, xnA, xhs, xnc⟩ := x
   dsimp only at h0 h1 h2 hpx hnx hrt hnxl
   have HRT := Lib.hid hrt
   have HCALL := Lib.hid (rright_any xst xhA xhc xps xnA xnc xhs wr hpx hnx)
   have HIL := Lib.hid hil
   have HH2 : Hid (tb < wr.heap.size ∧ wr.cell? ⟨tb, tof + i * 3 + 2, none⟩ = some (.slice xnA xhs.length xnc)) := Lib.hid ⟨htb, h2⟩
   have HWZ : Hid (wrap64 ((xhs.length : Int) - 1) = (xhs.length : Int) - 1) := Lib.hid (by unfold wrap64; omega)
   have HML := Lib.hid hml
   subst etA
   clear hx hpx hnx hrt hml htb hnxl
   cases hr : rightN xst xps (xhs.map Hd.nd) with
   | false =>
    have HE : Hid (res = (PT.zero, 11)) := Lib.hid (by rw [HRES.out, if_pos (HHIT.out (by show (!rightN xst xps (xhs.map Hd.nd)) = true; rw [hr]; rfl))])
    rw [hr] at HCALL
    clear hr
    go_wp2_with (go_at_call 26; refine HCALL.out.mono ?_; intro e w9 hx9; obtain ⟨rfl, hb9⟩ := hx9; refine Hid.out ?_)
    refine Lib.hid ?_
    have HB9 : Hid (Below w0.heap.size w0 w9) := Lib.hid (HBr.out.trans (hb9.mono HBr.out.size))
    clear hb9 h0 h1 h2
    have HBWX : Hid (Below w.heap.size w w9) := Lib.hid (HB0.out.trans (HB9.out.mono HB0.out.size))
    have HQX := Lib.hid (HQ0.out.below HB9.out HQ0.out.lt)
    have d0 := HQX.out.cell_ 0 (.int .i64 0) rfl
    have d1 := HQX.out.cell_ 1 (.slice none 0 0) rfl
    have d2 := HQX.out.cell_ 2 (.slice none 0 0) rfl
    have f0 := HQX.out.frozen 0
    have f1 := HQX.out.frozen 1
    have f2 := HQX.out.frozen 2
    go_wp2
    have hq : Blk (((w9.setCell ⟨w.heap.size + 1, 0, none⟩ (.int .i64 0)).setCell ⟨w.heap.size + 1, 1, none⟩ (.slice none 0 0)).setCell ⟨w.heap.size + 1, 2, none⟩ (.slice none 0 0)) (w.heap.size + 1) 25 #[.int .i64 0, .slice none 0 0, .slice none 0 0] := ((HQX.out.set_ 0 (.int .i64 0)).set_ 1 (.slice none 0 0)).set_ 2 (.slice none 0 0)
    rw [HE.out]
    exact bodyPost_ret (results_ct Tryd.results23 _ _ (w.heap.size + 1) 25 #[.int .i64 0, .slice none 0 0, .slice none 0 0] (0, 0) _ rfl hq Tryd.underlying25 rfl Tryd.sizeTree) rfl
     ⟨0, none, 0, 0, none, 0, 0, rfl, ⟨none, 0, none, 0, [], rfl, Pts.nil, Nds.nil, rfl⟩, ((HBWX.out.setCell (p := ⟨w.heap.size + 1, 0, none⟩) (Nat.le_succ _) _).setCell (p := ⟨w.heap.size + 1, 1, none⟩) (Nat.le_succ _) _).setCell (p := ⟨w.heap.size + 1, 2, none⟩) (Nat.le_succ _) _⟩
   | true =>
    have HNX2 : Hid (((all.map TrH.pt).take (i + 1)).any badT = false) := Lib.hid (HST2.out (by show (!rightN xst xps (xhs.map Hd.nd)) = false; rw [hr]; rfl))
    rw [hr] at HCALL
    clear hr
    go_wp2_with (go_at_call 26; refine HCALL.out.mono ?_; intro e w9 hx9; obtain ⟨rfl, hb9⟩ := hx9; refine Hid.out ?_)
    refine Lib.hid ?_
    have how := HRO.out.ext hb9
    have HB9 : Hid (Below w2.heap.size w2 w9) := Lib.hid (HBI.out.trans (hb9.mono HBI.out.size))
    have g2 := (hb9.cell (p := ⟨tb, tof + i * 3 + 2, none⟩) HH2.out.1).trans HH2.out.2
    have hws : w2.heap.size ≤ w9.heap.size := HB9.out.size
    have hwz := HWZ.out
    have hml := HML.out
    have hil := HIL.out
    clear hb9 h0 h1 h2 HCALL
    go_wp2_with (at_builtin; refine wpList_pushI rfl _ _ _ rfl w2.heap.size 3 Tryd.underlying31 Tryd.infoInt _ _ rfl how _ rfl hml hws ?_)
    intro v6 w6 ho6 hb6
    have HO6 : Hid (OwnIA w6 w2.heap.size v6 (rs.take (i + 1))) := Lib.hid (by rw [HRT.out]; exact ho6)
    have HB6 : Hid (Below w2.heap.size w2 w6) := Lib.hid (HB9.out.trans (hb6))
    clear ho6 hb6 how hws hml g2
    go_wp2
    go_roundw
    case rel => exact ⟨i + 1, HIL.out, (by first | rfl | (rw [hwi]; rfl)), HO6, HB6, HNX2⟩
    case measure => (try rw [hwi]); exact meas_step HIL.out
  ·have hia : i = all.length := Nat.le_antisymm hi (Nat.le_of_not_lt hil)
   subst hia
   have hnb : (all.map TrH.pt).any badT = false := by
    have := HNB.out
    rwa [List.take_of_length_le (by rw [List.length_map]; exact Nat.le_refl _)] at this
   have hro := HRO.out
   rw [List.take_of_length_le (Nat.le_of_eq HRSL.out)] at hro
   obtain ⟨rA, rc, erv, -, -⟩ := hro.ints
   subst erv
   have HROW := Lib.hid hro
   have HNBA := Lib.hid hnb
   have p1 := HP0.out.below HBr.out HP0.out.lt
   have e0 := p1.cell_ 0 (.int .i64 st) rfl
   have hlle := HLS.out.le
   clear p1 hi hil hwi HNB hnb hro HRO
   by_cases hst : (ls.length : Int) = st
   ·have n1 : ((ls.length : Int) != st) = false := by simp [hst]
    have HSTL := Lib.hid hst
    clear hst
    obtain ⟨w3, hw3⟩ : ∃ w3, w3 = wr := ⟨_, rfl⟩
    have HB3 : Hid (Below w0.heap.size w0 w3) := Lib.hid (by rw [hw3]; exact HBr.out)
    have HB23 : Hid (Below w2.heap.size w2 w3) := Lib.hid (by rw [hw3]; exact HBI.out)
    have HROW3 : Hid (OwnIA w3 w2.heap.size (.slice rA rs.length rc) rs) := Lib.hid (by rw [hw3]; exact HROW.out)
    rw [← hw3]
    rw [← hw3] at e0
    clear hw3 HBr HBI HROW
    go_wp2
    clear e0 n1
    go_loopw [9] (fun iv wr => ∃ i : Nat, i ≤ all.length ∧ iv = .int .i64 i ∧ Hid (Below w3.heap.size w3 wr) ∧ Hid (((all.map TrH.pt).take i).any (difT bT.pt) = false)) (fun iv _ => all.length - (intOf iv).toNat)
    case atStart => exact ⟨0, Nat.zero_le _, rfl, Lib.hid (Below.refl _ _), Lib.hid (by simp)⟩
    case round =>
     obtain ⟨i, hi, rfl, HBI, HNB⟩ := hrel
     have HBr : Hid (Below w0.heap.size w0 wr) := Lib.hid (HB3.out.trans (HBI.out.mono HB3.out.size))
     have HB2r : Hid (Below w2.heap.size w2 wr) := Lib.hid (HB23.out.trans (HBI.out.mono HB23.out.size))
     have hwi : wrap64 ((i : Int) + 1) = (i : Int) + 1 := by have := HALB.out; unfold wrap64; omega
     by_cases hil : i < all.length
     ·obtain ⟨tb, tof, etA, -, h0, h1, -, hpx, -⟩ := (HTRS.out.ext HB2r.out).at_ hil
      have hat : (all.map TrH.pt)[i]'(by rw [List.length_map]; exact hil) = (all[i]).pt := List.getElem_map ..
      have HST2 : Hid (difT bT.pt (all[i]).pt = false → ((all.map TrH.pt).take (i + 1)).any (difT bT.pt) = false) := Lib.hid (fun h => any_take (by rw [List.length_map]; exact hil) HNB.out (by rw [hat]; exact h))
      have HHIT : Hid (difT bT.pt (all[i]).pt = true → (all.map TrH.pt).any (difT bT.pt) = true) := Lib.hid (fun h => any_at (by rw [List.length_map]; exact hil) (by rw [hat]; exact h))
      obtain ⟨x, hx⟩ : ∃ x, x = all[i] := ⟨_, rfl⟩
      rw [← hx] at h0 h1 hpx HST2 HHIT
      clear hat
      obtain ⟨xst, xhA, xps, xhc, xnA, xhs, xnc⟩ := x
      dsimp only at h0 h1 hpx
      have hdif : difT bT.pt (TrH.mk xst xhA xps xhc xnA xhs xnc).pt = !(decide (xst = st) && decide (xps = ps)) := by rw [HBT.out]; rfl
      rw [hdif] at HST2 HHIT
      have HCALL := Lib.hid (fun n => samePtsR xhA A xps ps xhc c (wr.drewN n) (hpx.drewN n) ((HP.out.ext HBr.out).drewN n))
      subst etA
      have HIL := Lib.hid hil
      clear hx hpx hdif
      have p1 := HP0.out.below HBr.out HP0.out.lt
      have e0 := p1.cell_ 0 (.int .i64 st) rfl
      have e1 := p1.cell_ 1 (.slice A ps.length c) rfl
      clear p1
      by_cases hs1 : xst = st
      ·have n2 : (xst != st) = false := by simp [hs1]
       cases hps : decide (xps = ps) with
       | false =>
        have HE : Hid (res = (PT.zero, 2)) := Lib.hid (by
         have hln : ¬ ((ls.map TrH.pt).length : Int) ≠ bT.pt.st := by rw [List.length_map, HSTL.out, HBT.out]; simp [TrH.pt]
         rw [HRES.out, if_neg (by rw [HNBA.out]; decide), if_neg hln, if_pos (HHIT.out (by rw [hps]; simp))])
        rw [hps] at HCALL
        clear hps hs1
        go_upto_region 15 with fail
        go_quiet ((go_at_call 48; exact Calls.quiet_of (HCALL.out _)))
        obtain ⟨wd, hwd⟩ : ∃ wd, wd = wr.drewN nq := ⟨_, rfl⟩
        have HB9 : Hid (Below w0.heap.size w0 wd) := Lib.hid (by rw [hwd]; exact below_drewN HBr.out _)
        rw [← hwd]
        clear hwd h0 h1 e0 e1 HCALL
        have HBWX : Hid (Below w.heap.size w wd) := Lib.hid (HB0.out.trans (HB9.out.mono HB0.out.size))
        have HQX := Lib.hid (HQ0.out.below HB9.out HQ0.out.lt)
        have d0 := HQX.out.cell_ 0 (.int .i64 0) rfl
        have d1 := HQX.out.cell_ 1 (.slice none 0 0) rfl
        have d2 := HQX.out.cell_ 2 (.slice none 0 0) rfl
        have f0 := HQX.out.frozen 0
        have f1 := HQX.out.frozen 1
        have f2 := HQX.out.frozen 2
        go_wp2
        have hq : Blk (((wd.setCell ⟨w.heap.size + 1, 0, none⟩ (.int .i64 0)).setCell ⟨w.heap.size + 1, 1, none⟩ (.slice none 0 0)).setCell ⟨w.heap.size + 1, 2, none⟩ (.slice none 0 0)) (w.heap.size + 1) 25 #[.int .i64 0, .slice none 0 0, .slice none 0 0] := ((HQX.out.set_ 0 (.int .i64 0)).set_ 1 (.slice none 0 0)).set_ 2 (.slice none 0 0)
        rw [HE.out]
        exact bodyPost_ret (results_ct Tryd.results23 _ _ (w.heap.size + 1) 25 #[.int .i64 0, .slice none 0 0, .slice none 0 0] (0, 0) _ rfl hq Tryd.underlying25 rfl Tryd.sizeTree) rfl
         ⟨0, none, 0, 0, none, 0, 0, rfl, ⟨none, 0, none, 0, [], rfl, Pts.nil, Nds.nil, rfl⟩, ((HBWX.out.setCell (p := ⟨w.heap.size + 1, 0, none⟩) (Nat.le_succ _) _).setCell (p := ⟨w.heap.size + 1, 1, none⟩) (Nat.le_succ _) _).setCell (p := ⟨w.heap.size + 1, 2, none⟩) (Nat.le_succ _) _⟩
       | true =>
        have HNX2 : Hid (((all.map TrH.pt).take (i + 1)).any (difT bT.pt) = false) := Lib.hid (HST2.out (by rw [hps, decide_eq_true hs1]; rfl))
        rw [hps] at HCALL
        clear hps hs1
        go_upto_region 15 with fail
        go_quiet ((go_at_call 48; exact Calls.quiet_of (HCALL.out _)))
        clear h0 h1 e0 e1 HCALL
        go_wp2
        go_roundw
        case rel => exact ⟨i + 1, HIL.out, (by first | rfl | (rw [hwi]; rfl)), Lib.hid (below_drewN HBI.out _), HNX2⟩
        case measure => (try rw [hwi]); exact meas_step HIL.out
      ·have n2 : (xst != st) = true := by simp [hs1]
       have HE : Hid (res = (PT.zero, 2)) := Lib.hid (by
        have hln : ¬ ((ls.map TrH.pt).length : Int) ≠ bT.pt.st := by rw [List.length_map, HSTL.out, HBT.out]; simp [TrH.pt]
        rw [HRES.out, if_neg (by rw [HNBA.out]; decide), if_neg hln, if_pos (HHIT.out (by rw [decide_eq_false hs1]; rfl))])
       clear hs1 HCALL
       go_upto_region 15 with fail
       go_quiet (fail)
       obtain ⟨wd, hwd⟩ : ∃ wd, wd = wr.drewN nq := ⟨_, rfl⟩
       have HB9 : Hid (Below w0.heap.size w0 wd) := Lib.hid (by rw [hwd]; exact below_drewN HBr.out _)
       rw [← hwd]
       clear hwd h0 h1 e0 e1
       have HBWX : Hid (Below w.heap.size w wd) := Lib.hid (HB0.out.trans (HB9.out.mono HB0.out.size))
       have HQX := Lib.hid (HQ0.out.below HB9.out HQ0.out.lt)
       have d0 := HQX.out.cell_ 0 (.int .i64 0) rfl
       have d1 := HQX.out.cell_ 1 (.slice none 0 0) rfl
       have d2 := HQX.out.cell_ 2 (.slice none 0 0) rfl
       have f0 := HQX.out.frozen 0
       have f1 := HQX.out.frozen 1
       have f2 := HQX.out.frozen 2
       go_wp2
       have hq : Blk (((wd.setCell ⟨w.heap.size + 1, 0, none⟩ (.int .i64 0)).setCell ⟨w.heap.size + 1, 1, none⟩ (.slice none 0 0)).setCell ⟨w.heap.size + 1, 2, none⟩ (.slice none 0 0)) (w.heap.size + 1) 25 #[.int .i64 0, .slice none 0 0, .slice none 0 0] := ((HQX.out.set_ 0 (.int .i64 0)).set_ 1 (.slice none 0 0)).set_ 2 (.slice none 0 0)
       rw [HE.out]
       exact bodyPost_ret (results_ct Tryd.results23 _ _ (w.heap.size + 1) 25 #[.int .i64 0, .slice none 0 0, .slice none 0 0] (0, 0) _ rfl hq Tryd.underlying25 rfl Tryd.sizeTree) rfl
        ⟨0, none, 0, 0, none, 0, 0, rfl, ⟨none, 0, none, 0, [], rfl, Pts.nil, Nds.nil, rfl⟩, ((HBWX.out.setCell (p := ⟨w.heap.size + 1, 0, none⟩) (Nat.le_succ _) _).setCell (p := ⟨w.heap.size + 1, 1, none⟩) (Nat.le_succ _) _).setCell (p := ⟨w.heap.size + 1, 2, none⟩) (Nat.le_succ _) _⟩
     ·have hia : i = all.length := Nat.le_antisymm hi (Nat.le_of_not_lt hil)
      subst hia
      have hnd : (all.map TrH.pt).any (difT bT.pt) = false := by
       have := HNB.out
       rwa [List.take_of_length_le (by rw [List.length_map]; exact Nat.le_refl _)] at this
      have hln : ¬ ((ls.map TrH.pt).length : Int) ≠ bT.pt.st := by rw [List.length_map, HSTL.out, HBT.out]; simp [TrH.pt]
      have hres := HRES.out
      rw [if_neg (by rw [HNBA.out]; decide), if_neg hln, if_neg (by rw [hnd]; decide)] at hres
      have hbb : (bT.pt :: ls.map TrH.pt).any badT = false := by have := HNBA.out; rw [HALL.out] at this; exact this
      have hll : ((ls.map TrH.pt).length : Int) = bT.pt.st := Decidable.not_not.1 hln
      have hdd : (ls.map TrH.pt).any (difT bT.pt) = false := by
       rw [HALL.out, List.map_cons, List.any_cons, Bool.or_eq_false_iff] at hnd
       exact hnd.2
      obtain ⟨t1, t2, -⟩ := rchs_trees hbb hll hdd
      obtain ⟨r1, r2, r3, r4, r5, -⟩ := rchs_ok hbb hll hdd
      have hbr : bT.pt.right = true := by
       have := (List.any_eq_false.1 hbb) bT.pt (by simp)
       unfold badT at this
       simpa using this
      obtain ⟨a1, a2, a3, a4, a5, a6, a7, a8, a9⟩ := rightN_parts hbr
      have hpsl := ps_le hbr
      have hb1 : bT.pt.st = st := by rw [HBT.out]; rfl
      have hb2 : bT.pt.ps = ps := by rw [HBT.out]; rfl
      have hb3 : bT.pt.ns.length = hs.length := by rw [HBT.out]; exact List.length_map _
      rw [hb1] at t1 t2 r1 r4 r5 a1 a2
      rw [hb2] at t2 r3 r4 r5 hpsl
      rw [hb3] at hpsl
      have hsts : ∀ t ∈ all, t.st = ((st.toNat : Nat) : Int) := fun t ht => by
       have h1 := List.any_eq_false.1 hnd t.pt (List.mem_map_of_mem ht)
       unfold difT at h1
       simp only [Bool.not_eq_true, Bool.not_eq_false', Bool.and_eq_true, decide_eq_true_eq] at h1
       have h2 : t.st = st := by rw [← hb1]; exact h1.1
       omega
      have hnsl : (bT.pt :: ls.map TrH.pt).map PT.ns = all.map TrH.nds := by rw [HALL.out, List.map_cons, List.map_cons, List.map_map]; rfl
      have hrts : (bT.pt :: ls.map TrH.pt).map rootOf = rs := by rw [HRS.out, HALL.out]; rfl
      rw [hnsl] at t1 t2
      rw [hrts] at t2
      have hp12 : ps.length ≤ 12 := Nat.le_trans hpsl HN12.out
      have hro := HROW3.out.ext HBI.out
      obtain ⟨fh, hfh⟩ : ∃ fh, fh = (⟨rA, rs, rc⟩ : KyH) := ⟨_, rfl⟩
      have hK : KI w0.heap.size fh wr := by rw [hfh]; exact own_down hro HB2.out.size
      have hS : PpS w0.heap.size (.slice none 0 0) (.slice none 0 0) [] [] wr := ⟨World.ownsRow_nil _ _ _ _, OwnN.nil _ _ _ _, fun t ht => absurd ht (by simp)⟩
      have hcap : cap 8 ps.length ≤ 20000000000 := Nat.le_trans (cap_mono (Nat.le_refl 8) _ 12 hp12) (by decide)
      have hpr := rproduct_any w0 w0.heap.size (Nat.le_refl _) (.slice aA all.length ac) all st.toNat t1 hsts (by omega) (by omega) ps.length fh (.slice none 0 0) (.slice none 0 0) [] [] wr (by rw [hfh]; exact t2) (by omega) hS hK (HLT.out.ext HB2r.out) HBr.out HBr.out.size (RI.nil _ _) (by simpa using hcap)
      have hrn : rchsN bT.pt (ls.map TrH.pt) = (prodR (all.map TrH.nds) st.toNat ps.length fh.zs ([], [])).2.2 := by
       unfold rchsN
       rw [hnsl, hrts, hb1, hb2, hfh]
      rw [hfh] at hpr
      have HPR := Lib.hid hpr
      have HRN := Lib.hid hrn
      have HFH := Lib.hid hfh
      have HSX := Lib.hid hS
      have HRES2 := Lib.hid hres
      have HR := Lib.hid (And.intro r1 (And.intro r2 (And.intro r3 r4)))
      have HST8 : Hid (st.toNat ≤ 8 ∧ 2 ≤ st.toNat) := Lib.hid (by omega)
      have HP12 := Lib.hid hp12
      have HB1 := Lib.hid (And.intro hb1 hb2)
      have p1 := HP0.out.below HBr.out HP0.out.lt
      have e1 := p1.cell_ 1 (.slice A ps.length c) rfl
      clear p1 hnd hln hres hbb hll hdd t1 t2 r1 r2 r3 r4 r5 hbr a1 a2 a3 a4 a5 a6 a7 a8 a9 hpsl hb1 hb2 hb3 hsts hnsl hrts hp12 hro hfh hK hS hcap hpr hrn hi hwi
      dsimp only at HPR
      go_wp2_with (go_at_call 49; refine HPR.out.mono ?_; intro e w9 hx9; obtain ⟨kv2, ov2, ts2, os2, rfl, hc9, he9⟩ := hx9; have HC9 := Lib.hid hc9; have HE9 := Lib.hid he9; clear hc9 he9; refine Hid.out ?_)
      refine Lib.hid ?_
      rw [← HFH.out] at HC9
      clear e1 HPR
      obtain ⟨oB, ob, eov, hnds, -⟩ := HC9.out.wk.out.nds
      have hb9 : Below w0.heap.size wr w9 := HSX.out.below HC9.out.kp HBr.out.size
      have h29 : os2.map Hd.nd = rchsN bT.pt (ls.map TrH.pt) := by
       rw [HRN.out, HFH.out]
       exact congrArg Prod.snd HE9.out
      have h2l : os2.length = (rchsN bT.pt (ls.map TrH.pt)).length := by rw [← h29, List.length_map]
      obtain ⟨hvn, hvp, hvr, hvs⟩ := HR.out
      have hcap : cap st.toNat ps.length ≤ 900000000000 := Nat.le_trans (cap_mono HST8.out.1 _ 12 HP12.out) (by decide)
      have hst8 := HST8.out
      have hp12 := HP12.out
      have hrd := reduced_any oB ob os2 w9 hnds st.toNat (by rw [h29]; exact hvn) (by omega) (by omega) (by rw [h2l]; exact hvp) (by rw [h2l]; exact Nat.le_trans hvs hcap) (by rw [h29, h2l, hvr]; omega)
      rw [h29, ordR_eq hvn hvp (by rw [hvr]; omega)] at hrd
      have HRD := Lib.hid hrd
      have HB9 : Hid (Below w0.heap.size w0 w9) := Lib.hid (HBr.out.trans hb9)
      subst eov
      clear hnds hb9 h29 h2l hvn hvp hvr hvs hst8 hp12 hcap hrd
      go_wp2_with (go_at_call 35; refine HRD.out.mono ?_; intro e wa hx9; obtain ⟨va, osa, rfl, hna, hea, hba⟩ := hx9; obtain ⟨na, ma, eva, hnds, -⟩ := hna.nds; subst eva; have HNA := Lib.hid hna; have HEA := Lib.hid hea; have HBA := Lib.hid hba; clear hnds hna hea hba; refine Hid.out ?_)
      refine Lib.hid ?_
      have HBX : Hid (Below w0.heap.size w0 wa) := Lib.hid (HB9.out.trans (HBA.out.mono HB9.out.size))
      have HQX := Lib.hid (HQ0.out.below HBX.out HQ0.out.lt)
      have HPX := Lib.hid (HP0.out.below HBX.out HP0.out.lt)
      have HBWX : Hid (Below w.heap.size w wa) := Lib.hid (HB0.out.trans (HBX.out.mono HB0.out.size))
      have d0 := HQX.out.cell_ 0 (.int .i64 0) rfl
      have d1 := HQX.out.cell_ 1 (.slice none 0 0) rfl
      have d2 := HQX.out.cell_ 2 (.slice none 0 0) rfl
      have f0 := HQX.out.frozen 0
      have f1 := HQX.out.frozen 1
      have f2 := HQX.out.frozen 2
      have e0 := HPX.out.cell_ 0 (.int .i64 st) rfl
      have e1 := HPX.out.cell_ 1 (.slice A ps.length c) rfl
      obtain ⟨rn, hrn⟩ : ∃ rn, rn = redN chR (rchsN bT.pt (ls.map TrH.pt)) := ⟨_, rfl⟩
      rw [← hrn] at HRES2 HEA
      have hal : osa.length = rn.length := by rw [← HEA.out, List.length_map]
      clear hrn HRD
      by_cases hbig : 4096 < osa.length
      ·have d3 : decide ((4096 : Int) < (osa.length : Int)) = true := decide_eq_true (by omega)
       have d4 : decide (4096 < osa.length) = true := decide_eq_true hbig
       have HE : Hid (res = (PT.zero, 6)) := Lib.hid (by have := HRES2.out; rwa [if_pos (by omega)] at this)
       clear hbig hal e0 e1
       go_wp2
       have hq : Blk (((wa.setCell ⟨w.heap.size + 1, 0, none⟩ (.int .i64 0)).setCell ⟨w.heap.size + 1, 1, none⟩ (.slice none 0 0)).setCell ⟨w.heap.size + 1, 2, none⟩ (.slice none 0 0)) (w.heap.size + 1) 25 #[.int .i64 0, .slice none 0 0, .slice none 0 0] := ((HQX.out.set_ 0 (.int .i64 0)).set_ 1 (.slice none 0 0)).set_ 2 (.slice none 0 0)
       rw [HE.out]
       exact bodyPost_ret (results_ct Tryd.results23 _ _ (w.heap.size + 1) 25 #[.int .i64 0, .slice none 0 0, .slice none 0 0] (0, 0) _ rfl hq Tryd.underlying25 rfl Tryd.sizeTree) rfl
        ⟨0, none, 0, 0, none, 0, 0, rfl, ⟨none, 0, none, 0, [], rfl, Pts.nil, Nds.nil, rfl⟩, ((HBWX.out.setCell (p := ⟨w.heap.size + 1, 0, none⟩) (Nat.le_succ _) _).setCell (p := ⟨w.heap.size + 1, 1, none⟩) (Nat.le_succ _) _).setCell (p := ⟨w.heap.size + 1, 2, none⟩) (Nat.le_succ _) _⟩
      ·have d3 : decide ((4096 : Int) < (osa.length : Int)) = false := decide_eq_false (by omega)
       have d4 : decide (4096 < osa.length) = false := decide_eq_false hbig
       have HE : Hid (res = (⟨st, ps, rn⟩, 0)) := Lib.hid (by have := HRES2.out; rw [if_neg (by omega), HB1.out.1, HB1.out.2] at this; exact this)
       clear hbig hal
       go_wp2
       have hlt := HQ0.out.lt
       have hk3 : Kept (fun g => g = w.heap.size + 1) wa (((wa.setCell ⟨w.heap.size + 1, 0, none⟩ (.int .i64 st)).setCell ⟨w.heap.size + 1, 1, none⟩ (.slice A ps.length c)).setCell ⟨w.heap.size + 1, 2, none⟩ (.slice na osa.length ma)) := (((Kept.refl (fun g => g = w.heap.size + 1) wa).setCell (p := ⟨w.heap.size + 1, 0, none⟩) (Or.inl rfl) _).setCell (p := ⟨w.heap.size + 1, 1, none⟩) (Or.inl rfl) _).setCell (p := ⟨w.heap.size + 1, 2, none⟩) (Or.inl rfl) _
       have hno := HNA.out.kept hk3 (fun g e1 e2 => by have h1 := (own_lt' HNA.out.1 e1).2; rw [e2] at h1; exact Nat.lt_irrefl _ (Nat.lt_of_lt_of_le (Nat.lt_of_lt_of_le hlt HB9.out.size) h1)) (fun y hy g e1 e2 => by have h1 := (own_lt' (HNA.out.2 y hy) e1).2; rw [e2] at h1; exact Nat.lt_irrefl _ (Nat.lt_of_lt_of_le (Nat.lt_of_lt_of_le hlt HB9.out.size) h1))
       have hbf := HBWX.out.trans (hk3.to_below (B := w.heap.size) HBWX.out.size (fun g hg e => by rw [e] at hg; exact Nat.not_succ_lt_self hg))
       have hpo := HPO.out.ext hbf
       have hq : Blk (((wa.setCell ⟨w.heap.size + 1, 0, none⟩ (.int .i64 st)).setCell ⟨w.heap.size + 1, 1, none⟩ (.slice A ps.length c)).setCell ⟨w.heap.size + 1, 2, none⟩ (.slice na osa.length ma)) (w.heap.size + 1) 25 #[.int .i64 st, .slice A ps.length c, .slice na osa.length ma] := ((HQX.out.set_ 0 (.int .i64 st)).set_ 1 (.slice A ps.length c)).set_ 2 (.slice na osa.length ma)
       rw [HE.out]
       exact bodyPost_ret (results_ct Tryd.results23 _ _ (w.heap.size + 1) 25 #[.int .i64 st, .slice A ps.length c, .slice na osa.length ma] (0, 0) _ rfl hq Tryd.underlying25 rfl Tryd.sizeTree) rfl
        ⟨st, A, _, c, na, _, ma, rfl, ⟨A, c, na, ma, osa, rfl, hpo, OwnN.reads hno, HEA.out⟩, hbf⟩
   ·have n1 : ((ls.length : Int) != st) = true := by simp [hst]
    have HE : Hid (res = (PT.zero, 2)) := Lib.hid (by
     have hln : ((ls.map TrH.pt).length : Int) ≠ bT.pt.st := by rw [List.length_map, HBT.out]; exact hst
     rw [HRES.out, if_neg (by rw [HNBA.out]; decide), if_pos hln])
    clear hst
    have HBWX : Hid (Below w.heap.size w wr) := Lib.hid (HB0.out.trans (HBr.out.mono HB0.out.size))
    have HQX := Lib.hid (HQ0.out.below HBr.out HQ0.out.lt)
    have d0 := HQX.out.cell_ 0 (.int .i64 0) rfl
    have d1 := HQX.out.cell_ 1 (.slice none 0 0) rfl
    have d2 := HQX.out.cell_ 2 (.slice none 0 0) rfl
    have f0 := HQX.out.frozen 0
    have f1 := HQX.out.frozen 1
    have f2 := HQX.out.frozen 2
    go_wp2
    have hq : Blk (((wr.setCell ⟨w.heap.size + 1, 0, none⟩ (.int .i64 0)).setCell ⟨w.heap.size + 1, 1, none⟩ (.slice none 0 0)).setCell ⟨w.heap.size + 1, 2, none⟩ (.slice none 0 0)) (w.heap.size + 1) 25 #[.int .i64 0, .slice none 0 0, .slice none 0 0] := ((HQX.out.set_ 0 (.int .i64 0)).set_ 1 (.slice none 0 0)).set_ 2 (.slice none 0 0)
    rw [HE.out]
    exact bodyPost_ret (results_ct Tryd.results23 _ _ (w.heap.size + 1) 25 #[.int .i64 0, .slice none 0 0, .slice none 0 0] (0, 0) _ rfl hq Tryd.underlying25 rfl Tryd.sizeTree) rfl
     ⟨0, none, 0, 0, none, 0, 0, rfl, ⟨none, 0, none, 0, [], rfl, Pts.nil, Nds.nil, rfl⟩, ((HBWX.out.setCell (p := ⟨w.heap.size + 1, 0, none⟩) (Nat.le_succ _) _).setCell (p := ⟨w.heap.size + 1, 1, none⟩) (Nat.le_succ _) _).setCell (p := ⟨w.heap.size + 1, 2, none⟩) (Nat.le_succ _) _⟩
end Go.Proofs.YtojnnfihpiegoaaDoor
