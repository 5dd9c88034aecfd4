/-
  texts RWalk RRed RedP FI Alc TrV: parts of the proof; conditions stand with each theorem.
-/
import Derived.Test.YtlegfdllipkggaaDoorYG7
import Derived.Test.YtlegfdllipkggaaDoorYG6
import Derived.Test.YtlegfdllipkggaaDoorYG5
import Derived.Test.YtlegfdllipkggaaDoorYG2
namespace Go.Proofs.YtlegfdllipkggaaDoor
open Go.RowKit
set_option maxRecDepth 100000
set_option linter.unusedVariables false
set_option linter.unusedSimpArgs false

def RwPost (B gd n cap : Nat) (ov : Value) (os : List Hd) (ns : List Nd) (f k : Nat) (s : St) (w : World) (e : Ending) (w' : World) : Prop :=
 ∃ ov' os', e = .returned ov' ∧ RkC B gd n cap (dfs ns f k s) w ov os ov' os' w'
set_option maxHeartbeats 16000000 in
theorem rwalk_any (B gd cap : Nat) (B0 : Option Addr) (d : Nat) (hs : List Hd) (cA : Option Addr) (cc : Nat) (W0 : World) (hN : Nds W0 B0 hs) (hC : Ints W0 cA (clsTo (hs.map Hd.nd) hs.length).2) (h0 : W0.heap.size ≤ B) (q : Nat) (hv : VNd q (hs.map Hd.nd)) (hq0 : 0 < q) (hq1 : q ≤ 1000)
  (hl : hs.length < 1000000000000) :
  ∀ (f k : Nat) (s : St) (ov : Value) (os : List Hd) (w : World), (ndAt (clsTo (hs.map Hd.nd) hs.length).1 k).1 ≤ f → reps (hs.map Hd.nd) k → Inv q (clsTo (hs.map Hd.nd) hs.length).1 (reps (hs.map Hd.nd)) s →
  RkS B gd hs.length cap ov s os w → Below B W0 w → B ≤ w.heap.size →
  Calls Tryd.prog 61 #[.slice B0 hs.length d, .slice cA hs.length cc, .int .i64 k, .slice (some ⟨gd, 0, none⟩) hs.length cap, ov] w
   (RwPost B gd hs.length cap ov os (clsTo (hs.map Hd.nd) hs.length).1 f k s w) := by
 have hlm : (hs.map Hd.nd).length = hs.length := List.length_map _; have hA : Lev q (clsTo (hs.map Hd.nd) hs.length).1 (reps (hs.map Hd.nd)) := by
  have := ClI.lev' hv; rwa [hlm] at this
 have HNK : Hid (∀ k, k < hs.length → ndAt (clsTo (hs.map Hd.nd) hs.length).1 k = ((ndAt (hs.map Hd.nd) k).1, nxOf (clsTo (hs.map Hd.nd) hs.length).2 (ndAt (hs.map Hd.nd) k))) := Lib.hid (fun k hk => by
  have := cls_nd hv (k := k) (by omega); rwa [hlm] at this)
 have hcll : (clsTo (hs.map Hd.nd) hs.length).2.length = hs.length := (clsTo_len _ _ (by omega)).2; have HCLN : Hid ((clsTo (hs.map Hd.nd) hs.length).1.length = hs.length) := Lib.hid (clsTo_len _ _ (by omega)).1; generalize (clsTo (hs.map Hd.nd) hs.length).1 = N at *; generalize (clsTo (hs.map Hd.nd) hs.length).2 = cl at *; have HKV := Lib.hid (fun k (hk : k < hs.length) (h1 : 1 < (ndAt (hs.map Hd.nd) k).1) z hz => (⟨(hv.lev.kids k (by rw [hlm]; exact hk) h1 z hz).1, hv.ordk k (by rw [hlm]; exact hk) h1 z hz⟩ : 0 ≤ z ∧ z < (k : Int))); have HLQ := Lib.hid (fun k (hk : k < hs.length) => hv.lev.len k (by rw [hlm]; exact hk)); have HCI := Lib.hid hC; have HCLL := Lib.hid hcll; have HAA := Lib.hid hA; have HNN := Lib.hid hN; have HW0 := Lib.hid h0; have hRL : ∀ k, reps (hs.map Hd.nd) k → k < hs.length := fun k h => by have := h.1; rwa [hlm] at this
 generalize reps (hs.map Hd.nd) = R at *; have HRL := Lib.hid hRL; clear hcll hC hN hlm hv h0 hRL; intro f; induction f with
 | zero =>
  intro k s ov os w hf hk; have := hA.one k hk; omega
 | succ f ih =>
  intro k s ov os w hf hk hI hW hb hBw; have hkl : k < hs.length := HRL.out k hk; have hsl : s.1.length = hs.length := hW.len; obtain ⟨hck, hfk⟩ := hW.cell hkl; have HW := Lib.hid hW; have HI := Lib.hid hI; have HB := Lib.hid hb; have HIH := Lib.hid ih; obtain ⟨dv, hdv⟩ : ∃ dv, dv = s.1.getD k 0 - 1 := ⟨_, rfl⟩
  rw [← hdv] at hck; have HD := Lib.hid hdv; clear hdv hW hI hb ih; by_cases h0 : 0 ≤ dv
  ·have d0 : decide (0 ≤ dv) = true := decide_eq_true h0; have HE : Hid (dfs N (f + 1) k s = s) := Lib.hid (by rw [dfs_succ, if_pos (by have := HD.out; omega)]); clear h0 hA hf hk; go_enter Tryd.func61, Tryd.ntmps61; go_wp2; go_ret; refine ⟨ov, os, rfl, by rw [HE.out]; exact HW.out, Kept.refl _ _, .inl rfl, fun x hx => .inl hx⟩
  ·have d0 : decide (0 ≤ dv) = false := decide_eq_false h0; have HD0 : Hid (¬ 0 < s.1.getD k 0) := Lib.hid (by have := HD.out; omega); obtain ⟨nb, no, e1, hnb, hc0, hc1, hzI⟩ := HNN.out.at_ hkl; have hnk := HNK.out k hkl; have hkv := HKV.out k hkl; have hlq := HLQ.out k hkl; have hat : ∀ W, Below B W0 W → W.cell? ⟨nb, no + k * 2, none⟩ = some (.int .i64 hs[k].lv) ∧ W.cell? ⟨nb, no + k * 2 + 1, none⟩ = some (.slice hs[k].A hs[k].zs.length hs[k].c) ∧ Ints W hs[k].A hs[k].zs := fun W hW => by
    have hW' := hW.mono HW0.out; rw [hW'.cell hnb, hW'.cell hnb]; exact ⟨hc0, hc1, hzI.ext hW'⟩
   rw [nd_at hs hkl] at hnk hkv hlq; have hlv1 := hA.one k hk; have hKID := hA.kids k hk; have hqN := hA.len k hk; obtain ⟨x, hx⟩ : ∃ x, x = hs[k] := ⟨_, rfl⟩
   rw [← hx] at hnk hkv hlq hat; obtain ⟨lv, zA, zc, zs⟩ := x; dsimp only at hat; change ndAt N k = (lv, nxOf cl (lv, zs)) at hnk; change 1 < lv → ∀ z ∈ zs, _ at hkv; change zs.length = q at hlq; rw [hnk] at hlv1 hKID hqN hf; dsimp only at hlv1 hKID hqN hf; have hf' : lv ≤ (f : Int) + 1 := by
    push_cast at hf; exact hf
   obtain ⟨nxs, hnxs⟩ : ∃ nxs, nxs = nxOf cl (lv, zs) := ⟨_, rfl⟩
   rw [← hnxs] at hnk hKID hqN; have HNXL := Lib.hid hqN; have HNX := Lib.hid hnxs; have HND := Lib.hid hnk; have HAT := Lib.hid hat; have HKV1 := Lib.hid hkv; have HKID := Lib.hid hKID; have HF := Lib.hid hf'; have HLV := Lib.hid hlv1; have HZQ := Lib.hid hlq; have HKL := Lib.hid hkl; have HK := Lib.hid hk; have hzl : zs.length ≤ 1000 := by omega
   have hkc := hkl; have hgd := (own_lt' HW.out.row (g := gd) rfl).1; have HGD := Lib.hid hgd; obtain ⟨g0, g1, -⟩ := hat w HB.out; clear hx hnk hzI hf hat hkv hKID hf' hnxs h0 hqN hlv1 hk hA hgd hlq hfk hc0 hc1 hnb; subst e1; go_enter Tryd.func61, Tryd.ntmps61; go_upto_region 4 with fail
   obtain ⟨w3, hw3⟩ : ∃ w3, w3 = w.alloc (.cells #[.int .i64 lv, .slice none 0 0] 50) := ⟨_, rfl⟩
   have hb3 : Below w.heap.size w w3 := by rw [hw3]; exact below_new _ _
   have hG3 : Blk w3 w.heap.size 50 #[.int .i64 lv, .slice none 0 0] := by rw [hw3]; exact Blk.new _ _ _
   obtain ⟨gX, hgX⟩ : ∃ gX, gX = w.heap.size := ⟨_, rfl⟩
   rw [← hgX] at hG3; have HL0 := Lib.hid (RkL.start HW.out HI.out hb3 hG3 (by omega) HGD.out); rw [← hw3, ← hgX]; clear hw3 hb3 hG3 hgX g0 g1 hck; go_wp2; go_loopw [4, 12] (fun o i wr => ∃ (m : Nat) (os1 : List Hd) (xv : Value), m ≤ zs.length ∧ i = .int .i64 m ∧ Hid (RkL B gd hs.length cap N q R lv gX w ov os (kidsTo N f lv nxs s m).1 (kidsTo N f lv nxs s m).2 o os1 xv wr)) (fun _ i _ => zs.length - (intOf i).toNat)
   case atStart => exact ⟨0, _, _, Nat.zero_le _, rfl, Lib.hid (by rw [kidsTo_zero]; exact HL0.out)⟩
   case round =>
    clear HL0; obtain ⟨m, os1, xv, hm, rfl, HL⟩ := hrel; have hBr : Below B W0 wr := HB.out.trans (HL.out.below HW.out hBw); have HBr := Lib.hid hBr; obtain ⟨h0, h1, hzi⟩ := HAT.out wr hBr; have HZI := Lib.hid hzi; have hwm : wrap64 ((m : Int) + 1) = (m : Int) + 1 := by unfold wrap64; omega
    have hx0 := HL.out.G.cell_ 0 (.int .i64 lv) rfl; have hx1 := HL.out.G.cell_ 1 xv rfl; have hf1 := HL.out.G.frozen 1; have HAL := Lib.hid (kidsTo_len (ns := N) (f := f) (lv := lv) (zs := nxs) (s := s) m (by have := HNXL.out; have := HZQ.out; omega)); clear hzi hBr; by_cases hml : m < zs.length
    ·have hnm : m < nxs.length := by have := HNXL.out; have := HZQ.out; omega
     obtain ⟨bz, oz, ez, -, hcm⟩ := HZI.out.at_ hml; subst ez; have hsize : B ≤ wr.heap.size := Nat.le_trans hBw HL.out.kp.below.size; by_cases hl1 : 1 < lv
     ·have d1 : decide (1 < lv) = true := decide_eq_true hl1; obtain ⟨z0, zk⟩ := HKV1.out hl1 _ (List.getElem_mem hml); obtain ⟨zn, hzn⟩ : ∃ zn : Nat, zs[m] = zn := ⟨zs[m].toNat, by omega⟩
      have hznk : zn < cl.length := by have := HCLL.out; omega
      have hznh : zn < hs.length := by have := HCLL.out; omega
      obtain ⟨bc, oc, ec, -, hcc⟩ := (HCI.out.ext (HBr.out.mono HW0.out)).at_ hznk; have hy : nxs[m] = cl[zn] := nx_get HNX.out hl1 hml hnm hzn hznk; obtain ⟨y0, yR, yl⟩ := HKID.out hl1 _ (List.getElem_mem hnm); obtain ⟨yn, hyn⟩ : ∃ yn : Nat, nxs[m] = yn := ⟨nxs[m].toNat, by omega⟩
      have hst := kidsTo_step (ns := N) (f := f) (s := s) hl1 hnm; rw [hyn, Int.toNat_natCast] at yR yl hst; rw [hzn] at hcm; rw [← hy, hyn] at hcc; have hylt := HRL.out yn yR; have hok := (dfs_ok HAA.out f yn (kidsTo N f lv nxs s m).1 (by have := HF.out; omega) yR HL.out.iv).1; have HCALL := Lib.hid (HIH.out yn _ _ _ wr (by have := HF.out; omega) yR HL.out.iv HL.out.wk HBr.out hsize); have HOK := Lib.hid hok; have HST := Lib.hid hst; have HML := Lib.hid hml; have HYL := Lib.hid hylt; subst ec; clear hl1 z0 zk hzn hy y0 yR yl hyn hst hok; go_wp2_with (go_at_call 61; refine HCALL.out.mono ?_; rintro e w5 ⟨ov2, os2, rfl, hc5⟩; refine Hid.out ?_); refine Lib.hid ?_; have HL5 := Lib.hid (HL.out.call HOK.out hc5); obtain ⟨hcy, -⟩ := hc5.wk.cell (k := yn) HYL.out; have hx5 := HL5.out.G.cell_ 1 xv rfl; have hy1 := hylt; clear hc5 hx0 hx1 hf1 h0 h1 HL HCALL HOK hcc hcm hylt hsize; obtain ⟨acc, hacc⟩ : ∃ acc, acc = (kidsTo N f lv nxs s m).2 := ⟨_, rfl⟩
      obtain ⟨vy, hvy⟩ : ∃ vy, vy = (dfs N f yn (kidsTo N f lv nxs s m).1).1.getD yn 0 - 1 := ⟨_, rfl⟩
      obtain ⟨s5, hs5⟩ : ∃ s5, s5 = dfs N f yn (kidsTo N f lv nxs s m).1 := ⟨_, rfl⟩
      rw [← hs5] at hvy hcy HST HL5; rw [← hvy] at hcy HST; rw [← hacc] at HAL HST HL5; have hown := HL5.out.R; have hal : acc.length < 1000000000000 := by have := HAL.out; omega
      have hws : w.heap.size ≤ w5.heap.size := HL5.out.kp.below.size; clear hacc hvy hs5; go_wp2_with (at_builtin; refine wpList_pushIk rfl _ _ _ rfl w.heap.size 3 Tryd.underlying41 Tryd.infoInt _ _ rfl hown _ rfl hal hws ?_); intro xv' w6 ho6 hk6 hm6; obtain ⟨xA', xc', hxv', -, -⟩ := ho6.ints; rw [List.length_append, List.length_singleton] at hxv'; subst hxv'; have hG6 := hk6.blk HL5.out.G (own_blk_ne' HL5.out.R HL5.out.G (by decide)); have hx6 := hG6.cell_ 1 xv rfl; have hf6 := hG6.frozen 1; have HL7 := Lib.hid (HL5.out.push ho6 hk6 hm6); clear ho6 hk6 hm6 hG6 hx5 hcy hown hal hws; go_wp2; go_roundw
      case rel => exact ⟨m + 1, os2, _, HML.out, (by first | rfl | (rw [hwm]; rfl)), Lib.hid (by rw [HST.out]; exact HL7.out)⟩
      case measure => (try rw [hwm]); simp [intOf]; omega
     ·have d1 : decide (1 < lv) = false := decide_eq_false hl1; have HNZ := Lib.hid (nx_low HNX.out hl1); have hst : kidsTo N f lv nxs s (m + 1) = ((kidsTo N f lv nxs s m).1, (kidsTo N f lv nxs s m).2 ++ [zs[m]]) := by
       rw [kidsTo_low _ hl1, kidsTo_low _ hl1]; dsimp only; rw [HNZ.out, List.take_succ_eq_append_getElem hml]
      have HST := Lib.hid hst; obtain ⟨z, hz⟩ : ∃ z, z = zs[m] := ⟨_, rfl⟩
      rw [← hz] at hcm HST; obtain ⟨acc, hacc⟩ : ∃ acc, acc = (kidsTo N f lv nxs s m).2 := ⟨_, rfl⟩
      rw [← hacc] at HAL HST HL; have hown := HL.out.R; have hal : acc.length < 1000000000000 := by have := HAL.out; omega
      have hws : w.heap.size ≤ wr.heap.size := HL.out.kp.below.size; clear hacc hz hst hl1; have HML := Lib.hid hml; go_wp2_with (at_builtin; refine wpList_pushIk rfl _ _ _ rfl w.heap.size 3 Tryd.underlying41 Tryd.infoInt _ _ rfl hown _ rfl hal hws ?_); intro xv' w6 ho6 hk6 hm6; obtain ⟨xA', xc', hxv', -, -⟩ := ho6.ints; rw [List.length_append, List.length_singleton] at hxv'; subst hxv'; have hG6 := hk6.blk HL.out.G (own_blk_ne' HL.out.R HL.out.G (by decide)); have hx6 := hG6.cell_ 1 xv rfl; have hf6 := hG6.frozen 1; have HL7 := Lib.hid (HL.out.push ho6 hk6 hm6); clear ho6 hk6 hm6 hG6 hown hal hws; go_wp2; go_roundw
      case rel => exact ⟨m + 1, os1, _, HML.out, (by first | rfl | (rw [hwm]; rfl)), Lib.hid (by rw [HST.out]; exact HL7.out)⟩
      case measure => (try rw [hwm]); simp [intOf]; omega
    ·have hmz : m = nxs.length := by have := HNXL.out; have := HZQ.out; omega
     obtain ⟨oA, oc, rfl, hno, -⟩ := HL.out.wk.out.nds; obtain ⟨acc, hacc⟩ : ∃ acc, acc = (kidsTo N f lv nxs s m).2 := ⟨_, rfl⟩
     have HACC := Lib.hid hacc; rw [← hacc] at HAL HL; obtain ⟨xA, xc, rfl, -, -⟩ := HL.out.R.ints; obtain ⟨hkw, hkf⟩ := HL.out.wk.cell (k := k) HKL.out; obtain ⟨w7, hw7⟩ : ∃ w7, w7 = wr.setCell ⟨gd, k, none⟩ (.int .i64 (os1.length : Nat)) := ⟨_, rfl⟩
     have k7 : Kept (fun g => g = gd) wr w7 := by rw [hw7]; exact (Kept.refl (fun g => g = gd) wr).setCell (p := ⟨gd, k, none⟩) (Or.inl rfl) _
     have hG7 := k7.blk HL.out.G (fun e => by have := HL.out.gd_; have := HL.out.hX; omega); have hx7 := hG7.cell_ 0 (.int .i64 lv) rfl; have hx8 := hG7.cell_ 1 (.slice xA acc.length xc) rfl; have hown7 : OwnNA w7 B (.slice oA os1.length oc) os1 := HL.out.wk.out.kept k7 (fun g e1 e2 => by subst e2; exact own_ne HL.out.wk.row HL.out.wk.out.1 (by decide) rfl e1) (fun x hx g e1 e2 => by subst e2; exact HL.out.wk.apart x hx e1); have hI7 : OwnIA w7 B (.slice xA acc.length xc) acc := (k7.own (u := .slice xA acc.length xc) HL.out.R (fun g e1 e2 => by have := (own_lt' HL.out.R e1).2; have := HL.out.gd_; omega) : w7.ownsRow _ _ _ _ _ _) |> fun h => own_down h hBw
     have hol : os1.length < 1000000000000 := by
      have h1 := HL.out.iv.le; rw [← HL.out.wk.eq, List.length_map] at h1; have := HCLN.out; omega
     have hz7 : wr.heap.size = w7.heap.size := by rw [hw7]; simp [World.setCell]
     have hws7 : B ≤ w7.heap.size := by rw [← hz7]; exact Nat.le_trans hBw HL.out.kp.below.size
     have HW7 := Lib.hid hw7; have HMZ := Lib.hid hmz; clear hacc hw7; go_upto_region 14 with fail
     rw [← HW7.out]; clear hmz hml hm h0 h1 hx0 hx1 hf1 hkw hkf hno hG7 hz7; go_wp2_with (at_builtin; refine wpList_pushN rfl _ _ _ rfl B 50 3 (by decide) Tryd.underlying23 Tryd.infoNode _ _ rfl hown7 _ _ _ _ hI7 rfl hol hws7 ?_); intro v9 w9 hN9 hK9 hA9; have hfin := HL.out.fin HKL.out rfl (by have := HAL.out; have := HMZ.out; have := HNXL.out; omega) hBw HW7.out hN9 hK9 hA9; have HFIN := Lib.hid hfin; clear hN9 hK9 hA9 hown7 hI7 hol hws7 hx7 hx8 hfin; go_wp2; go_ret; refine ⟨v9, os1 ++ [⟨lv, xA, xc, acc⟩], rfl, ?_⟩; rw [dfs_all HND.out (by have := HD0.out; omega), ← HMZ.out, ← HACC.out]; exact HFIN.out

set_option maxHeartbeats 8000000 in
theorem reduced_any (B0 : Option Addr) (d : Nat) (hs : List Hd) (w : World) (hN : Nds w B0 hs) (q : Nat) (hv : VNd q (hs.map Hd.nd)) (hq0 : 0 < q) (hq1 : q ≤ 1000) (hp : 0 < hs.length) (hL : hs.length ≤ 900000000000)
  (hlv : (ndAt (hs.map Hd.nd) (hs.length - 1)).1 ≤ 100) :
  Calls Tryd.prog 36 #[.slice B0 hs.length d] w (RetNds (ordR (hs.map Hd.nd)) w) := by
 have hlm : (hs.map Hd.nd).length = hs.length := List.length_map _; have HC := Lib.hid (classes_any B0 d hs w hN hv hL (by omega)); have HN := Lib.hid hN; have HV := Lib.hid hv; have HQ := Lib.hid (And.intro hq0 hq1); have HP := Lib.hid hp; have HL := Lib.hid hL; obtain ⟨r1, r2, r3⟩ := clsRoot_ok hv (by omega); rw [hlm] at r2 r3; have hrl := r1.1; rw [hlm] at hrl; have HR1 := Lib.hid r1; have HR2 : Hid ((ndAt (clsTo (hs.map Hd.nd) hs.length).1 (clsRoot (hs.map Hd.nd))).1 ≤ 100) := Lib.hid (by rw [r2.1]; exact hlv); have hcll : (clsTo (hs.map Hd.nd) hs.length).2.length = hs.length := (clsTo_len _ _ (by omega)).2; have HCLL := Lib.hid hcll; have hr3 : ∀ h : hs.length - 1 < (clsTo (hs.map Hd.nd) hs.length).2.length, (clsTo (hs.map Hd.nd) hs.length).2[hs.length - 1]'h = (clsRoot (hs.map Hd.nd) : Int) := fun h => by
  rw [← r3, List.getD_eq_getElem?_getD, List.getElem?_eq_getElem h]; rfl
 have hnl : (clsTo (hs.map Hd.nd) hs.length).1.length = hs.length := (clsTo_len _ _ (by omega)).1; have HNL := Lib.hid hnl; have HR3 := Lib.hid hr3; have HLM := Lib.hid hlm; have hordr : ordR (hs.map Hd.nd) = (dfs (clsTo (hs.map Hd.nd) hs.length).1 100 (clsRoot (hs.map Hd.nd)) (List.replicate hs.length 0, [])).2 := by
  unfold ordR ord; rw [hlm, hnl]
 have HORD := Lib.hid hordr; have hwn : wrap64 ((hs.length : Int) - 1) = ((hs.length - 1 : Nat) : Int) := by unfold wrap64; omega
 have hwn2 : hs.length - 1 < hs.length := by omega
 clear hN hv hq0 hq1 hp hlv r1 r2 r3 hr3 hcll hnl hlm hordr hrl; go_enter Tryd.func36, Tryd.ntmps36; go_wp2_with (go_at_call 60; refine HC.out.mono ?_; rintro e w1 ⟨cA, cc, rfl, hci, hb1⟩; refine Hid.out ?_); refine Lib.hid ?_; have HCI := Lib.hid hci; have HB1 := Lib.hid hb1; clear hci hb1 HC; go_wp2; go_loopw [4, 5] (fun dv i wr => ∃ m : Nat, m ≤ hs.length ∧ i = .int .i64 m ∧ Hid (OwnIA wr w1.heap.size dv (List.replicate m (-1))) ∧ Hid (Below w1.heap.size w1 wr)) (fun _ i _ => hs.length - (intOf i).toNat)
 case atStart => exact ⟨0, Nat.zero_le _, rfl, Lib.hid (OwnI.nil _ _ _), Lib.hid (Below.refl _ _)⟩
 case round =>
  obtain ⟨m, hm, rfl, HO, HBI⟩ := hrel; by_cases hml : m < hs.length
  ·have hwm : wrap64 ((m : Int) + 1) = (m : Int) + 1 := by unfold wrap64; omega
   have hown := HO.out; have hnl : (List.replicate m (-1 : Int)).length < 1000000000000 := by rw [List.length_replicate]; omega
   have hbs := HBI.out.size; have HML := Lib.hid hml; go_wp2_with (at_builtin; refine wpList_pushI rfl _ _ _ rfl _ 3 Tryd.underlying41 Tryd.infoInt _ _ rfl hown _ rfl hnl hbs ?_); intro v' w' ho' hb'; have HO2 : Hid (OwnIA w' w1.heap.size v' (List.replicate (m + 1) (-1))) := Lib.hid (by rw [List.replicate_succ']; exact ho'); have HB2 := Lib.hid (HBI.out.trans hb'); clear ho' hb' hown hbs hnl; go_wp2; go_roundw
   case rel => exact ⟨m + 1, HML.out, (by first | rfl | (rw [hwm]; rfl)), HO2, HB2⟩
   case measure => (try rw [hwm]); have := HML.out; simp [intOf]; omega
  ·obtain rfl : m = hs.length := by omega
   obtain ⟨gd, cap, hvd, hgd, -⟩ := HO.out.some_ (by rw [List.length_replicate]; exact HP.out); rw [List.length_replicate] at hvd; subst hvd; obtain ⟨cb, co, ec, -, hcr⟩ := (HCI.out.ext HBI.out).at_ (k := hs.length - 1) (by have := HCLL.out; omega); rw [HR3.out] at hcr; have hS : RkS w1.heap.size gd hs.length cap (.slice none 0 0) (List.replicate hs.length 0, []) [] wr := by
    refine ⟨?_, by simp, OwnN.nil _ _ _ _, rfl, fun x hx => absurd hx (by simp)⟩; have := HO.out; rw [List.map_replicate]; exact this
   have hI : Inv q (clsTo (hs.map Hd.nd) hs.length).1 (reps (hs.map Hd.nd)) (List.replicate hs.length 0, []) := by
    have := Inv.start q (clsTo (hs.map Hd.nd) hs.length).1 (reps (hs.map Hd.nd)); rw [HNL.out] at this; exact this
   have HCALL := Lib.hid (rwalk_any w1.heap.size gd cap B0 d hs cA cc w1 (HN.out.ext HB1.out) HCI.out (Nat.le_refl _) q HV.out HQ.out.1 HQ.out.2 (by omega) 100 (clsRoot (hs.map Hd.nd)) _ _ [] wr HR2.out HR1.out hI hS HBI.out HBI.out.size); obtain ⟨root, hroot⟩ : ∃ root, root = clsRoot (hs.map Hd.nd) := ⟨_, rfl⟩
   rw [← hroot] at hcr HCALL HORD; have HGD := Lib.hid hgd; subst ec; clear hS hI hroot hml hm hgd; go_wp2_with (go_at_call 61; refine HCALL.out.mono ?_; rintro e w5 ⟨ov2, os2, rfl, hc5⟩; refine Hid.out ?_); refine Lib.hid ?_; have HFIN : Hid (OwnNA w5 w.heap.size ov2 os2 ∧ os2.map Hd.nd = ordR (hs.map Hd.nd) ∧ Below w.heap.size w w5) := Lib.hid (by
    have ho := hc5.wk.out; refine ⟨⟨own_down ho.1 HB1.out.size, fun x hx => (ho.2 x hx).down HB1.out.size⟩, by rw [HORD.out]; exact hc5.wk.eq, ?_⟩; refine HB1.out.trans ((HBI.out.trans (hc5.kp.to_below HBI.out.size (fun g hg e => ?_))).mono HB1.out.size); rcases e with e | e
    ·have := HGD.out; omega
    ·simp [Value.ownBlock] at e)
   clear hc5 HCALL hcr; go_wp2; go_ret; exact ⟨ov2, os2, rfl, HFIN.out⟩
def RetAt (t : PT) (w : World) (e : Ending) (w' : World) : Prop := ∃ v, e = .returned v ∧ TreeAt w' v t ∧ Below w.heap.size w w'
def RetRR (A : Option Addr) (t : PT) (w : World) (e : Ending) (w' : World) : Prop :=
 ∃ A' c nv os, e = .returned (.agg #[.int .i64 t.st, .slice A' t.ps.length c, nv]) ∧ (A' = A ∨ t.ps = []) ∧ Pts w' A' t.ps ∧ OwnNA w' w.heap.size nv os ∧ os.map Hd.nd = t.ns ∧ Below w.heap.size w w'
theorem RetRR.at_ {A : Option Addr} {t : PT} {w w' : World} {e : Ending} (h : RetRR A t w e w') : RetAt t w e w' := by
 obtain ⟨A', c, nv, os, rfl, -, h2, h3, h4, h5⟩ := h; obtain ⟨B, d, rfl, h6, -⟩ := h3.nds; exact ⟨_, rfl, ⟨A', c, B, d, os, rfl, h2, h6, h4⟩, h5⟩
structure RrJ (w0 : World) (Pa : Nat) (Pr : Nat) (st : Int) (A : Option Addr) (ps : List (Int × Int)) (c : Nat) (B : Option Addr) (n : Nat) (d : Nat) (ns : List Nd) (b0 b1 b2 b3 b4 b5 b6 b7 b8 : Bool) (v7 v8 v9 v10 v11 v12 v13 v14 : Value) (w : World) : Prop where
 h0 : b0 = true → v7 = .pointer (some ⟨Pa, 0, none⟩)
 h1 : b1 = true → v8 = .int .i64 st
 h2 : b2 = true → v9 = .pointer (some ⟨Pa, 1, none⟩)
 h3 : b3 = true → v10 = .slice A ps.length c
 h4 : b4 = true → v11 = .pointer (some ⟨Pa, 2, none⟩)
 h5 : b5 = true → v12 = .slice B n d
 below : b8 = false → Below w0.heap.size w0 w
 hord : b8 = true → b1 = true ∧ b3 = true ∧ b5 = true ∧ b6 = true ∧ b7 = true
 h6 : b6 = true → b8 = false → ∃ os, OwnNA w w0.heap.size v13 os ∧ os.map Hd.nd = ns
 h7 : b7 = true → b8 = false → ∃ hv os, v14 = .agg #[.int .i64 st, .slice A ps.length c, hv] ∧ OwnNA w w0.heap.size hv os ∧ os.map Hd.nd = ns
 h8 : b8 = true → ∃ hv os w5, Below w0.heap.size w0 w5 ∧ OwnNA w5 w0.heap.size hv os ∧ os.map Hd.nd = ns ∧ w = ((w5.setCell ⟨Pr, 0, none⟩ (.int .i64 st)).setCell ⟨Pr, 1, none⟩ (.slice A ps.length c)).setCell ⟨Pr, 2, none⟩ hv

set_option maxHeartbeats 8000000 in
theorem rreduce_own (st : Int) (A : Option Addr) (c : Nat) (ps : List (Int × Int)) (B : Option Addr) (d : Nat) (hs : List Hd) (w : World) (hp : Pts w A ps) (hN : Nds w B hs) :
  Calls Tryd.prog 14 #[.agg #[.int .i64 st, .slice A ps.length c, .slice B hs.length d]] w (RetRR A (redT ⟨st, ps, hs.map Hd.nd⟩) w) := by
 obtain ⟨w0, hw0⟩ : ∃ w0, w0 = (w.alloc (.cells #[.int .i64 st, .slice A ps.length c, .slice B hs.length d] 25)).alloc (.cells #[.int .i64 0, .slice none 0 0, .slice none 0 0] 25) := ⟨_, rfl⟩
 have hb1 := below_new w (.cells #[.int .i64 st, .slice A ps.length c, .slice B hs.length d] 25); have hb0 : Below w.heap.size w w0 := by rw [hw0]; exact hb1.alloc hb1.size _
 have p0 : Blk w0 w.heap.size 25 #[.int .i64 st, .slice A ps.length c, .slice B hs.length d] := by rw [hw0]; exact (Blk.new w _ _).alloc _
 have q0 : Blk w0 (w.heap.size + 1) 25 #[.int .i64 0, .slice none 0 0, .slice none 0 0] := by
  rw [hw0]; have := Blk.new (w.alloc (.cells #[.int .i64 st, .slice A ps.length c, .slice B hs.length d] 25)) 25 #[.int .i64 0, .slice none 0 0, .slice none 0 0]; simpa using this
 have HR := Lib.hid (rright_any st A c ps B d hs w0 (hp.ext hb0) (hN.ext hb0)); have HP := Lib.hid (hp.ext hb0); have HN := Lib.hid (hN.ext hb0); have HB0 := Lib.hid hb0; have HP0 := Lib.hid p0; have HQ0 := Lib.hid q0; have HW0 := Lib.hid hw0; have c0 := p0.cell_ 0 (.int .i64 st) rfl; have c1 := p0.cell_ 1 (.slice A ps.length c) rfl; have c2 := p0.cell_ 2 (.slice B hs.length d) rfl; have hred : redT ⟨st, ps, hs.map Hd.nd⟩ = if rightN st ps (hs.map Hd.nd) then ⟨st, ps, redN chR (hs.map Hd.nd)⟩ else PT.zero := rfl
 rw [hred]; have HPO := Lib.hid hp; clear hb1 hb0 p0 q0 hw0 hp hN hred; cases hr : rightN st ps (hs.map Hd.nd) with
 | false =>
  rw [hr] at HR; clear hr; go_enter Tryd.func14, Tryd.ntmps14; go_upto_region 1 with fail
  rw [← HW0.out]; go_wp2_with (go_at_call 27; refine HR.out.mono ?_); rintro e w1 ⟨rfl, hb⟩; have q1 := HQ0.out.below hb HQ0.out.lt; have HQ1 := Lib.hid q1; have d0 := q1.cell_ 0 (.int .i64 0) rfl; have d1 := q1.cell_ 1 (.slice none 0 0) rfl; have d2 := q1.cell_ 2 (.slice none 0 0) rfl; have f0 := q1.frozen 0; have f1 := q1.frozen 1; have f2 := q1.frozen 2; have HB := Lib.hid (HB0.out.trans (hb.mono HB0.out.size)); clear q1 hb c0 c1 c2; go_wp2; have hq : Blk (((w1.setCell ⟨w.heap.size + 1, 0, none⟩ (.int .i64 0)).setCell ⟨w.heap.size + 1, 1, none⟩ (.slice none 0 0)).setCell ⟨w.heap.size + 1, 2, none⟩ (.slice none 0 0)) (w.heap.size + 1) 25 #[.int .i64 0, .slice none 0 0, .slice none 0 0] := ((HQ1.out.set_ 0 (.int .i64 0)).set_ 1 (.slice none 0 0)).set_ 2 (.slice none 0 0); exact bodyPost_ret (results_cell_row Tryd.results14 _ _ (w.heap.size + 1) 25 #[.int .i64 0, .slice none 0 0, .slice none 0 0] (0, 0) _ rfl hq Tryd.underlying25 rfl Tryd.sizeTree) rfl
   ⟨none, 0, _, [], rfl, .inr rfl, Pts.nil, OwnN.nil _ _ _ _, rfl, ((HB.out.setCell (p := ⟨w.heap.size + 1, 0, none⟩) (by simp) _).setCell (p := ⟨w.heap.size + 1, 1, none⟩) (by simp) _).setCell (p := ⟨w.heap.size + 1, 2, none⟩) (by simp) _⟩
 | true =>
  rw [hr] at HR; have HRR := Lib.hid hr; clear hr; go_enter Tryd.func14, Tryd.ntmps14; go_upto_region 1 with fail
  rw [← HW0.out]; go_wp2_with (go_at_call 27; refine HR.out.mono ?_); rintro e w1 ⟨rfl, hb⟩; have HQ1 := Lib.hid (HQ0.out.below hb HQ0.out.lt); have HP1 := Lib.hid (HP0.out.below hb HP0.out.lt); have HBw := Lib.hid (HB0.out.trans (hb.mono HB0.out.size)); have HPW := Lib.hid (HP.out.ext hb); have HCALL : Hid (∀ W, Below w1.heap.size w1 W → Calls Tryd.prog 36 #[.slice B hs.length d] W (RetNds (redN chR (hs.map Hd.nd)) W)) := Lib.hid (fun W hW => by
   obtain ⟨a1, a2, a3, a4, a5, a6, a7, a8, a9⟩ := rightN_parts HRR.out; rw [List.length_map] at a4 a5; have h99 := a9 (hs.length - 1) (by rw [List.length_map]; omega); have := reduced_any B d hs W ((HN.out.ext hb).ext hW) st.toNat a8 (by omega) (by omega) (by omega) (by omega) (by omega); rwa [ordR_eq a8 (by rw [List.length_map]; omega) (by rw [List.length_map]; omega)] at this)
  clear c0 c1 c2 hb; go_wp2; obtain ⟨nsR, hnsR⟩ : ∃ nsR, nsR = redN chR (hs.map Hd.nd) := ⟨_, rfl⟩
  rw [← hnsR] at HCALL ⊢; have HNS := Lib.hid hnsR; clear hnsR; refine wp_region_J (by kernel_rfl) (fun listed act w' => ∃ b0 b1 b2 b3 b4 b5 b6 b7 b8 v7 v8 v9 v10 v11 v12 v13 v14, listed = #[b0, b1, b2, b3, b4, b5, b6, b7, b8] ∧ act = Act.mk #[.agg #[.int .i64 st, .slice A ps.length c, .slice B hs.length d], .pointer (some ⟨w.heap.size, 0, none⟩), .pointer (some ⟨w.heap.size + 1, 0, none⟩), .agg #[.int .i64 st, .slice A ps.length c, .slice B hs.length d], .bool true, .bool false, undef, v7, v8, v9, v10, v11, v12, v13, v14] [] ∧ RrJ w1 w.heap.size (w.heap.size + 1) st A ps c B hs.length d nsR b0 b1 b2 b3 b4 b5 b6 b7 b8 v7 v8 v9 v10 v11 v12 v13 v14 w') ?_ ?_ ?_
  ·exact (e_8 (e_8 (e_1 ⟨rfl, rfl, (by constructor; (case below => exact (fun _ => (Below.refl _ w1).drew)); all_goals simp)⟩)))
  ·rintro i listed act w' hi ⟨b0, b1, b2, b3, b4, b5, b6, b7, b8, v7, v8, v9, v10, v11, v12, v13, v14, rfl, rfl, H⟩; have hi16 : i < 9 := by
    obtain ⟨-, o, ho, -⟩ := mem_ready.1 hi; exact (Array.getElem?_eq_some_iff.1 ho).1
   obtain rfl | rfl | rfl | rfl | rfl | rfl | rfl | rfl | rfl : i = 0 ∨ i = 1 ∨ i = 2 ∨ i = 3 ∨ i = 4 ∨ i = 5 ∨ i = 6 ∨ i = 7 ∨ i = 8 := by omega
   all_goals simp [mem_ready, Region.binds] at hi
   ·refine wpOp_hidden rfl fun K hK => ?_; go_wp2; refine OnlyN.mk (hK.out _ _ (e_8 (e_8 (e_1 ⟨rfl, rfl, { H with h0 := fun _ => rfl }⟩))))
   ·have b8f : b8 = false := by
     cases hb : b8 with
     | false => rfl
     | true => exact absurd (H.hord hb).1 (by simp [hi])
    have cc0 := ((H.below b8f).cell (p := ⟨w.heap.size, 0, none⟩) HP1.out.lt).trans (HP1.out.cell_ 0 (.int .i64 st) rfl); obtain rfl := H.h0 (by simp [hi]); clear b8f; refine wpOp_hidden rfl fun K hK => ?_; go_wp2; refine OnlyN.mk (hK.out _ _ (e_8 (e_8 (e_1 ⟨rfl, rfl, { H with h1 := fun _ => rfl, hord := fun h => ⟨rfl, (H.hord h).2.1, (H.hord h).2.2.1, (H.hord h).2.2.2.1, (H.hord h).2.2.2.2⟩ }⟩))))
   ·refine wpOp_hidden rfl fun K hK => ?_; go_wp2; refine OnlyN.mk (hK.out _ _ (e_8 (e_8 (e_1 ⟨rfl, rfl, { H with h2 := fun _ => rfl }⟩))))
   ·have b8f : b8 = false := by
     cases hb : b8 with
     | false => rfl
     | true => exact absurd (H.hord hb).2.1 (by simp [hi])
    have cc1 := ((H.below b8f).cell (p := ⟨w.heap.size, 1, none⟩) HP1.out.lt).trans (HP1.out.cell_ 1 (.slice A ps.length c) rfl); obtain rfl := H.h2 (by simp [hi]); clear b8f; refine wpOp_hidden rfl fun K hK => ?_; go_wp2; refine OnlyN.mk (hK.out _ _ (e_8 (e_8 (e_1 ⟨rfl, rfl, { H with h3 := fun _ => rfl, hord := fun h => ⟨(H.hord h).1, rfl, (H.hord h).2.2.1, (H.hord h).2.2.2.1, (H.hord h).2.2.2.2⟩ }⟩))))
   ·refine wpOp_hidden rfl fun K hK => ?_; go_wp2; refine OnlyN.mk (hK.out _ _ (e_8 (e_8 (e_1 ⟨rfl, rfl, { H with h4 := fun _ => rfl }⟩))))
   ·have b8f : b8 = false := by
     cases hb : b8 with
     | false => rfl
     | true => exact absurd (H.hord hb).2.2.1 (by simp [hi])
    have cc2 := ((H.below b8f).cell (p := ⟨w.heap.size, 2, none⟩) HP1.out.lt).trans (HP1.out.cell_ 2 (.slice B hs.length d) rfl); obtain rfl := H.h4 (by simp [hi]); clear b8f; refine wpOp_hidden rfl fun K hK => ?_; go_wp2; refine OnlyN.mk (hK.out _ _ (e_8 (e_8 (e_1 ⟨rfl, rfl, { H with h5 := fun _ => rfl, hord := fun h => ⟨(H.hord h).1, (H.hord h).2.1, rfl, (H.hord h).2.2.2.1, (H.hord h).2.2.2.2⟩ }⟩))))
   ·have b8f : b8 = false := by
     cases hb : b8 with
     | false => rfl
     | true => exact absurd (H.hord hb).2.2.2.1 (by simp [hi])
    obtain rfl := H.h5 (by simp [hi]); have HB0' := Lib.hid (H.below b8f); have HCX := Lib.hid (HCALL.out w' HB0'.out); clear b8f; refine wpOp_hidden rfl fun K hK => ?_; go_wp2_with (go_at_call 36; refine HCX.out.mono ?_); rintro e w9 ⟨v9, os9, rfl, ho9, he9, hb9⟩; have HO9 := Lib.hid (And.intro (show OwnNA w9 w1.heap.size v9 os9 from ⟨own_down ho9.1 HB0'.out.size, fun x hx => (ho9.2 x hx).down HB0'.out.size⟩) he9); have HB9 := Lib.hid hb9; clear ho9 he9 hb9 HCX; go_wp2; refine OnlyN.mk (hK.out _ _ (e_8 (e_8 (e_1 ⟨rfl, rfl, { H with below := fun h => (H.below h).trans (HB9.out.mono (H.below h).size), hord := fun h => ⟨(H.hord h).1, (H.hord h).2.1, (H.hord h).2.2.1, rfl, (H.hord h).2.2.2.2⟩, h6 := fun _ _ => ⟨os9, HO9.out.1, HO9.out.2⟩, h7 := fun h h2 => (by obtain ⟨hv, os, x1, x2, x3⟩ := H.h7 h h2; exact ⟨hv, os, x1, x2.ext HB9.out, x3⟩), h8 := fun h => absurd (H.hord h).2.2.2.1 (by simp [hi]) }⟩))))
   ·have b8f : b8 = false := by
     cases hb : b8 with
     | false => rfl
     | true => exact absurd (H.hord hb).2.2.2.2 (by simp [hi])
    obtain rfl := H.h1 (by simp [hi]); obtain rfl := H.h3 (by simp [hi]); obtain ⟨os9, h6, h6e⟩ := H.h6 (by simp [hi]) b8f; obtain ⟨An9, cn9, env, -, -⟩ := h6.nds; have HO6 := Lib.hid (And.intro h6 h6e); clear h6 h6e b8f; subst env; refine wpOp_hidden rfl fun K hK => ?_; go_wp2; refine OnlyN.mk (hK.out _ _ (e_8 (e_8 (e_1 ⟨rfl, rfl, { H with hord := fun h => ⟨(H.hord h).1, (H.hord h).2.1, (H.hord h).2.2.1, (H.hord h).2.2.2.1, rfl⟩, h7 := fun _ _ => ⟨_, os9, rfl, HO6.out.1, HO6.out.2⟩, h8 := fun h => absurd (H.hord h).2.2.2.2 (by simp [hi]) }⟩))))
   ·obtain ⟨hv, os9, hv14, h7, h7e⟩ := H.h7 (by simp [hi]) (by simp [hi]); subst hv14; obtain ⟨An9, cn9, env, -, -⟩ := h7.nds; have HO7 := Lib.hid (And.intro h7 h7e); have HBL := Lib.hid (H.below (by simp [hi])); have hpw := HQ1.out.below HBL.out HQ1.out.lt; have cc0 := hpw.cell_ 0 (.int .i64 0) rfl; have cc1 := hpw.cell_ 1 (.slice none 0 0) rfl; have cc2 := hpw.cell_ 2 (.slice none 0 0) rfl; have ff0 := hpw.frozen 0; have ff1 := hpw.frozen 1; have ff2 := hpw.frozen 2; subst env; clear h7 h7e hpw; refine wpOp_hidden rfl fun K hK => ?_; go_wp2; refine OnlyN.mk (hK.out _ _ (e_8 (e_8 (e_1 ⟨rfl, rfl, { H with below := fun h => (by cases h), hord := fun _ => (by simp [hi]), h6 := fun _ h => (by cases h), h7 := fun _ h => (by cases h), h8 := fun _ => ⟨_, os9, _, HBL.out, HO7.out.1, HO7.out.2, rfl⟩ }⟩))))
  ·rintro listed act w' hr ⟨b0, b1, b2, b3, b4, b5, b6, b7, b8, v7, v8, v9, v10, v11, v12, v13, v14, rfl, rfl, H⟩; have hn := List.eq_nil_iff_forall_not_mem.1 hr; have r0 := hn 0; simp [mem_ready, Region.binds] at r0; subst r0; have r1 := hn 1; simp [mem_ready, Region.binds] at r1; subst r1; have r2 := hn 2; simp [mem_ready, Region.binds] at r2; subst r2; have r3 := hn 3; simp [mem_ready, Region.binds] at r3; subst r3; have r4 := hn 4; simp [mem_ready, Region.binds] at r4; subst r4; have r5 := hn 5; simp [mem_ready, Region.binds] at r5; subst r5; have r6 := hn 6; simp [mem_ready, Region.binds] at r6; subst r6; have r7 := hn 7; simp [mem_ready, Region.binds] at r7; subst r7; have r8 := hn 8; simp [mem_ready, Region.binds] at r8; subst r8; try dsimp only
   obtain ⟨hv, os9, w5, hb5, h7, h7e, hw5⟩ := H.h8 rfl; obtain ⟨An9, cn9, env, -, -⟩ := h7.nds; subst env; have hpw := HQ1.out.below hb5 HQ1.out.lt; have hp3 : Blk w' (w.heap.size + 1) 25 #[.int .i64 st, .slice A ps.length c, .slice An9 os9.length cn9] := by rw [hw5]; exact ((hpw.set_ 0 (.int .i64 st)).set_ 1 (.slice A ps.length c)).set_ 2 (.slice An9 os9.length cn9)
   have hk3 : Kept (fun g => g = w.heap.size + 1) w5 w' := by rw [hw5]; exact (((Kept.refl (fun g => g = w.heap.size + 1) w5).setCell (p := ⟨w.heap.size + 1, 0, none⟩) (Or.inl rfl) _).setCell (p := ⟨w.heap.size + 1, 1, none⟩) (Or.inl rfl) _).setCell (p := ⟨w.heap.size + 1, 2, none⟩) (Or.inl rfl) _
   have hlt := HQ1.out.lt; have ho : OwnNA w' w1.heap.size (.slice An9 os9.length cn9) os9 := OwnN.kept h7 hk3 (fun g e e2 => by have := (own_lt' h7.1 e).2; omega) (fun x hx g e e2 => by have := (own_lt' (h7.2 x hx) e).2; omega); obtain ⟨A', c', e', hnds, -⟩ := ho.nds; injection e' with e1 e2 e3
   subst e1; have hb5' : Below w.heap.size w w' := (HBw.out.trans (hb5.mono HBw.out.size)).trans (hk3.to_below (by have := HBw.out.size; have := hb5.size; omega) (fun g hg e => by omega)); have hpt : Pts w' A ps := HPO.out.ext hb5'; have HFIN : Hid (Pts w' A ps ∧ OwnNA w' w.heap.size (.slice An9 os9.length cn9) os9 ∧ os9.map Hd.nd = nsR ∧ Below w.heap.size w w') := Lib.hid ⟨hpt, ⟨own_down ho.1 HBw.out.size, fun x hx => (ho.2 x hx).down HBw.out.size⟩, h7e, hb5'⟩; have HP3 := Lib.hid hp3; clear H hr hn hb5 h7 h7e hw5 hpw hk3 ho hnds hb5' hpt hp3; go_wp2; exact bodyPost_ret (results_cell_row Tryd.results14 _ _ (w.heap.size + 1) 25 #[.int .i64 st, .slice A ps.length c, .slice An9 os9.length cn9] (0, 0) _ rfl HP3.out Tryd.underlying25 rfl Tryd.sizeTree) rfl ⟨A, c, _, os9, rfl, .inl rfl, HFIN.out.1, HFIN.out.2.1, (by rw [HFIN.out.2.2.1] <;> exact HNS.out), HFIN.out.2.2.2⟩
theorem rreduce_any (st : Int) (A : Option Addr) (c : Nat) (ps : List (Int × Int)) (B : Option Addr) (d : Nat) (hs : List Hd) (w : World) (hp : Pts w A ps) (hN : Nds w B hs) :
  Calls Tryd.prog 14 #[.agg #[.int .i64 st, .slice A ps.length c, .slice B hs.length d]] w (RetAt (redT ⟨st, ps, hs.map Hd.nd⟩) w) :=
 (rreduce_own st A c ps B d hs w hp hN).mono fun _ _ h => h.at_
end Go.Proofs.YtlegfdllipkggaaDoor
namespace Go.Proofs.YtlegfdllipkggaaDoor
set_option linter.unusedSimpArgs false
set_option linter.unusedVariables false

theorem redN_ok {q : Nat} {l : List Nd} {ch : Int → List Int → List Int} (h : VNd q l) (hc : Chg q ch) (hp : 0 < l.length) (hl : (ndAt l (l.length - 1)).1 ≤ 100) :
  VNd q (redN ch l) ∧ Dis (redN ch l) (· < (redN ch l).length) ∧ 0 < (redN ch l).length ∧ Eqv q (redN ch l) ((redN ch l).length - 1) (chgL ch l) (l.length - 1) ∧ (redN ch l).length ≤ l.length := by
 have hR := RbI.all h hc _ (Nat.le_refl _); obtain ⟨g1, g2, g3⟩ := hR.eqv (l.length - 1) (by omega); have hlv : (ndAt (chgL ch l) (l.length - 1)).1 = (ndAt l (l.length - 1)).1 := by rw [chg_at ch (by omega)]
 obtain ⟨o1, o2, o3, o4, o5, o6⟩ := ord_ok hR.v.lev hR.dis (f := 100) (root := ((rebTo ch l l.length).2.getD (l.length - 1) 0).toNat) (by rw [g3.1, hlv]; omega) g2; have e : redN ch l = ord (rebTo ch l l.length).1 100 ((rebTo ch l l.length).2.getD (l.length - 1) 0).toNat := rfl; rw [← e] at o1 o2 o3 o4 o5 o6; refine ⟨⟨o1, o3, fun i hi hl1 z hz => ?_⟩, o2, o4, o5.trans g3, ?_⟩
 ·obtain ⟨j, pj, ej⟩ := o6 i hi; obtain ⟨s, hs, rfl⟩ := List.getElem_of_mem hz; have hq : s < q := by rw [← o1.len i hi]; exact hs
  have hv := ej.2 [s] (by rw [hl1]; rfl) (by simpa using hq); simp only [val, Int.toNat_natCast] at hv; have hjl := hR.v.lev.len j pj; have g : (ndAt (redN ch l) i).2.getD s 0 = (ndAt (redN ch l) i).2[s] := by rw [List.getD_eq_getElem?_getD, List.getElem?_eq_getElem hs]; rfl
  rw [g] at hv; rw [hv]; exact hR.v.low j pj (by rw [← ej.1]; exact hl1) _ (getD_mem (by rw [hjl]; exact hq))
 ·obtain ⟨d1, -⟩ := dfs_ok hR.v.lev 100 ((rebTo ch l l.length).2.getD (l.length - 1) 0).toNat _ (by rw [g3.1, hlv]; omega) g2 (Inv.start q (rebTo ch l l.length).1 (· < (rebTo ch l l.length).1.length)); have := d1.le; have := hR.le; rw [e]; unfold ord; omega
theorem redT_ok {t : PT} (h : t.right = true) : VNd t.st.toNat (redT t).ns ∧ Dis (redT t).ns (· < (redT t).ns.length) ∧ 0 < (redT t).ns.length ∧ Eqv t.st.toNat (redT t).ns ((redT t).ns.length - 1) t.ns (t.ns.length - 1) ∧ (redT t).ns.length ≤ t.ns.length ∧ (redT t).st = t.st ∧ (redT t).ps = t.ps := by
 obtain ⟨a1, a2, a3, a4, a5, a6, a7, a8, a9⟩ := rightN_parts h; have e : redT t = ⟨t.st, t.ps, redN chR t.ns⟩ := by unfold redT; rw [if_pos h]
 rw [e]; have := redN_ok a8 (chR_chg _) (by omega) (by omega); rw [show chgL chR t.ns = t.ns from by unfold chgL chR; simp] at this; exact ⟨this.1, this.2.1, this.2.2.1, this.2.2.2.1, this.2.2.2.2, rfl, rfl⟩
theorem redT_bad {t : PT} (h : t.right = false) : redT t = PT.zero := by unfold redT; rw [if_neg (by rw [h]; decide)]
end Go.Proofs.YtlegfdllipkggaaDoor
namespace Go.Proofs.YtlegfdllipkggaaDoor
set_option linter.unusedSimpArgs false
open Go.RowKit
set_option linter.unusedVariables false

def fI {α : Type} (p : α → Bool) : List α → Nat → Int
 | [], _ => -1
 | z :: r, k => if p z then (k : Int) else fI p r (k + 1)
theorem fI_any {α : Type} (p : α → Bool) : ∀ (l : List α) (k : Nat), decide (0 ≤ fI p l k) = l.any p
 | [], k => rfl
 | z :: r, k => by
  unfold fI; rw [List.any_cons]; cases h : p z with
  | true => simp
  | false => simp [fI_any p r (k + 1)]
theorem fI_step {α : Type} (p : α → Bool) {l : List α} {k : Nat} (h : k < l.length) : fI p (l.drop k) k = if p l[k] then (k : Int) else fI p (l.drop (k + 1)) (k + 1) := by
 rw [List.drop_eq_getElem_cons h]; rfl
def badS (st s : Int) : Bool := decide (s < 0) || decide (st ≤ s)
theorem meas_step {n k : Nat} (h : k < n) : n - (intOf (.int .i64 ((k : Int) + 1))).toNat < n - (intOf (.int .i64 (k : Int))).toNat := by
 simp only [intOf]; omega
end Go.Proofs.YtlegfdllipkggaaDoor
namespace Go.Proofs.YtlegfdllipkggaaDoor
set_option linter.unusedSimpArgs false
open Go.RowKit Go.Maps
set_option linter.unusedVariables false

def alc : World → List Obj → World
 | w, [] => w
 | w, o :: r => alc (w.alloc o) r
theorem alc_size : ∀ (os : List Obj) (w : World), (alc w os).heap.size = w.heap.size + os.length
 | [], w => rfl
 | o :: r, w => by
  show (alc (w.alloc o) r).heap.size = _; rw [alc_size r, List.length_cons]
  simp
  omega
theorem alc_below : ∀ (os : List Obj) (w : World), Below w.heap.size w (alc w os)
 | [], w => Below.refl _ _
 | o :: r, w => by
  have h1 := below_new w o; exact h1.trans ((alc_below r (w.alloc o)).mono h1.size)
theorem alc_at : ∀ (os : List Obj) (w : World) (i : Nat) (o : Obj), os[i]? = some o → (alc w os).heap[w.heap.size + i]? = some o
 | [], w, i, o, h => by simp at h
 | x :: r, w, 0, o, h => by
  simp at h; subst h; have h1 := heap_alloc_new w x; have h2 : w.heap.size < (w.alloc x).heap.size := by simp
  rw [Nat.add_zero]; exact ((alc_below r (w.alloc x)).block _ h2).trans h1
 | x :: r, w, i + 1, o, h => by
  have := alc_at r (w.alloc x) i o (by simpa using h); have e : (w.alloc x).heap.size + i = w.heap.size + (i + 1) := by simp; omega
  rw [e] at this; exact this
theorem alc_blk {os : List Obj} {w : World} {i g : Nat} {cs : Array Value} {T : TypeId} (hg : g = w.heap.size + i) (h : os[i]? = some (.cells cs T)) : Blk (alc w os) g T cs := by
 subst hg; exact alc_at os w i _ h
theorem alc_map {os : List Obj} {w : World} {i g : Nat} (hg : g = w.heap.size + i) (h : os[i]? = some (.map #[] 0)) (P : Program) (k : TypeId) (R : Value → Option (DataW Unit × List MemPlace)) : (alc w os).ownsMap P k R g 0 (.map []) := by
 subst hg; obtain ⟨es, clock, hb, r⟩ := World.ownsMap_made (H := Unit) w P k R; have h2 := heap_alloc_new w (.map #[] 0); rw [h2] at hb; injection hb with hb
 injection hb with e1 e2
 subst e1 e2; exact ⟨#[], 0, alc_at os w i _ h, r⟩
theorem OwnN.readB {T I : TypeId} {w : World} {base : Nat} {A : Option Addr} {n c : Nat} {hs : List Hd} (h : OwnN T I w base (.slice A n c) hs) : Nds w A hs := by
 obtain ⟨A', c', e, hi, -⟩ := h.nds; injection e with e
 subst e; exact hi
def RetBd (q : Int) (hA : Option Addr) (hc : Nat) (ps : List (Int × Int)) (ns : List Nd) (w : World) (e : Ending) (w' : World) : Prop := ∃ B d os, e = .returned (.agg #[.int .i64 q, .slice hA ps.length hc, .slice B os.length d]) ∧ OwnNA w' w.heap.size (.slice B os.length d) os ∧ os.map Hd.nd = ns ∧ Below w.heap.size w w'
theorem results_ct {P : Program} {fn : Func} {p u : Tmp} {ty : TypeId} (h : fn.results = #[.cell p ty, .tmp u]) (tmps : Array Value) (w : World) (g : Nat) (t : TypeId) (cs : Array Value) (fr : Nat × Nat) (d : TypeDesc)
  (hp : tmps.getD p undef = .pointer (some ⟨g, 0, none⟩)) (hg : w.heap[g]? = some (.cells cs t fr))
  (hu : P.underlying ty = some d) (hd : (match d with | .struct _ | .array _ _ => true | _ => false) = true) (hi : (P.info? ty).map (·.size) = some cs.size) :
  (results fn tmps).run P w = .ok (.tuple #[.agg cs, tmps.getD u undef]) w := by
 rw [results_cell_tmp h, hp]; simp [asAddr, run_loadVar_row w g t ty cs fr d hg hu hd hi, Result.andThen]
set_option maxRecDepth 100000

structure TrV (w : World) (p : Nat) (st : Int) (A : Option Addr) (n c : Nat) (B : Option Addr) (m d : Nat) (t : PT) : Prop where
 blk : Blk w p 25 #[.int .i64 st, .slice A n c, .slice B m d]
 at_ : TreeAt w (.agg #[.int .i64 st, .slice A n c, .slice B m d]) t
section
variable {w w' : World} {p : Nat} {st : Int} {A : Option Addr} {n c : Nat} {B : Option Addr} {m d : Nat} {t u : PT} {v x : Value} {k s : Int}
theorem TrV.ext (h : TrV w p st A n c B m d t) (hb : Below w.heap.size w w') : TrV w' p st A n c B m d t := ⟨h.blk.below hb h.blk.lt, h.at_.ext hb⟩
theorem TrV.new (h : TreeAt w (.agg #[.int .i64 st, .slice A n c, .slice B m d]) t) : TrV (w.alloc (.cells #[.int .i64 st, .slice A n c, .slice B m d] 25)) w.heap.size st A n c B m d t := ⟨Blk.new _ _ _, h.ext (below_new _ _)⟩
theorem TrV.cells (h : TrV w p st A n c B m d t) : w.cell? ⟨p, 0, none⟩ = some (.int .i64 st) ∧ w.cell? ⟨p, 1, none⟩ = some (.slice A n c) ∧ w.cell? ⟨p, 2, none⟩ = some (.slice B m d) :=
 ⟨h.blk.cell_ 0 (.int .i64 st) rfl, h.blk.cell_ 1 (.slice A n c) rfl, h.blk.cell_ 2 (.slice B m d) rfl⟩
theorem TreeAt.len_ (h : TreeAt w (.agg #[.int .i64 st, .slice A n c, .slice B m d]) t) : m = t.ns.length := by
 obtain ⟨A', c', B', d', os, e, h1, h2, h3⟩ := h; injection e with e
 simp only [Array.mk.injEq, List.cons.injEq, Value.int.injEq, Value.slice.injEq, true_and, and_true] at e; obtain ⟨-, -, -, rfl, -⟩ := e; rw [← h3, List.length_map]
def RetA (t : PT) (w : World) (e : Ending) (w' : World) : Prop := ∃ st A n c B m d, e = .returned (.agg #[.int .i64 st, .slice A n c, .slice B m d]) ∧ TreeAt w' (.agg #[.int .i64 st, .slice A n c, .slice B m d]) t ∧ Below w.heap.size w w'
def RetAE (te : PT × Int) (w : World) (e : Ending) (w' : World) : Prop := ∃ st A n c B m d, e = .returned (.tuple #[.agg #[.int .i64 st, .slice A n c, .slice B m d], .int .i64 te.2]) ∧ TreeAt w' (.agg #[.int .i64 st, .slice A n c, .slice B m d]) te.1 ∧ Below w.heap.size w w'
theorem TreeAt.form (h : TreeAt w v t) : ∃ st A n c B m d, v = .agg #[.int .i64 st, .slice A n c, .slice B m d] := by
 obtain ⟨A, c, B, d, os, rfl, -⟩ := h; exact ⟨_, _, _, _, _, _, _, rfl⟩
theorem RetT.a {e : Ending} (h : RetT t w e w') : RetA t w e w' := by
 obtain ⟨v, rfl, h2, h3⟩ := h.treeAt; obtain ⟨st, A, n, c, B, m, d, rfl⟩ := h2.form; exact ⟨st, A, n, c, B, m, d, rfl, h2, h3⟩
theorem RetAt.a {e : Ending} (h : RetAt t w e w') : RetA t w e w' := by
 obtain ⟨v, rfl, h2, h3⟩ := h; obtain ⟨st, A, n, c, B, m, d, rfl⟩ := h2.form; exact ⟨st, A, n, c, B, m, d, rfl, h2, h3⟩
theorem red_tv (h : TreeAt w v t) (ht : TabB w.heap.size w) : Calls Tryd.prog 24 #[v] w (RetA (redT t) w) := by
 obtain ⟨A, c, B, d, os, rfl, h1, h2, h3⟩ := h; have := reduce_any t.st A c t.ps B d os w h1 h2 ht; rw [h3] at this; exact this.mono fun _ _ h => h.a
end
theorem OwnN.reads {w : World} {base : Nat} {A : Option Addr} {n c : Nat} {hs : List Hd} (h : OwnNA w base (.slice A n c) hs) : Nds w A hs := by
 obtain ⟨A', c', e, hi, -⟩ := h.nds; injection e with e
 subst e; exact hi
end Go.Proofs.YtlegfdllipkggaaDoor
