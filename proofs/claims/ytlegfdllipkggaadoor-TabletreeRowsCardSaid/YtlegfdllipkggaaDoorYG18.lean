/-
  texts Each OwnBl Dead REval15: parts of the proof; conditions stand with each theorem.
-/
import Derived.Test.YtlegfdllipkggaaDoorYG17
import Derived.Test.YtlegfdllipkggaaDoorYWalk
import Derived.Test.YtlegfdllipkggaaDoorYG2
import Derived.Test.YtlegfdllipkggaaDoorYG8
import Derived.Test.YtlegfdllipkggaaDoorYG14
import Derived.Test.YtlegfdllipkggaaDoorYG9
import Derived.Test.YtlegfdllipkggaaDoorYG6
namespace Go.Proofs.YtlegfdllipkggaaDoor
open Go.RowKit Go.Maps
set_option maxRecDepth 100000
set_option linter.unusedVariables false
set_option linter.unusedSimpArgs false
def cellN (w : World) (a : Addr) : Nat := match w.cell? a with | some (.int _ z) => z.toNat | _ => 0
def memN (w : World) (g q n : Nat) : Nat := numL q ((List.range n).map fun i => cellN w ⟨g, i, none⟩)
theorem memN_own {w : World} {B g n c q : Nat} {l : List Nat} (h : OwnIA w B (.slice (some ⟨g, 0, none⟩) n c) (intsN l)) (hl : l.length = n) : memN w g q n = numL q l := by
 unfold memN
 congr 1
 refine List.ext_getElem (by simp [hl]) fun i h1 h2 => ?_; obtain ⟨h3, -⟩ := OwnI.cellk h (k := i) (by rw [intsN_len]; exact h2); simp only [List.getElem_map, List.getElem_range]; unfold cellN; rw [h3]; have : (intsN l).getD i 0 = (l[i] : Int) := by
  unfold intsN; rw [List.getD_eq_getElem?_getD, List.getElem?_map, List.getElem?_eq_getElem h2]; rfl
 rw [this]
 simp
theorem intsN_app (a b : List Nat) : intsN (a ++ b) = intsN a ++ intsN b := by simp [intsN]
theorem intsN_getD {l : List Nat} {i : Nat} (h : i < l.length) : (intsN l).getD i 0 = ((l.getD i 0 : Nat) : Int) := by
 unfold intsN; rw [List.getD_eq_getElem?_getD, List.getElem?_map, List.getElem?_eq_getElem h, List.getD_eq_getElem?_getD, List.getElem?_eq_getElem h]; rfl
theorem set_mid15 (a : List Nat) (x y : Nat) (b : List Nat) : (intsN (a ++ [x] ++ b)).set a.length (y : Int) = intsN (a ++ [y] ++ b) := by
 rw [intsN_app, intsN_app, intsN_app, intsN_app, List.append_assoc, List.append_assoc, List.set_append_right _ _ (by rw [intsN_len]; exact Nat.le_refl _), intsN_len, Nat.sub_self]; rfl
theorem getD_mid15 (a : List Nat) (x : Nat) (b : List Nat) : (a ++ [x] ++ b).getD a.length 0 = x := by
 rw [List.append_assoc, List.getD_eq_getElem?_getD, List.getElem?_append_right (Nat.le_refl _), Nat.sub_self]; rfl
set_option maxHeartbeats 16000000 in
theorem each_any (q n gt gA gL : Nat) (S : Nat → World → Prop) (WE : World) (hq1 : 1 ≤ q) (hq8 : q ≤ 8) (hn1 : 1 ≤ n) (hn : n ≤ 25) (h0 : S 0 WE) (hgL : gL < WE.heap.size)
  (hst : ∀ m W W', S m W → WE.heap.size ≤ W.heap.size → Below WE.heap.size W W' → S m W')
  (hvis : ∀ m A c W, m < q ^ n → S m W → WE.heap.size ≤ W.heap.size → Ints W A (intsN (digs q n m)) → Calls Tryd.prog 42 #[.slice A n c, .pointer (some ⟨gt, 0, none⟩), .pointer (some ⟨gA, 0, none⟩)] W fun e w' => e = .returned (.tuple #[]) ∧ S (m + 1) w' ∧ Kept (fun g => g = gL) W w') :
  Calls Tryd.prog 41 #[.int .i64 (q : Int), .int .i64 (n : Int), .func (.func 42) #[] #[.pointer (some ⟨gt, 0, none⟩), .pointer (some ⟨gA, 0, none⟩)]] WE fun e w' => e = .returned (.tuple #[]) ∧ S (q ^ n) w' ∧ Kept (fun g => g = gL) WE w' := by
 have HQ := Lib.hid (And.intro hq1 (And.intro hq8 (And.intro hn1 hn))); have HS := Lib.hid (And.intro h0 (And.intro hgL (And.intro hst hvis))); obtain ⟨i0, hi0, hz0, hz1, hz2⟩ := info_parts Tryd.infoInt; have hmw : WE.heap.size ≤ WE.heap.size := Nat.le_refl _; clear h0 hgL hst hvis; go_enter Tryd.func41, Tryd.ntmps41; go_wp2_with (at_make; refine wpList_make_full _ rfl _ _ 41 rfl WE.heap.size 3 i0 _ 1 Tryd.underlying41 hi0 hz0 hz1 .i64 .i64 n n n rfl rfl rfl rfl (by rw [hz2]; omega) (by unfold maxLen; omega) hmw ?_); intro w1 ho1 hg1; have hb1 : Below WE.heap.size WE w1 := (Below.refl _ WE).grown hg1 (Nat.le_refl _) (by intro k hk; cases hk); obtain ⟨gI, hgI⟩ : ∃ g, g = WE.heap.size := ⟨_, rfl⟩
 have hr1 : OwnIA w1 WE.heap.size (.slice (some ⟨WE.heap.size, 0, none⟩) n n) (intsN (digs q n 0)) := by
  rw [digs_zero]; unfold OwnIA OwnI intsN; rw [List.length_map, List.length_replicate, List.map_replicate, List.map_replicate]; rw [toList_madeCells_one] at ho1; exact ho1
 have HR1 : Hid (OwnIA w1 WE.heap.size (.slice (some ⟨gI, 0, none⟩) n n) (intsN (digs q n 0))) := Lib.hid (by rw [hgI]; exact hr1); have HS1 : Hid (S 0 w1) := Lib.hid (HS.out.2.2.1 0 WE w1 HS.out.1 (Nat.le_refl _) hb1); have HK1 : Hid (Kept (fun g => g = gL) WE w1) := Lib.hid (Kept.of_new _ hb1); have HGI : Hid (gI = WE.heap.size) := Lib.hid hgI; have hpos : 0 < q ^ n := Nat.pow_pos (by omega); have HPOS := Lib.hid hpos; rw [← hgI]; clear ho1 hg1 hb1 hr1 hgI hi0 hz0 hz1 hz2 hmw hpos hq1 hq8 hn1 hn; go_wp2; go_loopw [7] (fun kv wr => ∃ m : Nat, m < q ^ n ∧ Hid (OwnIA wr WE.heap.size (.slice (some ⟨gI, 0, none⟩) n n) (intsN (digs q n m))) ∧ Hid (S m wr) ∧ Hid (Kept (fun g => g = gL) WE wr)) (fun _ wr => q ^ n - memN wr gI q n)
 case atStart => exact ⟨0, HPOS.out, HR1, HS1, HK1⟩
 case round =>
  clear HR1 HS1 HK1; obtain ⟨m, hm, HO, HSM, HKM⟩ := hrel; have HM := Lib.hid hm; have HMEM : Hid (memN wr gI q n = m) := Lib.hid (by rw [memN_own HO.out (digs_len _ _ _)]; exact numL_digs (by have := HQ.out.1; omega) n m hm); have HV := Lib.hid (HS.out.2.2.2 m (some ⟨gI, 0, none⟩) n wr hm HSM.out HKM.out.below.size (by have := OwnI.reads HO.out; exact this)); clear hm; go_wp2_with (go_at_call 42; refine HV.out.mono ?_; rintro e w2 ⟨rfl, hs2, hk2⟩; refine Hid.out ?_); refine Lib.hid ?_; have HS2 := Lib.hid hs2; have HO2 : Hid (OwnIA w2 WE.heap.size (.slice (some ⟨gI, 0, none⟩) n n) (intsN (digs q n m))) := Lib.hid (hk2.own HO.out (fun g e1 e2 => by have := (own_lt' HO.out e1).2; have := HS.out.2.1; omega)); have HK2 := Lib.hid (HKM.out.trans hk2); have hn64 : wrap64 ((n : Int) - 1) = (n : Int) - 1 := by have := HQ.out; unfold wrap64; omega
  clear hs2 hk2; go_wp2; go_loopw [7] (fun kv wi => ∃ j : Nat, Hid (Odo q n m j) ∧ kv = .int .i64 ((n : Int) - 1 - (j : Int)) ∧ Hid (OwnIA wi WE.heap.size (.slice (some ⟨gI, 0, none⟩) n n) (intsN (digs q (n - j) (m / q ^ j) ++ List.replicate j 0))) ∧ Hid (Below WE.heap.size w2 wi)) (fun kv _ => (intOf kv + 1).toNat)
  case atStart => exact ⟨0, Lib.hid (Odo.zero q n m), (by rw [show ((0 : Nat) : Int) = 0 from rfl, Int.sub_zero]; first | rfl | exact congrArg _ hn64), Lib.hid (by simpa using HO2.out), Lib.hid (Below.refl _ _)⟩
  case round =>
   obtain ⟨j, HOD, rfl, HOJ, HBJ⟩ := hrel; have hle := HOD.out.le; by_cases hjn : j < n
   ·obtain ⟨kk, hkk⟩ : ∃ kk : Nat, kk = n - j - 1 := ⟨_, rfl⟩
    obtain ⟨dg, hdg⟩ : ∃ d, d = m / q ^ j % q := ⟨_, rfl⟩
    have hrow := Odo.row (q := q) (m := m) hjn; rw [← hdg] at hrow; have hlk : (digs q (n - j - 1) (m / q ^ j / q)).length = kk := by rw [digs_len, hkk]
    have hown := HOJ.out; rw [hrow] at hown; have HOW := Lib.hid hown; have hkl : kk < (intsN (digs q (n - j - 1) (m / q ^ j / q) ++ [dg] ++ List.replicate j 0)).length := by rw [intsN_len, List.length_append, List.length_append, hlk]; simp; omega
    obtain ⟨ck, fk⟩ := OwnI.cellk hown hkl; rw [intsN_getD (by rw [intsN_len] at hkl; exact hkl), ← hlk, getD_mid15, hlk] at ck; have hkI : ((n : Int) - 1 - (j : Int)) = (kk : Int) := by omega
    have hk0 : decide (0 ≤ (kk : Int)) = true := decide_eq_true (by omega); have hkn : kk < n := by omega
    have hq64 : wrap64 ((q : Int) - 1) = (q : Int) - 1 := by have := HQ.out; unfold wrap64; omega
    have hdq : dg < q := by rw [hdg]; exact Nat.mod_lt _ (by have := HQ.out.1; omega)
    have hk64 : wrap64 ((kk : Int) - 1) = (kk : Int) - 1 := by have := HQ.out; unfold wrap64; omega
    have HJN := Lib.hid (And.intro hjn (And.intro hlk (And.intro hdg (And.intro hkk (And.intro hkI hdq))))); have HSZ : Hid (WE.heap.size ≤ gI) := Lib.hid (by rw [HGI.out]; exact Nat.le_refl _); rw [hkI]; clear hle hrow hown hkl hkk hdg hjn hlk; by_cases hd : dg + 1 = q
    ·have hq1 : ((dg : Int) == (q : Int) - 1) = true := beq_iff_eq.2 (by omega); have HO9 : Hid (OwnIA (wr.setCell ⟨gI, kk, none⟩ (.int .i64 0)) WE.heap.size (.slice (some ⟨gI, 0, none⟩) n n) (intsN (digs q (n - (j + 1)) (m / q ^ (j + 1)) ++ List.replicate (j + 1) 0))) := Lib.hid (by
      have h1 := OwnI.set HOW.out (by rw [intsN_len, List.length_append, List.length_append, HJN.out.2.1]; simp; have := HJN.out; omega) kk 0; have h2 := set_mid15 (digs q (n - j - 1) (m / q ^ j / q)) dg 0 (List.replicate j 0); rw [HJN.out.2.1] at h2; rw [show ((0 : Nat) : Int) = 0 from rfl] at h2; rw [h2] at h1; rw [← digs_div, show n - (j + 1) = n - j - 1 by omega, List.replicate_succ, ← List.singleton_append, ← List.append_assoc]; exact h1)
     have HB9 : Hid (Below WE.heap.size w2 (wr.setCell ⟨gI, kk, none⟩ (.int .i64 0))) := Lib.hid (HBJ.out.setCell (p := ⟨gI, kk, none⟩) HSZ.out _); have HOD2 := Lib.hid (HOD.out.succ HJN.out.1 (by rw [← HJN.out.2.2.1]; exact hd)); clear hd; go_wp2; go_roundw
     case rel => exact ⟨j + 1, HOD2, (by first | (rw [hk64, ← HJN.out.2.2.2.2.1]; congr 1; omega) | (have := HJN.out.2.2.2.2.1; congr 1; omega)), HO9, HB9⟩
     case measure => (try rw [hk64]); simp only [intOf]; omega
    ·have hq1 : ((dg : Int) == (q : Int) - 1) = false := beq_false_of_ne (by omega); have hkn0 : decide ((kk : Int) < 0) = false := decide_eq_false (by omega); have hd64 : wrap64 ((dg : Int) + 1) = ((dg + 1 : Nat) : Int) := by have := HQ.out; unfold wrap64; omega
     have HO9 : Hid (OwnIA (wr.setCell ⟨gI, kk, none⟩ (.int .i64 ((dg : Int) + 1))) WE.heap.size (.slice (some ⟨gI, 0, none⟩) n n) (intsN (digs q n (m + 1)))) := Lib.hid (by
      have h1 := OwnI.set HOW.out (by rw [intsN_len, List.length_append, List.length_append, HJN.out.2.1]; simp; have := HJN.out; omega) kk ((dg + 1 : Nat) : Int); have h2 := set_mid15 (digs q (n - j - 1) (m / q ^ j / q)) dg (dg + 1) (List.replicate j 0); rw [HJN.out.2.1] at h2; rw [h2] at h1; rw [HOD.out.next (by have := HQ.out.1; omega) HJN.out.1 (by rw [← HJN.out.2.2.1]; have := HJN.out.2.2.2.2.2; omega), ← HJN.out.2.2.1]; exact h1)
     have HB9 : Hid (Below WE.heap.size w2 (wr.setCell ⟨gI, kk, none⟩ (.int .i64 ((dg : Int) + 1)))) := Lib.hid (HBJ.out.setCell (p := ⟨gI, kk, none⟩) HSZ.out _); have HM1 : Hid (m + 1 < q ^ n) := Lib.hid (by
      have h1 := HOD.out.eq; have h2 : m / q ^ j + 1 < q ^ (n - j) := by
       have h3 : m / q ^ j < q ^ (n - j) := by
        rw [Nat.div_lt_iff_lt_mul (Nat.pow_pos (by have := HQ.out.1; omega)), ← Nat.pow_add, show n - j + j = n by have := HJN.out.1; omega]; exact HM.out
       rcases Nat.lt_or_ge (m / q ^ j + 1) (q ^ (n - j)) with h4 | h4
       ·exact h4
       ·exfalso; have h5 : m / q ^ j + 1 = q ^ (n - j) := by omega
        have h6 : (m / q ^ j + 1) % q = 0 := by
         rw [h5, show n - j = (n - j - 1) + 1 by have := HJN.out.1; omega, Nat.pow_succ, Nat.mul_mod_left]
        have h7 := Nat.div_add_mod (m / q ^ j) q; rw [← HJN.out.2.2.1] at h7; have h8 : (m / q ^ j + 1) % q = dg + 1 := by
         rw [← h7, Nat.add_assoc, Nat.mul_add_mod]; exact Nat.mod_eq_of_lt (by have := HJN.out.2.2.2.2.2; omega)
        omega
      rw [h1]
      calc (m / q ^ j + 1) * q ^ j < q ^ (n - j) * q ^ j := Nat.mul_lt_mul_of_pos_right h2 (Nat.pow_pos (by have := HQ.out.1; omega))
       _ = q ^ n := by rw [← Nat.pow_add, show n - j + j = n by have := HJN.out.1; omega])
     have HSN : Hid (S (m + 1) (wr.setCell ⟨gI, kk, none⟩ (.int .i64 ((dg : Int) + 1)))) := Lib.hid (HS.out.2.2.1 _ _ _ HS2.out HK2.out.below.size HB9.out); have HKN : Hid (Kept (fun g => g = gL) WE (wr.setCell ⟨gI, kk, none⟩ (.int .i64 ((dg : Int) + 1)))) := Lib.hid (HK2.out.overB (Kept.of_below HB9.out) (fun g e => e)); have HMM : Hid (memN (wr.setCell ⟨gI, kk, none⟩ (.int .i64 ((dg : Int) + 1))) gI q n = m + 1) := Lib.hid (by rw [memN_own HO9.out (digs_len _ _ _)]; exact numL_digs (by have := HQ.out.1; omega) n _ HM1.out); clear hd hdq; rw [show (((dg + 1 : Nat) : Int)) = (dg : Int) + 1 from by omega] at hd64; go_wp2; go_roundw
     case rel => exact ⟨m + 1, HM1.out, HO9, HSN, HKN⟩
     case measure => rw [HMM.out, HMEM.out]; have := HM.out; omega
   ·obtain rfl : j = n := Nat.le_antisymm hle (Nat.le_of_not_lt hjn); have hkI : ((j : Int) - 1 - (j : Int)) = -1 := by omega
    rw [hkI]; have HF : Hid (m + 1 = q ^ j) := Lib.hid (HOD.out.done HM.out); clear hle hjn; go_wp2; (try simp only [Exit.inBlock, Exit.then]); refine bodyPost_ret (results_none rfl _ _ _) rfl ?_; refine ⟨rfl, ?_, ?_⟩
    ·rw [← HF.out]; exact HS.out.2.2.1 _ _ _ HS2.out HK2.out.below.size HBJ.out
    ·exact HK2.out.overB (Kept.of_below HBJ.out) (fun g e => e)
theorem Tryd.infoBool : (Tryd.prog.info? 4).map (fun i => (i.zero, i.size, i.bytes)) = some (some (.bool false), 1, 1) := by kernel_rfl
def OwnBl (w : World) (base : Nat) (v : Value) (al : List Bool) : Prop := w.ownsRow base 4 1 v al.length (al.map Value.bool)
theorem OwnBl.set {w : World} {base g n c : Nat} {al : List Bool} (h : OwnBl w base (.slice (some ⟨g, 0, none⟩) n c) al) (j : Nat) (b : Bool) : OwnBl (w.setCell ⟨g, j, none⟩ (.bool b)) base (.slice (some ⟨g, 0, none⟩) n c) (al.set j b) := by
 have hn := own_form h; obtain ⟨A, c', e, -, -⟩ := hn; injection e with _ e2 _
 subst e2; have := (World.ownsRow.stored h j (.bool b)).1; unfold OwnBl; rw [List.length_set, List.map_set]; exact this
theorem OwnBl.cellk {w : World} {base g n c : Nat} {al : List Bool} (h : OwnBl w base (.slice (some ⟨g, 0, none⟩) n c) al) {k : Nat} (hk : k < al.length) : w.cell? ⟨g, k, none⟩ = some (.bool (al.getD k false)) ∧ w.frozen? ⟨g, k, none⟩ = false := by
 obtain ⟨A, c', e, -, -⟩ := own_form h; injection e with _ e2 _
 subst e2; have h4 := World.ownsRow.cells h rfl k (.bool (al.getD k false)) (by rw [List.getElem?_map, List.getElem?_eq_getElem hk, List.getD_eq_getElem?_getD, List.getElem?_eq_getElem hk]; rfl); have h5 := World.ownsRow.frozenAt h k; simp only [addr_add, Nat.zero_add] at h4 h5; exact ⟨h4, h5⟩
theorem own_belowB {w w' : World} {B base size n g c m : Nat} {e : TypeId} {xs : List Value} (h : w.ownsRow base e size (.slice (some ⟨g, 0, none⟩) n c) m xs) (hg : g < B) (hb : Below B w w') : w'.ownsRow base e size (.slice (some ⟨g, 0, none⟩) n c) m xs :=
 (Kept.of_below hb).own h (fun k hk hB => by
  have : g = k := by simpa [Value.ownBlock] using hk
  omega)
theorem own_weak {w : World} {b b' size n : Nat} {e : TypeId} {v : Value} {xs : List Value} (h : w.ownsRow b e size v n xs) (hb : b' ≤ b) : w.ownsRow b' e size v n xs := by
 obtain ⟨h1, h2⟩ := h; refine ⟨h1, ?_⟩; rcases h2 with h2 | ⟨g, cap, cur, h3, h4, h5, h6⟩
 ·exact .inl h2
 ·exact .inr ⟨g, cap, cur, h3, Nat.le_trans hb h4, h5, h6⟩
def hitD (t : TabL) (inn : List Int) : Option Nat := (List.range t.rows.length).find? fun i => (matchT t (i : Int) inn).2
def aliveS (t : TabL) (al : List Bool) (inn : List Int) : List Bool := match hitD t inn with
 | some i => al.set i true
 | none => al
def aliveTo (t : TabL) (q n : Nat) : Nat → List Bool
 | 0 => List.replicate t.rows.length false
 | m + 1 => aliveS t (aliveTo t q n m) (intsN (digs q n m))
theorem aliveS_len (t : TabL) (al : List Bool) (inn : List Int) : (aliveS t al inn).length = al.length := by
 unfold aliveS
 split <;> simp
theorem aliveTo_len (t : TabL) (q n : Nat) : ∀ m, (aliveTo t q n m).length = t.rows.length
 | 0 => by simp [aliveTo]
 | m + 1 => by unfold aliveTo; rw [aliveS_len, aliveTo_len t q n m]
theorem find_hit {n i : Nat} {f : Nat → Bool} (hi : i < n) (h : f i = true) (hb : ∀ j, j < i → f j = false) : (List.range n).find? f = some i := by
 rw [List.find?_range_eq_some]; exact ⟨h, List.mem_range.2 hi, fun j hj => by rw [hb j hj]; rfl⟩
theorem find_none {n : Nat} {f : Nat → Bool} (hb : ∀ j, j < n → f j = false) : (List.range n).find? f = none := by
 rw [List.find?_range_eq_none]; intro j hj; rw [hb j hj]; rfl
def deadL (al : List Bool) (k : Nat) : List Int := ((List.range k).filter fun i => !al.getD i false).map fun (i : Nat) => (i : Int)
def deadT (t : TabL) : List Int × Int :=
 if rightTab t = true then (if smallP t.st.toNat t.hood.length = true then (deadL (aliveTo t t.st.toNat t.hood.length (t.st.toNat ^ t.hood.length)) t.rows.length, 0) else ([], 6)) else ([], 2)
theorem deadL_len (al : List Bool) (k : Nat) : (deadL al k).length ≤ k := by
 unfold deadL; rw [List.length_map]; exact Nat.le_trans (List.length_filter_le _ _) (by simp)
theorem deadL_yes {al : List Bool} {k : Nat} (h : al.getD k false = false) : deadL al (k + 1) = deadL al k ++ [(k : Int)] := by
 unfold deadL; rw [List.range_succ, List.filter_append, List.map_append]; have : [k].filter (fun i => !al.getD i false) = [k] := List.filter_cons_of_pos (p := fun i => !al.getD i false) (by show (!al.getD k false) = true; rw [h]; rfl); rw [this]; rfl
theorem deadL_no {al : List Bool} {k : Nat} (h : al.getD k false = true) : deadL al (k + 1) = deadL al k := by
 unfold deadL; rw [List.range_succ, List.filter_append, List.map_append]; have : [k].filter (fun i => !al.getD i false) = [] := List.filter_cons_of_neg (p := fun i => !al.getD i false) (by show ¬ (!al.getD k false) = true; rw [h]; decide); rw [this]
 simp
set_option maxHeartbeats 16000000 in
theorem dead1_any (hA : Option Addr) (hc : Nat) (vA : Option Addr) (vc : Nat) (rA : Option Addr) (rc : Nat) (t : TabH) (gt gA gL B : Nat) (l : List Nat) (A : Option Addr) (c : Nat) (al : List Bool) (w : World) (hT : TabR w hA vA rA t) (hG : GMat w) (hi : Ints w A (intsN l)) (hl : l.length = t.hood.length) (hb : Blk w gt 31 #[.int .i64 t.st, .int .i64 t.sym, .slice hA t.hood.length hc, .slice vA t.vs.length vc, .slice rA t.rs.length rc])
  (ha : Blk w gA 71 #[.slice (some ⟨gL, 0, none⟩) t.rs.length t.rs.length]) (ho : OwnBl w B (.slice (some ⟨gL, 0, none⟩) t.rs.length t.rs.length) al) (hal : al.length = t.rs.length) (hgl : gL < w.heap.size) (hs : t.sym ≠ 3 ∨ PermOK) :
  Calls Tryd.prog 42 #[.slice A t.hood.length c, .pointer (some ⟨gt, 0, none⟩), .pointer (some ⟨gA, 0, none⟩)] w fun e w' => e = .returned (.tuple #[]) ∧ OwnBl w' B (.slice (some ⟨gL, 0, none⟩) t.rs.length t.rs.length) (aliveS t.tab al (intsN l)) ∧ Kept (fun g => g = gL) w w' := by
 have HM : Hid (∀ (i : Nat) W, Below w.heap.size w W → Calls Tryd.prog 39 #[tabV hA hc vA vc rA rc t, .int .i64 (i : Int), .slice A t.hood.length c] W fun en w' => en = .returned (.tuple #[.int .i64 (matchT t.tab (i : Int) (intsN l)).1, .bool (matchT t.tab (i : Int) (intsN l)).2]) ∧ Below W.heap.size W w') := Lib.hid (fun i W hW => by
  have := match_any hA hc vA vc rA rc t (i : Int) A c (intsN l) W (hT.ext hW) (hG.ext hW) (hi.ext hW) hs; rw [intsN_len, hl] at this; exact this)
 have hrl : t.tab.rows.length = t.rs.length := by unfold TabH.tab; simp
 have hr9 : t.rs.length ≤ 9223372036854775807 := hT.rows.le; obtain ⟨TL, hTL⟩ : ∃ x, x = t.tab := ⟨_, rfl⟩
 rw [← hTL] at HM hrl ⊢; obtain ⟨st, sym, hood, vs, rs⟩ := t; unfold tabV at HM; dsimp only at HM hl hb ha ho hal hrl hr9 ⊢; have HB := Lib.hid hb; have HA := Lib.hid ha; have HO := Lib.hid ho; have HL := Lib.hid (And.intro hal (And.intro hrl hgl)); have c4 := hb.cell_ 4 (.slice rA rs.length rc) rfl; clear hT hG hi hl hb ha ho hal hrl hgl hs hTL; go_enter Tryd.func42, Tryd.ntmps42; go_wp2; clear c4; go_loopw [10] (fun iv wr => ∃ i : Nat, i ≤ rs.length ∧ iv = .int .i64 i ∧ Hid (Below w.heap.size w wr) ∧ Hid (∀ j : Nat, j < i → (matchT TL (j : Int) (intsN l)).2 = false)) (fun iv _ => rs.length - (intOf iv).toNat)
 case atStart => exact ⟨0, Nat.zero_le _, rfl, Lib.hid (Below.refl _ _), Lib.hid (fun j hj => absurd hj (by omega))⟩
 case round =>
  obtain ⟨i, hi, rfl, HBW, HN⟩ := hrel; by_cases hil : i < rs.length
  ·have HI := Lib.hid hil; have hwi : wrap64 ((i : Int) + 1) = (i : Int) + 1 := by unfold wrap64; omega
   have HWI := Lib.hid hwi; have hcall := HM.out i wr HBW.out; obtain ⟨mr, hmr⟩ : ∃ r, r = matchT TL (i : Int) (intsN l) := ⟨_, rfl⟩
   rw [← hmr] at hcall; have HMR := Lib.hid hmr; obtain ⟨m1, m2⟩ := mr; dsimp only at hcall; have HCALL := Lib.hid hcall; have hbw := HB.out.below HBW.out HB.out.lt; have x0 := hbw.cell_ 0 (.int .i64 st) rfl; have x1 := hbw.cell_ 1 (.int .i64 sym) rfl; have x2 := hbw.cell_ 2 (.slice hA hood.length hc) rfl; have x3 := hbw.cell_ 3 (.slice vA vs.length vc) rfl; have x4 := hbw.cell_ 4 (.slice rA rs.length rc) rfl; clear hi hwi hcall hmr hbw; go_wp2_with (go_at_call 39; refine HCALL.out.mono ?_; rintro e w2 ⟨rfl, hb2⟩; refine Hid.out ?_); refine Lib.hid ?_; have HB2 := Lib.hid (HBW.out.trans (hb2.mono HBW.out.size)); clear hb2 x0 x1 x2 x3 x4; cases m2 with
   | true =>
    have HS : Hid (aliveS TL al (intsN l) = al.set i true) := Lib.hid (by
     have h1 : hitD TL (intsN l) = some i := find_hit (by rw [HL.out.2.1]; exact HI.out) (by rw [← HMR.out]) HN.out; unfold aliveS; rw [h1])
    have ho2 : OwnBl w2 B (.slice (some ⟨gL, 0, none⟩) rs.length rs.length) al := own_below HO.out HB2.out; have HO2 := Lib.hid (ho2.set i true); have y0 := (HA.out.below HB2.out HA.out.lt).cell_ 0 (.slice (some ⟨gL, 0, none⟩) rs.length rs.length) rfl; obtain ⟨ck, fk⟩ := ho2.cellk (k := i) (by rw [HL.out.1]; exact HI.out); have HKK : Hid (Kept (fun g => g = gL) w (w2.setCell ⟨gL, i, none⟩ (.bool true))) := Lib.hid ((Kept.of_new (fun g => g = gL) HB2.out).setCell (p := ⟨gL, i, none⟩) (Or.inl rfl) _); clear ho2; go_wp2; (try simp only [Exit.inBlock, Exit.then]); refine bodyPost_ret (results_none rfl _ _ _) rfl ?_; exact ⟨rfl, by rw [HS.out]; exact HO2.out, HKK.out⟩
   | false =>
    have HN2 : Hid (∀ j : Nat, j < i + 1 → (matchT TL (j : Int) (intsN l)).2 = false) := Lib.hid (fun j hj => by
     rcases Nat.lt_or_ge j i with h1 | h1
     ·exact HN.out j h1
     ·obtain rfl : j = i := by omega
      rw [← HMR.out])
    go_wp2; go_roundw
    case rel => exact ⟨i + 1, HI.out, (by first | rfl | (rw [HWI.out]; rfl)), HB2, HN2⟩
    case measure => (try rw [HWI.out]); exact meas_step HI.out
  ·obtain rfl : i = rs.length := Nat.le_antisymm hi (Nat.le_of_not_lt hil); have HS : Hid (aliveS TL al (intsN l) = al) := Lib.hid (by
    have h1 : hitD TL (intsN l) = none := find_none (by rw [HL.out.2.1]; exact HN.out); unfold aliveS; rw [h1])
   clear hi hil; go_wp2; (try simp only [Exit.inBlock, Exit.then]); refine bodyPost_end (results_none rfl _ _ _) rfl ?_; exact ⟨rfl, by rw [HS.out]; exact own_below HO.out HBW.out, Kept.of_new _ HBW.out⟩
set_option maxHeartbeats 16000000 in
theorem dead_any (hA : Option Addr) (hc : Nat) (vA : Option Addr) (vc : Nat) (rA : Option Addr) (rc : Nat) (t : TabH) (w : World) (hT : TabR w hA vA rA t) (hG : GMat w) (hs : t.sym ≠ 3 ∨ PermOK) :
  Calls Tryd.prog 19 #[tabV hA hc vA vc rA rc t] w fun e w' => ∃ v, e = .returned (.tuple #[v, .int .i64 (deadT t.tab).2]) ∧ OwnIA w' w.heap.size v (deadT t.tab).1 ∧ Below w.heap.size w w' := by
 obtain ⟨w0, hw0⟩ : ∃ w0, w0 = w.alloc (.cells #[.int .i64 t.st, .int .i64 t.sym, .slice hA t.hood.length hc, .slice vA t.vs.length vc, .slice rA t.rs.length rc] 31) := ⟨_, rfl⟩
 have hb0 : Below w.heap.size w w0 := by rw [hw0]; exact below_new _ _
 have p0 : Blk w0 w.heap.size 31 #[.int .i64 t.st, .int .i64 t.sym, .slice hA t.hood.length hc, .slice vA t.vs.length vc, .slice rA t.rs.length rc] := by rw [hw0]; exact Blk.new _ _ _
 have hcr := rright15_any hA hc vA vc rA rc t w0 (hT.ext hb0) (hG.ext hb0); have HTR := Lib.hid (And.intro hT (And.intro hG hs)); have HB0 := Lib.hid hb0; have HP := Lib.hid p0; have HW0 := Lib.hid hw0; have hh9 : t.hood.length ≤ 9223372036854775807 := hT.hood.le; have hr9 : t.rs.length ≤ 9223372036854775807 := hT.rows.le; obtain ⟨d1, hd1⟩ : ∃ d, d = (deadT t.tab).1 := ⟨_, rfl⟩
 obtain ⟨d2, hd2⟩ : ∃ d, d = (deadT t.tab).2 := ⟨_, rfl⟩
 rw [← hd1, ← hd2]; have HD : Hid (deadT t.tab = (d1, d2)) := Lib.hid (by rw [hd1, hd2]); have x0 := p0.cell_ 0 (.int .i64 t.st) rfl; have x1 := p0.cell_ 1 (.int .i64 t.sym) rfl; have x2 := p0.cell_ 2 (.slice hA t.hood.length hc) rfl; have x3 := p0.cell_ 3 (.slice vA t.vs.length vc) rfl; have x4 := p0.cell_ 4 (.slice rA t.rs.length rc) rfl; clear hb0 p0 hw0 hT hG hs hd1 hd2; cases hr : rightTab t.tab with
 | false =>
  have HE : Hid (d1 = [] ∧ d2 = 2) := Lib.hid (by
   have h := HD.out; unfold deadT at h; rw [if_neg (by rw [hr]; simp)] at h; injection h with h1 h2
   exact ⟨h1.symm, h2.symm⟩)
  rw [hr] at hcr; unfold tabV at hcr ⊢; have HCR := Lib.hid hcr; clear hr hcr; go_enter Tryd.func19, Tryd.ntmps19; go_upto_region 1 with fail
  rw [← HW0.out]; go_wp2_with (go_at_call 32; refine HCR.out.mono ?_; rintro e w1 ⟨rfl, hb1⟩; refine Hid.out ?_); refine Lib.hid ?_; go_wp2; go_ret2; exact ⟨_, by first | (rw [HE.out.2]; done) | (rw [HE.out.2]; rfl), by rw [HE.out.1]; exact OwnI.nil _ _ _, HB0.out.trans (hb1.mono HB0.out.size)⟩
 | true =>
  obtain ⟨⟨hr1, hr2⟩, hr3, hr4, hr5, hr6, -⟩ := rightTab_parts hr; have H400 : Hid (t.rs.length ≤ 400) := Lib.hid (by rw [show t.tab.rows.length = t.rs.length by unfold TabH.tab; simp] at hr6; exact hr6); have hln := hoodB_len hr3; obtain ⟨q, hq⟩ : ∃ q : Nat, t.st = (q : Int) := ⟨t.st.toNat, by have : t.tab.st = t.st := rfl; omega⟩
  have hq1 : t.tab.st = (q : Int) := hq; have HQ : Hid (2 ≤ q ∧ q ≤ 8 ∧ 1 ≤ t.hood.length ∧ t.hood.length ≤ 25) := Lib.hid ⟨by omega, by omega, hln.1, hln.2⟩; have HD2 : Hid ((if smallP q t.hood.length = true then (deadL (aliveTo t.tab q t.hood.length (q ^ t.hood.length)) t.rs.length, (0 : Int)) else ([], 6)) = (d1, d2)) := Lib.hid (by
   have h := HD.out; unfold deadT at h; rw [if_pos hr, hq1, Int.toNat_natCast, show t.tab.rows.length = t.rs.length by unfold TabH.tab; simp] at h; exact h)
  have HSM : Hid (∀ W, Below w0.heap.size w0 W → Calls Tryd.prog 40 #[tabV hA hc vA vc rA rc t] W fun e w' => e = .returned (.bool (smallP q t.hood.length)) ∧ Below W.heap.size W w') := Lib.hid (fun W hW => small15_any hA hc vA vc rA rc t q W hq (by have := HQ.out; omega) (by have := HQ.out; omega) (by have := HQ.out; omega)); rw [hr] at hcr; unfold tabV at hcr HSM ⊢; have HCR := Lib.hid hcr; have HST := Lib.hid hq; clear hr hcr hr1 hr2 hr3 hr4 hr5 hr6 hln hq hq1; cases hsm : smallP q t.hood.length with
  | false =>
   have HE : Hid (d1 = [] ∧ d2 = 6) := Lib.hid (by
    have h := HD2.out; rw [if_neg (by rw [hsm]; simp)] at h; injection h with h1 h2
    exact ⟨h1.symm, h2.symm⟩)
   rw [hsm] at HSM; clear hsm; go_enter Tryd.func19, Tryd.ntmps19; go_upto_region 1 with fail
   rw [← HW0.out]; go_wp2_with (go_at_call 32; refine HCR.out.mono ?_; rintro e w1 ⟨rfl, hb1⟩; refine Hid.out ?_); refine Lib.hid ?_; have HB1 := Lib.hid hb1; have HP1 := Lib.hid (HP.out.below hb1 HP.out.lt); have HSC := Lib.hid (HSM.out w1 hb1); clear hb1 x0 x1 x2 x3 x4; have x0 := HP1.out.cell_ 0 (.int .i64 t.st) rfl; have x1 := HP1.out.cell_ 1 (.int .i64 t.sym) rfl; have x2 := HP1.out.cell_ 2 (.slice hA t.hood.length hc) rfl; have x3 := HP1.out.cell_ 3 (.slice vA t.vs.length vc) rfl; have x4 := HP1.out.cell_ 4 (.slice rA t.rs.length rc) rfl; go_wp2_with (go_at_call 40; refine HSC.out.mono ?_; rintro e w2 ⟨rfl, hb2⟩; refine Hid.out ?_); refine Lib.hid ?_; go_wp2; go_ret2; exact ⟨_, by first | (rw [HE.out.2]; done) | (rw [HE.out.2]; rfl), by rw [HE.out.1]; exact OwnI.nil _ _ _, HB0.out.trans ((HB1.out.trans (hb2.mono HB1.out.size)).mono HB0.out.size)⟩
  | true =>
   have HE : Hid (d1 = deadL (aliveTo t.tab q t.hood.length (q ^ t.hood.length)) t.rs.length ∧ d2 = 0) := Lib.hid (by
    have h := HD2.out; rw [if_pos hsm] at h; injection h with h1 h2
    exact ⟨h1.symm, h2.symm⟩)
   rw [hsm] at HSM; clear hsm; go_enter Tryd.func19, Tryd.ntmps19; go_upto_region 1 with fail
   rw [← HW0.out]; go_wp2_with (go_at_call 32; refine HCR.out.mono ?_; rintro e w1 ⟨rfl, hb1⟩; refine Hid.out ?_); refine Lib.hid ?_; have HB1 := Lib.hid hb1; have HP1 := Lib.hid (HP.out.below hb1 HP.out.lt); have HSC := Lib.hid (HSM.out w1 hb1); clear hb1 x0 x1 x2 x3 x4; have x0 := HP1.out.cell_ 0 (.int .i64 t.st) rfl; have x1 := HP1.out.cell_ 1 (.int .i64 t.sym) rfl; have x2 := HP1.out.cell_ 2 (.slice hA t.hood.length hc) rfl; have x3 := HP1.out.cell_ 3 (.slice vA t.vs.length vc) rfl; have x4 := HP1.out.cell_ 4 (.slice rA t.rs.length rc) rfl; go_wp2_with (go_at_call 40; refine HSC.out.mono ?_; rintro e w2 ⟨rfl, hb2⟩; refine Hid.out ?_); refine Lib.hid ?_; have HB2 := Lib.hid (HB1.out.trans (hb2.mono HB1.out.size)); have HP2 := Lib.hid (HP.out.below HB2.out HP.out.lt); clear hb2 x0 x1 x2 x3 x4 HB1 HP1 HSC; have x4 := HP2.out.cell_ 4 (.slice rA t.rs.length rc) rfl; obtain ⟨i0, hi0, hz0, hz1, hz2⟩ := info_parts Tryd.infoBool; have hmw : w2.heap.size ≤ w2.heap.size := Nat.le_refl _; have hrs400 : t.rs.length ≤ 400 := H400.out; go_wp2_with (at_make; refine wpList_make_full _ rfl _ _ 71 rfl w2.heap.size 4 i0 _ 1 Tryd.underlying71 hi0 hz0 hz1 .i64 .i64 t.rs.length t.rs.length t.rs.length rfl rfl rfl rfl (by rw [hz2]; omega) (by unfold maxLen; omega) hmw ?_); intro w3 ho3 hg3; have hsz3 : w2.heap.size < w3.heap.size := (own_lt' ho3 rfl).1; rw [toList_madeCells_one] at ho3; have hb3 : Below w2.heap.size w2 w3 := (Below.refl _ w2).grown hg3 (Nat.le_refl _) (by intro k hk; cases hk); clear hg3 hi0 hz0 hz1 hz2 hmw x4; go_upto_region 6 with fail
   obtain ⟨gL, hgL⟩ : ∃ g, g = w2.heap.size := ⟨_, rfl⟩
   obtain ⟨gA, hgA⟩ : ∃ g, g = w3.heap.size := ⟨_, rfl⟩
   obtain ⟨w4, hw4⟩ : ∃ W, W = w3.alloc (.cells #[.slice (some ⟨w2.heap.size, 0, none⟩) t.rs.length t.rs.length] 71) := ⟨_, rfl⟩
   have hb4 : Below w3.heap.size w3 w4 := by rw [hw4]; exact below_new _ _
   have hb24 : Below w2.heap.size w2 w4 := hb3.trans (hb4.mono (Nat.le_of_lt hsz3)); have ha4 : Blk w4 gA 71 #[.slice (some ⟨gL, 0, none⟩) t.rs.length t.rs.length] := by rw [hw4, hgA, hgL]; exact Blk.new _ _ _
   have ho4 : OwnBl w4 w2.heap.size (.slice (some ⟨gL, 0, none⟩) t.rs.length t.rs.length) (aliveTo t.tab q t.hood.length 0) := by
    rw [hgL]; unfold OwnBl aliveTo; rw [show t.tab.rows.length = t.rs.length by unfold TabH.tab; simp, List.length_replicate, List.map_replicate]; exact own_below ho3 hb4
   have hw2 : w.heap.size < w2.heap.size := by
    have h1 : w0.heap.size = w.heap.size + 1 := by rw [HW0.out]; simp
    have := HB2.out.size; omega
   have hgl4 : gL < w4.heap.size := by rw [hgL]; have := hb4.size; omega
   have HG : Hid (w.heap.size < gL ∧ gL < gA ∧ gL < w4.heap.size) := Lib.hid (by refine ⟨by omega, by omega, hgl4⟩); have HB4 : Hid (Below w.heap.size w w4) := Lib.hid (HB0.out.trans ((HB2.out.mono HB0.out.size).trans (hb24.mono (Nat.le_of_lt hw2)))); have HP4 : Hid (Blk w4 w.heap.size 31 #[.int .i64 t.st, .int .i64 t.sym, .slice hA t.hood.length hc, .slice vA t.vs.length vc, .slice rA t.rs.length rc]) := Lib.hid (HP2.out.below hb24 hw2); have HA4 := Lib.hid ha4; have HEACH := Lib.hid (each_any q t.hood.length w.heap.size gA gL (fun m W => OwnBl W w2.heap.size (.slice (some ⟨gL, 0, none⟩) t.rs.length t.rs.length) (aliveTo t.tab q t.hood.length m) ∧ Kept (fun g => g = gL) w4 W) w4 (by have := HQ.out; omega) (by have := HQ.out; omega) (by have := HQ.out; omega) (by have := HQ.out; omega)
    ⟨ho4, Kept.refl _ _⟩ hgl4
    (fun m W W' hS hsz hb => ⟨(Kept.of_below hb).own hS.1 (fun g e h => by
      have : gL = g := by simpa [Value.ownBlock] using e
      omega), hS.2.overB (Kept.of_below hb) (fun g e => e)⟩)
    (fun m A c W hm hS hsz hi => by
     have hbW : Below w.heap.size w W := HB4.out.trans (hS.2.to_below HB4.out.size (fun g hg e => by have := HG.out; omega)); have h1 := dead1_any hA hc vA vc rA rc t w.heap.size gA gL w2.heap.size (digs q t.hood.length m) A c (aliveTo t.tab q t.hood.length m) W (HTR.out.1.ext hbW) (HTR.out.2.1.ext hbW) hi (digs_len _ _ _) (hS.2.blk HP4.out (by have := HG.out; omega)) (hS.2.blk HA4.out (by have := HG.out; omega)) hS.1 (by rw [aliveTo_len]; unfold TabH.tab; simp) (by have := HG.out; omega) HTR.out.2.2; refine h1.mono ?_; rintro e w' ⟨e1, e2, e3⟩; exact ⟨e1, ⟨e2, hS.2.trans e3⟩, e3⟩))
   rw [← hw4, ← hgL, ← hgA]; have x0 := HP4.out.cell_ 0 (.int .i64 t.st) rfl; have x2 := HP4.out.cell_ 2 (.slice hA t.hood.length hc) rfl; rw [HST.out] at x0 ⊢; clear hsz3 hb3 hb4 hb24 ha4 ho4 hw2 hgl4 hgL hgA hw4 ho3 HP2 HB2 HP HSM; go_wp2_with (go_at_call 41; refine HEACH.out.mono ?_; rintro e w5 ⟨rfl, ⟨ho5, hk5⟩, -⟩; refine Hid.out ?_); refine Lib.hid ?_; have HB5 : Hid (Below w.heap.size w w5) := Lib.hid (HB4.out.trans (hk5.to_below HB4.out.size (fun g hg e => by have := HG.out; omega))); have ha5 := hk5.blk HA4.out (by have := HG.out; omega); have y0 := ha5.cell_ 0 (.slice (some ⟨gL, 0, none⟩) t.rs.length t.rs.length) rfl; obtain ⟨al, hal⟩ : ∃ al, al = aliveTo t.tab q t.hood.length (q ^ t.hood.length) := ⟨_, rfl⟩
   rw [← hal] at ho5 HE; have HAL : Hid (al.length = t.rs.length) := Lib.hid (by rw [hal, aliveTo_len]; unfold TabH.tab; simp); have HO5 := Lib.hid ho5; have HGL5 : Hid (gL < w5.heap.size) := Lib.hid (own_lt' ho5 rfl).1; clear ho5 hk5 ha5 hal x0 x2 HEACH HA4 HP4 HB4; go_wp2; clear y0; go_loopw [5, 27] (fun ov iv wr => ∃ i : Nat, i ≤ t.rs.length ∧ iv = .int .i64 i ∧ Hid (OwnIA wr w5.heap.size ov (deadL al i)) ∧ Hid (Below w5.heap.size w5 wr)) (fun _ iv _ => t.rs.length - (intOf iv).toNat)
   case atStart => exact ⟨0, Nat.zero_le _, rfl, Lib.hid (OwnI.nil _ _ _), Lib.hid (Below.refl _ _)⟩
   case round =>
    obtain ⟨i, hi, rfl, HO, HB⟩ := hrel; by_cases hil : i < t.rs.length
    ·have hwi : wrap64 ((i : Int) + 1) = (i : Int) + 1 := by unfold wrap64; omega
     have HI := Lib.hid hil; have HWI := Lib.hid hwi; have hor := own_belowB HO5.out HGL5.out HB.out; obtain ⟨ck, -⟩ := OwnBl.cellk hor (k := i) (by rw [HAL.out]; exact hil); clear hi hwi hor; cases hb : al.getD i false with
     | true =>
      rw [hb] at ck; have ho2 := HO.out; rw [← deadL_no hb] at ho2; have HO2 := Lib.hid ho2; clear hb ho2; go_wp2; go_roundw
      case rel => exact ⟨i + 1, HI.out, (by first | rfl | (rw [HWI.out]; rfl)), HO2, HB⟩
      case measure => (try rw [HWI.out]); exact meas_step HI.out
     | false =>
      rw [hb] at ck; have HBF := Lib.hid hb; have hown := HO.out; have hln : (deadL al i).length < 1000000000000 := by have := deadL_len al i; have := H400.out; omega
      have hbs := HB.out.size; clear hb; go_wp2_with (at_builtin; refine wpList_pushI rfl _ _ _ rfl w5.heap.size 3 Tryd.underlying41 Tryd.infoInt _ _ rfl hown _ rfl hln hbs ?_); intro v' w7 ho' hb'; have HO7 : Hid (OwnIA w7 w5.heap.size v' (deadL al (i + 1))) := Lib.hid (by rw [deadL_yes HBF.out]; exact ho'); have HB7 := Lib.hid (HB.out.trans hb'); clear ho' hb' hown hln hbs ck; go_wp2; go_roundw
      case rel => exact ⟨i + 1, HI.out, (by first | rfl | (rw [HWI.out]; rfl)), HO7, HB7⟩
      case measure => (try rw [HWI.out]); exact meas_step HI.out
    ·obtain rfl : i = t.rs.length := Nat.le_antisymm hi (Nat.le_of_not_lt hil); have HOE := own_weak HO.out HB5.out.size; have HOEH := Lib.hid HOE; clear hi hil HOE; go_wp2; go_ret2; exact ⟨_, by first | (rw [HE.out.2]; done) | (rw [HE.out.2]; rfl), by rw [HE.out.1]; exact HOEH.out, HB5.out.trans (HB.out.mono HB5.out.size)⟩
end Go.Proofs.YtlegfdllipkggaaDoor
namespace Go.Proofs.YtlegfdllipkggaaDoor
open Go.RowKit
set_option maxRecDepth 100000
set_option linter.unusedVariables false
set_option linter.unusedSimpArgs false
def evalP (t : PT) (zs : List Int) : Int × Int :=
 if t.right = true then (if zs.length = t.ps.length then (if zs.any (badS t.st) = true then (0, 10) else (val t.ns ((t.ns.length - 1 : Nat) : Int) (zs.map Int.toNat), 0)) else (0, 2)) else (0, 11)
theorem toNat_back {st : Int} : ∀ {zs : List Int}, zs.any (badS st) = false → (zs.map Int.toNat).map (fun (s : Nat) => (s : Int)) = zs ∧ ∀ s ∈ zs.map Int.toNat, s < st.toNat
 | [], _ => ⟨rfl, by simp⟩
 | z :: r, h => by
  rw [List.any_cons, Bool.or_eq_false_iff] at h; obtain ⟨h1, h2⟩ := toNat_back h.2; have h3 := h.1; simp only [badS, Bool.or_eq_false_iff, decide_eq_false_iff_not] at h3; refine ⟨?_, ?_⟩
  ·rw [List.map_cons, List.map_cons, h1, Int.toNat_of_nonneg (by omega)]
  ·intro s hs; rw [List.map_cons] at hs; rcases List.mem_cons.1 hs with e | e
   ·rw [e]; omega
   ·exact h2 s e
set_option maxHeartbeats 4000000 in
theorem reval_any (st : Int) (A : Option Addr) (c : Nat) (ps : List (Int × Int)) (B : Option Addr) (d : Nat) (hs : List Hd) (Av : Option Addr) (cv : Nat) (zs : List Int) (w : World) (hp : Pts w A ps) (hN : Nds w B hs) (hz : Ints w Av zs) :
  Calls Tryd.prog 15 #[.agg #[.int .i64 st, .slice A ps.length c, .slice B hs.length d], .slice Av zs.length cv] w fun e w' => e = .returned (.tuple #[.int .i64 (evalP ⟨st, ps, hs.map Hd.nd⟩ zs).1, .int .i64 (evalP ⟨st, ps, hs.map Hd.nd⟩ zs).2]) ∧ Below w.heap.size w w' := by
 obtain ⟨w0, hw0⟩ : ∃ w0, w0 = w.alloc (.cells #[.int .i64 st, .slice A ps.length c, .slice B hs.length d] 25) := ⟨_, rfl⟩
 have hb0 : Below w.heap.size w w0 := by rw [hw0]; exact below_new _ _
 have q1 : Blk w0 w.heap.size 25 #[.int .i64 st, .slice A ps.length c, .slice B hs.length d] := by rw [hw0]; exact Blk.new _ _ _
 have HW := Lib.hid hw0; have HB0 := Lib.hid hb0; have HP0 := Lib.hid q1; have HR := Lib.hid (rright_any st A c ps B d hs w0 (hp.ext hb0) (hN.ext hb0)); have HNN := Lib.hid (hN.ext hb0); have HZ := Lib.hid (hz.ext hb0); have HLP := Lib.hid hp.le; have HLZ := Lib.hid hz.le; have c0 := q1.cell_ 0 (.int .i64 st) rfl; have c1 := q1.cell_ 1 (.slice A ps.length c) rfl; have c2 := q1.cell_ 2 (.slice B hs.length d) rfl; clear hw0 hb0 q1 hp hN hz; unfold evalP PT.right; dsimp only; cases hr : rightN st ps (hs.map Hd.nd) with
 | false =>
  rw [if_neg (by simp)]; rw [hr] at HR; clear hr; go_enter Tryd.func15, Tryd.ntmps15; go_upto_region 1 with fail
  rw [← HW.out]; go_wp2_with (go_at_call 27; refine HR.out.mono ?_); rintro e w1 ⟨rfl, hb⟩; have HBw := Lib.hid (HB0.out.trans (hb.mono HB0.out.size)); clear hb c0 c1 c2; go_wp2; go_ret2; exact ⟨rfl, HBw.out⟩
 | true =>
  rw [if_pos rfl]; rw [hr] at HR; have HRR := Lib.hid hr; clear hr; have HRP := Lib.hid (rightN_parts HRR.out); by_cases y1 : zs.length = ps.length
  ·rw [if_pos y1]; have d1 : (((zs.length : Nat) : Int) != ((ps.length : Nat) : Int)) = false := by rw [y1]; simp
   have HY := Lib.hid y1; have HCV : Hid (zs.any (badS st) = false → ∀ W, Below w0.heap.size w0 W → Calls Tryd.prog 37 #[.agg #[.int .i64 st, .slice A ps.length c, .slice B hs.length d], .slice Av zs.length cv] W fun e w' => e = .returned (.int .i64 (val (hs.map Hd.nd) ((hs.length - 1 : Nat) : Int) (zs.map Int.toNat))) ∧ Below W.heap.size W w') := Lib.hid (fun hb W hW => by
    obtain ⟨t1, t2⟩ := toNat_back hb; have := val12_any st A ps.length c B d hs Av cv (zs.map Int.toNat) W (HNN.out.ext hW) (by rw [t1]; exact HZ.out.ext hW) st.toNat HRP.out.2.2.2.2.2.2.2.1 (by have := HRP.out.2.2.2.1; rw [List.length_map] at this; omega) (by
     have h6 := HRP.out.2.2.2.2.2.1; rw [List.length_map] at h6 ⊢; rw [h6, HY.out]) t2
    rw [List.length_map] at this; exact this)
   rw [List.length_map]; obtain ⟨rr, hrr⟩ : ∃ rr, rr = if zs.any (badS st) = true then ((0 : Int), (10 : Int)) else (val (hs.map Hd.nd) ((hs.length - 1 : Nat) : Int) (zs.map Int.toNat), 0) := ⟨_, rfl⟩
   rw [← hrr]; have HRE := Lib.hid hrr; clear hrr y1; go_enter Tryd.func15, Tryd.ntmps15; go_upto_region 1 with fail
   rw [← HW.out]; go_wp2_with (go_at_call 27; refine HR.out.mono ?_); rintro e w1 ⟨rfl, hb⟩; have HB1 := Lib.hid hb; have p1 := HP0.out.below hb HP0.out.lt; have e1 := p1.cell_ 1 (.slice A ps.length c) rfl; clear hb c0 c1 c2 p1; go_wp2; clear e1; go_loopw [6] (fun iv wr => ∃ i : Nat, i ≤ zs.length ∧ iv = .int .i64 i ∧ Hid (Below w0.heap.size w0 wr) ∧ Hid ((zs.take i).any (badS st) = false)) (fun iv _ => zs.length - (intOf iv).toNat)
   case atStart => exact ⟨0, Nat.zero_le _, rfl, HB1, Lib.hid rfl⟩
   case round =>
    obtain ⟨i, hi, rfl, HBR, HNO⟩ := hrel; have p1 := HP0.out.below HBR.out HP0.out.lt; have x0 := p1.cell_ 0 (.int .i64 st) rfl; by_cases hil : i < zs.length
    ·obtain ⟨b, o, rfl, -, hc⟩ := (HZ.out.ext HBR.out).at_ hil; have htk : (zs.take (i + 1)).any (badS st) = badS st zs[i] := by
      rw [List.take_add_one, List.getElem?_eq_getElem hil, List.any_append, HNO.out, Bool.false_or]; exact Bool.or_false _
     have hbd : badS st zs[i] = true → zs.any (badS st) = true := fun h => List.any_eq_true.2 ⟨zs[i], List.getElem_mem hil, h⟩; obtain ⟨z, hz⟩ : ∃ z, z = zs[i] := ⟨_, rfl⟩
     rw [← hz] at hc htk hbd; have hwi : wrap64 ((i : Int) + 1) = (i : Int) + 1 := by have := HLZ.out; unfold wrap64; omega
     have HI := Lib.hid hil; have HWI := Lib.hid hwi; have HTK := Lib.hid htk; have HBD := Lib.hid hbd; clear hi hz htk hbd p1; by_cases z1 : z < 0
     ·have k1 : decide (z < 0) = true := decide_eq_true z1; have HE : Hid (rr = (0, 10)) := Lib.hid (by rw [HRE.out, if_pos (HBD.out (by unfold badS; rw [k1, Bool.true_or]))]); clear z1; go_wp2; go_quiet (fail)
      go_wp2; go_ret2; exact ⟨by first | (rw [HE.out]; done) | (rw [HE.out]; rfl), by first | exact HB0.out.trans (HBR.out.mono HB0.out.size) | exact HB0.out.trans (HBR.out.drew.mono HB0.out.size) | exact HB0.out.trans ((below_drewN HBR.out _).mono HB0.out.size)⟩
     ·have k1 : decide (z < 0) = false := decide_eq_false z1; by_cases z2 : st ≤ z
      ·have k2 : decide (st ≤ z) = true := decide_eq_true z2; have HE : Hid (rr = (0, 10)) := Lib.hid (by rw [HRE.out, if_pos (HBD.out (by unfold badS; rw [k1, Bool.false_or]; exact k2))]); clear z1 z2; go_wp2; go_quiet (fail)
       go_wp2; go_ret2; exact ⟨by first | (rw [HE.out]; done) | (rw [HE.out]; rfl), by first | exact HB0.out.trans (HBR.out.mono HB0.out.size) | exact HB0.out.trans (HBR.out.drew.mono HB0.out.size) | exact HB0.out.trans ((below_drewN HBR.out _).mono HB0.out.size)⟩
      ·have k2 : decide (st ≤ z) = false := decide_eq_false z2; have HN2 : Hid ((zs.take (i + 1)).any (badS st) = false) := Lib.hid (by rw [HTK.out]; unfold badS; rw [k1, Bool.false_or]; exact k2); clear z1 z2; go_wp2; go_quiet (fail)
       go_wp2; go_roundw
       case rel => exact ⟨i + 1, HI.out, (by first | rfl | (rw [HWI.out]; rfl)), (by first | exact HBR | exact Lib.hid (HBR.out.drew) | exact Lib.hid (below_drewN HBR.out _)), HN2⟩
       case measure => (try rw [HWI.out]); exact meas_step HI.out
    ·obtain rfl : i = zs.length := Nat.le_antisymm hi (Nat.le_of_not_lt hil); have hno := HNO.out; rw [List.take_length] at hno; have HE : Hid (rr = (val (hs.map Hd.nd) ((hs.length - 1 : Nat) : Int) (zs.map Int.toNat), 0)) := Lib.hid (by rw [HRE.out, if_neg (by rw [hno]; simp)]); have HCALL := Lib.hid (HCV.out hno _ HBR.out); have x1 := p1.cell_ 1 (.slice A ps.length c) rfl; have x2 := p1.cell_ 2 (.slice B hs.length d) rfl; clear hi hil hno p1; go_wp2_with (go_at_call 37; refine HCALL.out.mono ?_); rintro e w3 ⟨rfl, hb⟩; have HB3 := Lib.hid (HB0.out.trans ((HBR.out.trans (hb.mono HBR.out.size)).mono HB0.out.size)); clear hb; go_wp2; go_ret2; exact ⟨by first | (rw [HE.out]; done) | (rw [HE.out]; rfl), HB3.out⟩
  ·rw [if_neg y1]; have d1 : (((zs.length : Nat) : Int) != ((ps.length : Nat) : Int)) = true := by simp; omega
   have HY := Lib.hid y1; clear y1; go_enter Tryd.func15, Tryd.ntmps15; go_upto_region 1 with fail
   rw [← HW.out]; go_wp2_with (go_at_call 27; refine HR.out.mono ?_); rintro e w1 ⟨rfl, hb⟩; have HBw := Lib.hid (HB0.out.trans (hb.mono HB0.out.size)); have p1 := HP0.out.below hb HP0.out.lt; have e1 := p1.cell_ 1 (.slice A ps.length c) rfl; clear hb c0 c1 c2 p1; go_wp2; go_ret2; exact ⟨rfl, HBw.out⟩
theorem reval_tv {w : World} {v : Value} {t : PT} {Av : Option Addr} {cv : Nat} {zs : List Int} (h : TreeAt w v t) (hz : Ints w Av zs) :
  Calls Tryd.prog 15 #[v, .slice Av zs.length cv] w fun e w' => e = .returned (.tuple #[.int .i64 (evalP t zs).1, .int .i64 (evalP t zs).2]) ∧ Below w.heap.size w w' := by
 obtain ⟨A, c, B, d, os, rfl, h1, h2, h3⟩ := h; have := reval_any t.st A c t.ps B d os Av cv zs w h1 h2 hz; rw [h3] at this; exact this
end Go.Proofs.YtlegfdllipkggaaDoor
