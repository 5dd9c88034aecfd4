/-
  texts RowsL LawRows OpenT: parts of the proof; conditions stand with each theorem.
-/
import Derived.Test.YtlegfdllipkggaaDoorYG23
import Derived.Test.YtlegfdllipkggaaDoorYG17
import Derived.Test.YtlegfdllipkggaaDoorYG20
import Derived.Test.YtlegfdllipkggaaDoorYG21
import Derived.Test.YtlegfdllipkggaaDoorYPermW
import Derived.Test.YtlegfdllipkggaaDoorYG9
namespace Go.Proofs.YtlegfdllipkggaaDoor
set_option maxRecDepth 100000
set_option linter.unusedVariables false
set_option linter.unusedSimpArgs false
theorem made_tiny {q : Nat} (hq1 : 2 ≤ q) (hq8 : q ≤ 8) {hood : List (Int × Int)} (hh : hoodB hood = true) (hp : q ^ hood.length ≤ 1024) {f : List Nat → Int} (hF : ∀ l : List Nat, l.length = hood.length → (∀ s ∈ l, s < q) → 0 ≤ f l ∧ f l < (q : Int)) :
  ∃ x : PT, madeP q hood f = (x, 0) ∧ x.right = true ∧ x.st = (q : Int) ∧ x.ps = hood ∧ ∀ l : List Nat, l.length = hood.length → (∀ s ∈ l, s < q) → val x.ns ((x.ns.length - 1 : Nat) : Int) l = f l := by
 have hl := hoodB_len hh; obtain ⟨g1, g2⟩ := grow_can (q := q) (f := f) (N := hood.length) hF hl.1 (by omega); have gs := (grow_ok (q := q) (f := f) (N := hood.length) hF hood.length [] [] (by simp) (fun t ht => absurd ht (by simp)) (NV.nil q)).sz; have hcs := cap_small (q := q) hq1 hood.length; have hns : (growP q f hood.length [] []).2.length ≤ 1024 := by simp at gs; omega
 refine ⟨⟨(q : Int), hood, (growP q f hood.length [] []).2⟩, ?_, ?_, rfl, rfl, g2⟩
 ·unfold madeP; rw [if_neg (by unfold smallP; rw [decide_eq_true (by omega)]; simp), if_neg (by omega)]
 ·have : rightN (q : Int) hood (growP q f hood.length [] []).2 = true := rightN_of (by omega) (by omega) hh g1.pos (by omega) g1.root (by rw [Int.toNat_natCast]; exact g1.v) g1.lv; exact this
theorem evalP_made {x : PT} {q : Nat} {hood : List (Int × Int)} {f : List Nat → Int} (h1 : x.right = true) (h2 : x.st = (q : Int)) (h3 : x.ps = hood) (h4 : ∀ l : List Nat, l.length = hood.length → (∀ s ∈ l, s < q) → val x.ns ((x.ns.length - 1 : Nat) : Int) l = f l)
  {inn : List Int} (hl : inn.length = hood.length) (hs : inn.any (badS (q : Int)) = false) : evalP x inn = (f (inn.map Int.toNat), 0) := by
 unfold evalP; have h9 := (toNat_back hs).2; rw [if_pos h1, h3, if_pos hl, h2, if_neg (by rw [hs]; simp), h4 _ (by rw [List.length_map]; exact hl) (by simpa using h9)]
theorem evalP_bad {x : PT} {q : Nat} {hood : List (Int × Int)} (h1 : x.right = true) (h2 : x.st = (q : Int)) (h3 : x.ps = hood) {inn : List Int} (h : ¬ (inn.length = hood.length ∧ inn.any (badS (q : Int)) = false)) : (evalP x inn).2 ≠ 0 := by
 unfold evalP; rw [if_pos h1, h3, h2]; by_cases hl : inn.length = hood.length
 ·rw [if_pos hl]; have : inn.any (badS (q : Int)) = true := by
   cases hb : inn.any (badS (q : Int)) with
   | true => rfl
   | false => exact absurd ⟨hl, hb⟩ h
  rw [if_pos this]; dsimp only; decide
 ·rw [if_neg hl]; dsimp only; decide
theorem decTo_out {hood : List (Int × Int)} {vars : List (List Int)} {ins inn : List Int} {out : Int} (h0 : 0 ≤ out) : ∀ k, (decTo hood vars ins out inn k).2 = true → (decTo hood vars ins out inn k).1 = out
 | 0, h => by cases h
 | k + 1, h => by
  unfold decTo at h ⊢; by_cases hp : (plainP vars ins out (turnedP hood (k : Int) inn)).2 = true
  ·rw [if_pos hp] at h ⊢; have ho : (plainP vars ins out (turnedP hood (k : Int) inn)).1 = out := by
    unfold plainP at hp ⊢
    split
    ·dsimp only; unfold outP; rw [if_pos h0]
    ·rename_i hb; rw [hb] at hp; cases hp
   unfold better at h ⊢
   split
   ·exact ho
   ·rename_i hn; rw [if_neg hn] at h; exact decTo_out h0 k h
  ·rw [if_neg hp] at h ⊢; exact decTo_out h0 k h
theorem rowD_out {t : TabL} {inn : List Int} {r : Rw} (ht : rightTab t = true) (hi : ∀ s ∈ inn, 0 ≤ s ∧ s < t.st) (hl : inn.length = t.hood.length) (hr : r ∈ t.rows) (h0 : 0 ≤ r.2) (h : (rowD t inn r).2 = true) : (rowD t inn r).1 = r.2 := by
 obtain ⟨h1, h2, h3, h4, h5, h6, h7⟩ := rightTab_parts ht; obtain ⟨k1, k2, k3⟩ := okRow_parts h4 (h7 r hr); unfold rowD decideP at h ⊢; by_cases hq : t.sym = 3
 ·rw [if_pos hq] at h ⊢; have := permutedP_min (vars := t.vars) (hood := t.hood) (ins := r.1) (out := r.2) (inn := inn) (fun s h => (hi s h).1) (el40 fun e hx => ⟨fun hn => Nat.lt_of_lt_of_le ((k3 e hx).1 hn) h4, (k3 e hx).2⟩) (by omega) (fun hn => by omega) (by rw [k1, hl]); rcases this with ⟨g1, -⟩ | ⟨-, g2, -⟩
  ·rw [g1] at h; cases h
  ·obtain ⟨-, ps, -, -, -, g4⟩ := g2; unfold valO at g4; rw [if_pos h0] at g4; exact g4
 ·rw [if_neg hq] at h ⊢; exact decTo_out h0 _ h
theorem firstD_at {t : TabL} {inn : List Int} : ∀ (rs : List Rw) (i : Nat), i < rs.length → (∀ j, j < i → (rowD t inn (rs.getD j ([], 0))).2 = false) → (rowD t inn (rs.getD i ([], 0))).2 = true → firstD t inn rs = some (rowD t inn (rs.getD i ([], 0))).1
 | [], i, h, _, _ => absurd h (Nat.not_lt_zero _)
 | r :: l, 0, _, _, h => by
  unfold firstD; rw [show (r :: l).getD 0 ([], 0) = r from rfl] at h ⊢; rw [if_pos h]
 | r :: l, i + 1, hi, hb, h => by
  unfold firstD; have h0 := hb 0 (by omega); rw [show (r :: l).getD 0 ([], 0) = r from rfl] at h0; rw [if_neg (by rw [h0]; simp)]; rw [show (r :: l).getD (i + 1) ([], 0) = l.getD i ([], 0) from rfl] at h ⊢; exact firstD_at l i (by simpa using hi) (fun j hj => by
   have := hb (j + 1) (by omega); rwa [show (r :: l).getD (j + 1) ([], 0) = l.getD j ([], 0) from rfl] at this) h
theorem matchT_in {t : TabL} {i : Nat} {inn : List Int} (ht : rightTab t = true) (hi : i < t.rows.length) (hl : inn.length = t.hood.length) (hs : statesB t.st inn = true) : matchT t (i : Int) inn = rowD t inn (t.rows.getD i ([], 0)) := by
 unfold matchT; rw [if_neg (by
  rintro (h | h | h | h | h)
  ·rw [ht] at h; cases h
  ·omega
  ·omega
  ·exact h hl
  ·rw [hs] at h; cases h), Int.toNat_natCast]
structure RowsOk (t : TabL) (inn : List Int) (a : PT) (n : Int) : Prop where
 tree : treeT t = (a, 0)
 eval : evalP a inn = (n, 0)
 row : ∀ i : Nat, i < t.rows.length → ∃ x, rowT t (i : Int) = (x, 0) ∧ valueP x inn = if (matchT t (i : Int) inn).2 = true then 1 else 0
 first : ∀ i : Nat, i < t.rows.length → (∀ j : Nat, j < i → (matchT t (j : Int) inn).2 = false) → (matchT t (i : Int) inn).2 = true → 0 ≤ (t.rows.getD i ([], 0)).2 → (t.rows.getD i ([], 0)).2 = n
theorem rows_law {t : TabL} (inn : List Int) (hy : tinyB t = true) (hs : SymOk t.sym) : (treeT t).2 ≠ 0 ∨ (∃ a, treeT t = (a, 0) ∧ (evalP a inn).2 ≠ 0) ∨ ∃ a n, RowsOk t inn a n := by
 cases hr : rightTab t with
 | false =>
  left
  rw [treeT_no (by rw [hr]; simp)]; dsimp only; decide
 | true =>
  right
  obtain ⟨⟨h1, h1'⟩, h2, h3, h4, h5, h6, h7⟩ := rightTab_parts hr; obtain ⟨q, hq⟩ : ∃ q : Nat, t.st = (q : Int) := ⟨t.st.toNat, by omega⟩
  have hpow : q ^ t.hood.length ≤ 1024 := by
   unfold tinyB at hy; rw [Bool.and_eq_true] at hy; have h9 := of_decide_eq_true hy.1; rw [hq, show tinyM (q : Int) = q by unfold tinyM; omega] at h9; exact h9
  have hrng : ∀ l : List Nat, l.length = t.hood.length → (∀ s ∈ l, s < q) → 0 ≤ valT t (intsN l) ∧ valT t (intsN l) < (q : Int) := fun l hl hs' => by
   have := val_rng (t := t) (inn := intsN l) hr hs (states_intsN hq hs').2 (by rw [intsN_len, hl]); rw [hq] at this; exact this
  obtain ⟨a, ha, a1, a2, a3, a4⟩ := made_tiny (q := q) (by omega) (by omega) h2 hpow hrng; rw [← treeT_yes hr hq] at ha; by_cases hin : inn.length = t.hood.length ∧ inn.any (badS (q : Int)) = false
  ·right
   obtain ⟨hl, hb⟩ := hin; have hev := evalP_made a1 a2 a3 a4 hl hb; have hback := (toNat_back hb).1; have hst : statesB t.st inn = true := by unfold statesB; rw [hq, hb]; rfl
   have hsm := statesB_mem hst; refine ⟨a, _, ha, hev, fun i hi => ?_, fun i hi hj hm h0 => ?_⟩
   ·obtain ⟨x, hx, x1, x2, x3, x4⟩ := made_tiny (q := q) (by omega) (by omega) h2 hpow (f := fun l => if (matchT t (i : Int) (intsN l)).2 = true then (1 : Int) else 0) (fun l _ _ => by
     by_cases hc : (matchT t (i : Int) (intsN l)).2 = true
     ·simp only [if_pos hc]; omega
     ·simp only [if_neg hc]; omega)
    refine ⟨x, by rw [rowT_yes hr (by omega) (by omega) hq]; exact hx, ?_⟩; have := evalP_made x1 x2 x3 x4 hl hb; unfold valueP; rw [this]; dsimp only; rw [if_pos rfl, show intsN (inn.map Int.toNat) = inn from hback]
   ·rw [show intsN (inn.map Int.toNat) = inn from hback]; rw [matchT_in hr hi hl hst] at hm; have hf := firstD_at (t := t) (inn := inn) t.rows i hi (fun j hj' => by
     have := hj j hj'; rwa [matchT_in hr (by omega) hl hst] at this) hm
    have hmem : t.rows.getD i ([], 0) ∈ t.rows := by
     rw [List.getD_eq_getElem?_getD, List.getElem?_eq_getElem hi]; exact List.getElem_mem _
    unfold valT; rw [hf]; exact (rowD_out hr hsm hl hmem h0 hm).symm
  ·left
   exact ⟨a, ha, evalP_bad a1 a2 a3 hin⟩
end Go.Proofs.YtlegfdllipkggaaDoor
namespace Go.Proofs.YtlegfdllipkggaaDoor
open Go.RowKit Go.Maps
set_option maxRecDepth 100000
set_option linter.unusedVariables false
set_option linter.unusedSimpArgs false
set_option maxHeartbeats 16000000 in
theorem lawRows_any (hA : Option Addr) (hc : Nat) (vA : Option Addr) (vc : Nat) (rA : Option Addr) (rc : Nat) (t : TabH) (iA : Option Addr) (ic : Nat) (inn : List Int) (w : World) (hT : TabR w hA vA rA t) (hi : Ints w iA inn) (ht : TabB w.heap.size w) (hG : GMat w) :
  Calls Tryd.prog 5 #[tabV hA hc vA vc rA rc t, .slice iA inn.length ic] w fun e w' => e = .returned (.bool true) ∧ Below w.heap.size w w' := by
 have hSYM : SymOk t.sym := symOk t.sym; obtain ⟨w0, hw0⟩ : ∃ w0, w0 = w.alloc (.cells #[.int .i64 t.st, .int .i64 t.sym, .slice hA t.hood.length hc, .slice vA t.vs.length vc, .slice rA t.rs.length rc] 31) := ⟨_, rfl⟩
 obtain ⟨pX, hpX⟩ : ∃ p, p = w.heap.size := ⟨_, rfl⟩
 have hv := TvB.new (hc := hc) (vc := vc) (rc := rc) hT; rw [← hw0, ← hpX] at hv; have HX := Lib.hid hv; have hb0 : Below w.heap.size w w0 := by rw [hw0]; exact below_new _ _
 have HB : Hid (Below w.heap.size w w0) := Lib.hid hb0; have HI := Lib.hid (hi.ext hb0); have HW0 := Lib.hid (And.intro hw0 hpX); have HTAB := Lib.hid ht; have HGM := Lib.hid hG; have HSYM := Lib.hid hSYM; have HLAW : Hid (tinyB t.tab = true → (treeT t.tab).2 ≠ 0 ∨ (∃ a, treeT t.tab = (a, 0) ∧ (evalP a inn).2 ≠ 0) ∨ ∃ a n, RowsOk t.tab inn a n) := Lib.hid (fun hy => rows_law inn hy hSYM); have hi9 : inn.length ≤ 9223372036854775807 := hi.le; have hr9 : t.rs.length ≤ 9223372036854775807 := hT.rows.le; have HRL : Hid (t.tab.rows.length = t.rs.length ∧ ∀ i : Nat, (h : i < t.rs.length) → t.tab.rows.getD i ([], 0) = t.rs[i].rw_) := Lib.hid ⟨by unfold TabH.tab; simp, fun i h => by unfold TabH.tab; rw [List.getD_eq_getElem?_getD, List.getElem?_map, List.getElem?_eq_getElem h]; rfl⟩; clear hw0 hpX hv hb0 hT hi ht hG hSYM; cases hy : tinyB t.tab with
 | false =>
  go_enter Tryd.func5, Tryd.ntmps5; unfold tabV; go_upto_region 1 with fail
  rw [← HW0.out.1, ← HW0.out.2]; clear HW0; obtain ⟨a0, a1, a2, a3, a4⟩ := HX.out.cells; have hcall := tiny_any hA hc vA vc rA rc t w0 HX.out.tb; rw [hy] at hcall; unfold tabV at hcall; have HCALL := Lib.hid hcall; clear hcall; go_wp2_with (go_at_call 11; refine HCALL.out.mono ?_; intro e x1 hx; obtain ⟨rfl, hb⟩ := hx; refine Hid.out ?_); refine Lib.hid ?_; have HBx := Lib.hid (HB.out.trans (hb.mono HB.out.size)); clear HB; have HB := HBx; clear HBx; have Hx := Lib.hid (HX.out.ext hb); clear HX; have HX := Hx; clear Hx; have Hx := Lib.hid (HI.out.ext hb); clear HI; have HI := Hx; clear Hx; clear hb HCALL; clear a0 a1 a2 a3 a4; have hcall := awake_any x1 ((HTAB.out.on HB.out).up HB.out.size) (HGM.out.ext HB.out); have HCALL := Lib.hid hcall; clear hcall; go_wp2_with (go_at_call 7; refine HCALL.out.mono ?_; intro e x2 hx; obtain ⟨rfl, hb⟩ := hx; refine Hid.out ?_); refine Lib.hid ?_; have HBx := Lib.hid (HB.out.trans (hb.mono HB.out.size)); clear HB; have HB := HBx; clear HBx; have Hx := Lib.hid (HX.out.ext hb); clear HX; have HX := Hx; clear Hx; have Hx := Lib.hid (HI.out.ext hb); clear HI; have HI := Hx; clear Hx; clear hb HCALL; go_wp2; go_ret; exact ⟨rfl, HB.out⟩
 | true =>
  by_cases h30 : 30 < inn.length
  ·have d1 : decide ((30 : Int) < (inn.length : Int)) = true := decide_eq_true (by omega); have d2 : (30 : Int) < (inn.length : Int) := by omega
   clear h30; go_enter Tryd.func5, Tryd.ntmps5; unfold tabV; go_upto_region 1 with fail
   rw [← HW0.out.1, ← HW0.out.2]; clear HW0; obtain ⟨a0, a1, a2, a3, a4⟩ := HX.out.cells; have hcall := tiny_any hA hc vA vc rA rc t w0 HX.out.tb; rw [hy] at hcall; unfold tabV at hcall; have HCALL := Lib.hid hcall; clear hcall; go_wp2_with (go_at_call 11; refine HCALL.out.mono ?_; intro e x1 hx; obtain ⟨rfl, hb⟩ := hx; refine Hid.out ?_); refine Lib.hid ?_; have HBx := Lib.hid (HB.out.trans (hb.mono HB.out.size)); clear HB; have HB := HBx; clear HBx; have Hx := Lib.hid (HX.out.ext hb); clear HX; have HX := Hx; clear Hx; have Hx := Lib.hid (HI.out.ext hb); clear HI; have HI := Hx; clear Hx; clear hb HCALL; clear a0 a1 a2 a3 a4; have hcall := awake_any x1 ((HTAB.out.on HB.out).up HB.out.size) (HGM.out.ext HB.out); have HCALL := Lib.hid hcall; clear hcall; go_wp2_with (go_at_call 7; refine HCALL.out.mono ?_; intro e x2 hx; obtain ⟨rfl, hb⟩ := hx; refine Hid.out ?_); refine Lib.hid ?_; have HBx := Lib.hid (HB.out.trans (hb.mono HB.out.size)); clear HB; have HB := HBx; clear HBx; have Hx := Lib.hid (HX.out.ext hb); clear HX; have HX := Hx; clear Hx; have Hx := Lib.hid (HI.out.ext hb); clear HI; have HI := Hx; clear Hx; clear hb HCALL; go_wp2; go_ret; exact ⟨rfl, HB.out⟩
  ·have d1 : decide ((30 : Int) < (inn.length : Int)) = false := decide_eq_false (by omega); have d2 : (inn.length : Int) ≤ 30 := by omega
   clear h30; have HLW := Lib.hid (HLAW.out hy); clear HLAW; go_enter Tryd.func5, Tryd.ntmps5; unfold tabV; go_upto_region 1 with fail
   rw [← HW0.out.1, ← HW0.out.2]; clear HW0; obtain ⟨a0, a1, a2, a3, a4⟩ := HX.out.cells; have hcall := tiny_any hA hc vA vc rA rc t w0 HX.out.tb; rw [hy] at hcall; unfold tabV at hcall; have HCALL := Lib.hid hcall; clear hcall; go_wp2_with (go_at_call 11; refine HCALL.out.mono ?_; intro e x1 hx; obtain ⟨rfl, hb⟩ := hx; refine Hid.out ?_); refine Lib.hid ?_; have HBx := Lib.hid (HB.out.trans (hb.mono HB.out.size)); clear HB; have HB := HBx; clear HBx; have Hx := Lib.hid (HX.out.ext hb); clear HX; have HX := Hx; clear Hx; have Hx := Lib.hid (HI.out.ext hb); clear HI; have HI := Hx; clear Hx; clear hb HCALL; clear a0 a1 a2 a3 a4; obtain ⟨te, hte⟩ : ∃ te, te = treeT t.tab := ⟨_, rfl⟩
   have HTE := Lib.hid hte.symm; clear hte; obtain ⟨a, ee⟩ := te; go_upto_region 3 with fail
   clear d1 d2; obtain ⟨a0, a1, a2, a3, a4⟩ := HX.out.cells; have hcall := tree15_any hA hc vA vc rA rc t x1 HX.out.tb (HGM.out.ext HB.out) ((HTAB.out.on HB.out).up HB.out.size) HSYM.out; rw [HTE.out] at hcall; unfold tabV at hcall; have HCALL := Lib.hid hcall; clear hcall; go_wp2_with (go_at_call 12; refine HCALL.out.mono ?_; intro e x2 hx; obtain ⟨s2, A2, n2, c2, B2, m2, d2, rfl, hat, hb⟩ := hx; refine Hid.out ?_); refine Lib.hid ?_; have HBx := Lib.hid (HB.out.trans (hb.mono HB.out.size)); clear HB; have HB := HBx; clear HBx; have Hx := Lib.hid (HX.out.ext hb); clear HX; have HX := Hx; clear Hx; have Hx := Lib.hid (HI.out.ext hb); clear HI; have HI := Hx; clear Hx; clear hb HCALL; clear a0 a1 a2 a3 a4; obtain ⟨y2, hw⟩ : ∃ W, W = x2.alloc (.cells #[.int .i64 s2, .slice A2 n2 c2, .slice B2 m2 d2] 25) := ⟨_, rfl⟩
   obtain ⟨pU, hp⟩ : ∃ p, p = x2.heap.size := ⟨_, rfl⟩
   have hv := TrV.new hat; rw [← hw, ← hp] at hv; have hb : Below x2.heap.size x2 y2 := by rw [hw]; exact below_new _ _
   have HBx := Lib.hid (HB.out.trans (hb.mono HB.out.size)); clear HB; have HB := HBx; clear HBx; have Hx := Lib.hid (HX.out.ext hb); clear HX; have HX := Hx; clear Hx; have Hx := Lib.hid (HI.out.ext hb); clear HI; have HI := Hx; clear Hx; have HU := Lib.hid hv; clear hv hb hat; go_upto_region 4 with fail
   rw [← hw, ← hp]; clear hw hp; obtain ⟨ev, hev⟩ : ∃ ev, ev = evalP a inn := ⟨_, rfl⟩
   have HEV := Lib.hid hev.symm; clear hev; obtain ⟨n, ff⟩ := ev; obtain ⟨cU0, cU1, cU2⟩ := HU.out.cells; have hcall := reval_tv (cv := ic) HU.out.at_ HI.out; rw [HEV.out] at hcall; have HCALL := Lib.hid hcall; clear hcall; go_wp2_with (go_at_call 15; refine HCALL.out.mono ?_; intro e x3 hx; obtain ⟨rfl, hb⟩ := hx; refine Hid.out ?_); refine Lib.hid ?_; have HBx := Lib.hid (HB.out.trans (hb.mono HB.out.size)); clear HB; have HB := HBx; clear HBx; have Hx := Lib.hid (HU.out.ext hb); clear HU; have HU := Hx; clear Hx; have Hx := Lib.hid (HX.out.ext hb); clear HX; have HX := Hx; clear Hx; have Hx := Lib.hid (HI.out.ext hb); clear HI; have HI := Hx; clear Hx; clear hb HCALL; clear cU0 cU1 cU2; by_cases h0 : ee = 0
   ·subst h0; by_cases h1 : ff = 0
    ·subst h1; obtain HRO : RowsOk t.tab inn a n := by
      rcases HLW.out with h | ⟨a', h1, h2⟩ | ⟨a', n', h⟩
      ·rw [HTE.out] at h; exact absurd rfl h
      ·rw [HTE.out] at h1; injection h1 with h1 _
       subst h1; rw [HEV.out] at h2; exact absurd rfl h2
      ·have h1 := HTE.out.symm.trans h.tree; injection h1 with h1 _
       subst h1; have h2 := HEV.out.symm.trans h.eval; injection h2 with h2 _
       subst h2; exact h
     have HROK := Lib.hid HRO; clear HRO HLW; go_upto_region 7 with fail
     obtain ⟨a0, a1, a2, a3, a4⟩ := HX.out.cells; go_wp2; clear a0 a1 a2 a3 a4; go_loopw [42] (fun iv wr => ∃ i : Nat, i ≤ t.rs.length ∧ iv = .int .i64 i ∧ Hid (Below x3.heap.size x3 wr) ∧ Hid (∀ j : Nat, j < i → (matchT t.tab (j : Int) inn).2 = false)) (fun iv _ => t.rs.length - (intOf iv).toNat)
     case atStart => exact ⟨0, Nat.zero_le _, rfl, Lib.hid (Below.refl _ _), Lib.hid (fun j hj => absurd hj (Nat.not_lt_zero _))⟩
     case round =>
      obtain ⟨i, hi, rfl, HBR, HNO⟩ := hrel; by_cases hil : i < t.rs.length
      ·have HBR0 := HBR; have HBx := Lib.hid (HB.out.trans (HBR.out.mono HB.out.size)); clear HB; have HB := HBx; clear HBx; have Hx := Lib.hid (HU.out.ext HBR.out); clear HU; have HU := Hx; clear Hx; have Hx := Lib.hid (HX.out.ext HBR.out); clear HX; have HX := Hx; clear Hx; have Hx := Lib.hid (HI.out.ext HBR.out); clear HI; have HI := Hx; clear Hx; clear HBR; have HBL : Hid (Below wr.heap.size wr wr) := Lib.hid (Below.refl _ _); have HIL := Lib.hid hil; have hwi : wrap64 ((i : Int) + 1) = (i : Int) + 1 := by unfold wrap64; omega
       have HWI := Lib.hid hwi; obtain ⟨x, hx1, hx2⟩ := HROK.out.row i (by rw [HRL.out.1]; exact hil); have HX1 := Lib.hid hx1; have HX2 := Lib.hid hx2; clear hi hwi hx1 hx2; go_upto_region 10 with fail
       obtain ⟨a0, a1, a2, a3, a4⟩ := HX.out.cells; have hcall := row15_any hA hc vA vc rA rc t (i : Int) wr HX.out.tb (HGM.out.ext HB.out) ((HTAB.out.on HB.out).up HB.out.size) HSYM.out; rw [HX1.out] at hcall; unfold tabV at hcall; have HCALL := Lib.hid hcall; clear hcall; go_wp2_with (go_at_call 16; refine HCALL.out.mono ?_; intro e x4 hx; obtain ⟨s4, A4, n4, c4, B4, m4, d4, rfl, hat, hb⟩ := hx; refine Hid.out ?_); refine Lib.hid ?_; have HBx := Lib.hid (HB.out.trans (hb.mono HB.out.size)); clear HB; have HB := HBx; clear HBx; have Hx := Lib.hid (HU.out.ext hb); clear HU; have HU := Hx; clear Hx; have Hx := Lib.hid (HX.out.ext hb); clear HX; have HX := Hx; clear Hx; have Hx := Lib.hid (HI.out.ext hb); clear HI; have HI := Hx; clear Hx; have HBLx := Lib.hid (HBL.out.trans (hb.mono HBL.out.size)); clear HBL; have HBL := HBLx; clear HBLx; clear hb HCALL; clear a0 a1 a2 a3 a4; obtain ⟨y4, hw⟩ : ∃ W, W = x4.alloc (.cells #[.int .i64 s4, .slice A4 n4 c4, .slice B4 m4 d4] 25) := ⟨_, rfl⟩
       obtain ⟨pR, hp⟩ : ∃ p, p = x4.heap.size := ⟨_, rfl⟩
       have hv := TrV.new hat; rw [← hw, ← hp] at hv; have hb : Below x4.heap.size x4 y4 := by rw [hw]; exact below_new _ _
       have HBx := Lib.hid (HB.out.trans (hb.mono HB.out.size)); clear HB; have HB := HBx; clear HBx; have Hx := Lib.hid (HU.out.ext hb); clear HU; have HU := Hx; clear Hx; have Hx := Lib.hid (HX.out.ext hb); clear HX; have HX := Hx; clear Hx; have Hx := Lib.hid (HI.out.ext hb); clear HI; have HI := Hx; clear Hx; have HBLx := Lib.hid (HBL.out.trans (hb.mono HBL.out.size)); clear HBL; have HBL := HBLx; clear HBLx; have HR := Lib.hid hv; clear hv hb hat; go_upto_region 11 with fail
       rw [← hw, ← hp]; clear hw hp; obtain ⟨cR0, cR1, cR2⟩ := HR.out.cells; cases hm : (matchT t.tab (i : Int) inn).2 with
       | true =>
        have HV : Hid (valueP x inn = 1) := Lib.hid (by rw [HX2.out, hm]; rfl); have hcall := value_tv (cv := ic) HR.out.at_ HI.out; rw [HV.out] at hcall; have HCALL := Lib.hid hcall; clear hcall; go_wp2_with (go_at_call 17; refine HCALL.out.mono ?_; intro e x5 hx; obtain ⟨rfl, hb⟩ := hx; refine Hid.out ?_); refine Lib.hid ?_; have HBx := Lib.hid (HB.out.trans (hb.mono HB.out.size)); clear HB; have HB := HBx; clear HBx; have Hx := Lib.hid (HU.out.ext hb); clear HU; have HU := Hx; clear Hx; have Hx := Lib.hid (HR.out.ext hb); clear HR; have HR := Hx; clear Hx; have Hx := Lib.hid (HX.out.ext hb); clear HX; have HX := Hx; clear Hx; have Hx := Lib.hid (HI.out.ext hb); clear HI; have HI := Hx; clear Hx; have HBLx := Lib.hid (HBL.out.trans (hb.mono HBL.out.size)); clear HBL; have HBL := HBLx; clear HBLx; clear hb HCALL; clear cR0 cR1 cR2; have HFST := Lib.hid (HROK.out.first i (by rw [HRL.out.1]; exact HIL.out) HNO.out hm); rw [HRL.out.2 i hil] at HFST; obtain ⟨rb, ro, ea, -, -, hda, -⟩ := HX.out.tb.rows.at_ hil; obtain ⟨xh, hxh⟩ : ∃ z, z = t.rs[i]'hil := ⟨_, rfl⟩
        rw [← hxh] at hda HFST; obtain ⟨xA, xc, zs, out⟩ := xh; dsimp only [Rh.rw_] at hda HFST; subst ea; clear hxh hm; obtain ⟨a0, a1, a2, a3, a4⟩ := HX.out.cells; by_cases ho : out < 0
        ·have d1 : decide (out < 0) = true := decide_eq_true ho; clear ho; have hcall := awake_any x5 ((HTAB.out.on HB.out).up HB.out.size) (HGM.out.ext HB.out); have HCALL := Lib.hid hcall; clear hcall; go_wp2_with (go_at_call 7; refine HCALL.out.mono ?_; intro e x6 hx; obtain ⟨rfl, hb⟩ := hx; refine Hid.out ?_); refine Lib.hid ?_; have HBx := Lib.hid (HB.out.trans (hb.mono HB.out.size)); clear HB; have HB := HBx; clear HBx; have Hx := Lib.hid (HU.out.ext hb); clear HU; have HU := Hx; clear Hx; have Hx := Lib.hid (HR.out.ext hb); clear HR; have HR := Hx; clear Hx; have Hx := Lib.hid (HX.out.ext hb); clear HX; have HX := Hx; clear Hx; have Hx := Lib.hid (HI.out.ext hb); clear HI; have HI := Hx; clear Hx; have HBLx := Lib.hid (HBL.out.trans (hb.mono HBL.out.size)); clear HBL; have HBL := HBLx; clear HBLx; clear hb HCALL; go_wp2; go_ret; exact ⟨rfl, HB.out⟩
        ·have d1 : decide (out < 0) = false := decide_eq_false ho; obtain rfl : out = n := HFST.out (by omega); clear ho; have hcall := awake_any x5 ((HTAB.out.on HB.out).up HB.out.size) (HGM.out.ext HB.out); have HCALL := Lib.hid hcall; clear hcall; go_wp2_with (go_at_call 7; refine HCALL.out.mono ?_; intro e x6 hx; obtain ⟨rfl, hb⟩ := hx; refine Hid.out ?_); refine Lib.hid ?_; have HBx := Lib.hid (HB.out.trans (hb.mono HB.out.size)); clear HB; have HB := HBx; clear HBx; have Hx := Lib.hid (HU.out.ext hb); clear HU; have HU := Hx; clear Hx; have Hx := Lib.hid (HR.out.ext hb); clear HR; have HR := Hx; clear Hx; have Hx := Lib.hid (HX.out.ext hb); clear HX; have HX := Hx; clear Hx; have Hx := Lib.hid (HI.out.ext hb); clear HI; have HI := Hx; clear Hx; have HBLx := Lib.hid (HBL.out.trans (hb.mono HBL.out.size)); clear HBL; have HBL := HBLx; clear HBLx; clear hb HCALL; go_wp2; go_ret; exact ⟨rfl, HB.out⟩
       | false =>
        have HV : Hid (valueP x inn = 0) := Lib.hid (by rw [HX2.out, hm]; rfl); have hcall := value_tv (cv := ic) HR.out.at_ HI.out; rw [HV.out] at hcall; have HCALL := Lib.hid hcall; clear hcall; go_wp2_with (go_at_call 17; refine HCALL.out.mono ?_; intro e x5 hx; obtain ⟨rfl, hb⟩ := hx; refine Hid.out ?_); refine Lib.hid ?_; have HBx := Lib.hid (HB.out.trans (hb.mono HB.out.size)); clear HB; have HB := HBx; clear HBx; have Hx := Lib.hid (HU.out.ext hb); clear HU; have HU := Hx; clear Hx; have Hx := Lib.hid (HR.out.ext hb); clear HR; have HR := Hx; clear Hx; have Hx := Lib.hid (HX.out.ext hb); clear HX; have HX := Hx; clear Hx; have Hx := Lib.hid (HI.out.ext hb); clear HI; have HI := Hx; clear Hx; have HBLx := Lib.hid (HBL.out.trans (hb.mono HBL.out.size)); clear HBL; have HBL := HBLx; clear HBLx; clear hb HCALL; clear cR0 cR1 cR2; have HNO2 : Hid (∀ j : Nat, j < i + 1 → (matchT t.tab (j : Int) inn).2 = false) := Lib.hid (fun j hj => by
         rcases Nat.lt_or_ge j i with h1 | h1
         ·exact HNO.out j h1
         ·obtain rfl : j = i := Nat.le_antisymm (Nat.le_of_lt_succ hj) h1; exact hm)
        have HBW : Hid (Below x3.heap.size x3 x5) := Lib.hid (HBR0.out.trans (HBL.out.mono HBR0.out.size)); clear hm; go_wp2; go_roundw
        case rel => exact ⟨i + 1, HIL.out, (by first | rfl | (rw [HWI.out]; rfl)), HBW, HNO2⟩
        case measure => (try rw [HWI.out]); exact meas_step HIL.out
      ·have HBx := Lib.hid (HB.out.trans (HBR.out.mono HB.out.size)); clear HB; have HB := HBx; clear HBx; have Hx := Lib.hid (HU.out.ext HBR.out); clear HU; have HU := Hx; clear Hx; have Hx := Lib.hid (HX.out.ext HBR.out); clear HX; have HX := Hx; clear Hx; have Hx := Lib.hid (HI.out.ext HBR.out); clear HI; have HI := Hx; clear Hx; clear HBR; obtain rfl : i = t.rs.length := Nat.le_antisymm hi (Nat.le_of_not_lt hil); clear hi hil; have hcall := awake_any wr ((HTAB.out.on HB.out).up HB.out.size) (HGM.out.ext HB.out); have HCALL := Lib.hid hcall; clear hcall; go_wp2_with (go_at_call 7; refine HCALL.out.mono ?_; intro e x4 hx; obtain ⟨rfl, hb⟩ := hx; refine Hid.out ?_); refine Lib.hid ?_; have HBx := Lib.hid (HB.out.trans (hb.mono HB.out.size)); clear HB; have HB := HBx; clear HBx; have Hx := Lib.hid (HU.out.ext hb); clear HU; have HU := Hx; clear Hx; have Hx := Lib.hid (HX.out.ext hb); clear HX; have HX := Hx; clear Hx; have Hx := Lib.hid (HI.out.ext hb); clear HI; have HI := Hx; clear Hx; clear hb HCALL; go_wp2; go_ret; exact ⟨rfl, HB.out⟩
    ·have e1 : (ff != 0) = true := by simpa using h1
     clear h1; have hcall := awake_any x3 ((HTAB.out.on HB.out).up HB.out.size) (HGM.out.ext HB.out); have HCALL := Lib.hid hcall; clear hcall; go_wp2_with (go_at_call 7; refine HCALL.out.mono ?_; intro e x4 hx; obtain ⟨rfl, hb⟩ := hx; refine Hid.out ?_); refine Lib.hid ?_; have HBx := Lib.hid (HB.out.trans (hb.mono HB.out.size)); clear HB; have HB := HBx; clear HBx; have Hx := Lib.hid (HU.out.ext hb); clear HU; have HU := Hx; clear Hx; have Hx := Lib.hid (HX.out.ext hb); clear HX; have HX := Hx; clear Hx; have Hx := Lib.hid (HI.out.ext hb); clear HI; have HI := Hx; clear Hx; clear hb HCALL; go_wp2; go_ret; exact ⟨rfl, HB.out⟩
   ·have e1 : (ee != 0) = true := by simpa using h0
    clear h0; have hcall := awake_any x3 ((HTAB.out.on HB.out).up HB.out.size) (HGM.out.ext HB.out); have HCALL := Lib.hid hcall; clear hcall; go_wp2_with (go_at_call 7; refine HCALL.out.mono ?_; intro e x4 hx; obtain ⟨rfl, hb⟩ := hx; refine Hid.out ?_); refine Lib.hid ?_; have HBx := Lib.hid (HB.out.trans (hb.mono HB.out.size)); clear HB; have HB := HBx; clear HBx; have Hx := Lib.hid (HU.out.ext hb); clear HU; have HU := Hx; clear Hx; have Hx := Lib.hid (HX.out.ext hb); clear HX; have HX := Hx; clear Hx; have Hx := Lib.hid (HI.out.ext hb); clear HI; have HI := Hx; clear Hx; clear hb HCALL; go_wp2; go_ret; exact ⟨rfl, HB.out⟩
end Go.Proofs.YtlegfdllipkggaaDoor
namespace Go.Proofs.YtlegfdllipkggaaDoor
set_option linter.unusedSimpArgs false
open Go.ChangeShapes Go.WideShapes Go.ChangeAt Go.RowKit Go.Deep
set_option maxRecDepth 100000
set_option linter.unusedVariables false
theorem Tryd.cellsRowT : Tryd.prog.cellsOf 47 = 2 := by kernel_rfl
theorem Tryd.cellsTab : Tryd.prog.cellsOf 31 = 5 := by kernel_rfl
theorem Tryd.cellsPts15 : Tryd.prog.cellsOf 22 = 1 := by kernel_rfl
theorem Tryd.cellsVrs15 : Tryd.prog.cellsOf 28 = 1 := by kernel_rfl
theorem Tryd.cellsRws15 : Tryd.prog.cellsOf 29 = 1 := by kernel_rfl
theorem array5 {α : Type} {cs : Array α} (h : cs.size = 5) : ∃ c0 c1 c2 c3 c4, cs = #[c0, c1, c2, c3, c4] := by
 obtain ⟨l⟩ := cs
 match l, h with
 | [c0, c1, c2, c3, c4], _ => exact ⟨c0, c1, c2, c3, c4, rfl⟩
section
variable {H : Type} {enc : TypeId × Value → H} {W : World}
theorem open_Rws {n : Nat} {v : Value} {x : DataW H × List MemPlace} (h : DataW.trod enc Tryd.prog W 0 (fun _ => true) true n 29 [v] = some x) : ∃ A c hs, v = .slice A (hs : List Rh).length c ∧ Rws W A hs := by
 rcases open_slice Tryd.underlying29 h with ⟨hcs, -⟩ | ⟨a, len, cap, m, k, D, Pl, hcs, -, hl, hm, hmm, -, hx⟩
 ·injection hcs with hcs
  exact ⟨none, 0, [], hcs, Rws.nil⟩
 ·injection hcs with hcs
  have hmc : m = cap := by rw [hmm]; rfl
  have hx' : ∀ i, i < len → ∃ q : Rh, W.cell? (a.add (i * 2)) = some (.slice q.A q.zs.length q.c) ∧ W.cell? (a.add (i * 2 + 1)) = some (.int .i64 q.out) ∧ Ints W q.A q.zs := by
   intro i hi; obtain ⟨cs', h1, h2⟩ := hx i (by omega); rw [Tryd.cellsRowT] at h1; obtain ⟨_, hlen, hcell⟩ := World.cells?_some h1; obtain ⟨xs, k2, hk, hxy, _, hxl, hf⟩ := DataW.trod_struct Tryd.underlying47 h2
   match xs, hxl, cs', hlen with
   | [y0, y1], _, [v0, v1], _ =>
    have g0 := hf 0 _ rfl; have g1 := hf 1 _ rfl; simp [Tryd.cellsIntsT] at g0; simp [Tryd.cellsInt] at g1; have e0 := hcell 0 (by omega); have e1 := hcell 1 (by omega); rw [add_add] at e0 e1; obtain ⟨p, r0, -, -⟩ := DataW.trod_int Tryd.underlying3 g1; injection r0 with r0
    subst r0; obtain ⟨A, c, zs, rfl, hi'⟩ := open_Ints g0; exact ⟨⟨A, c, zs, p⟩, by simpa using e0, by simpa using e1, hi'⟩
  obtain ⟨F, hF⟩ : ∃ F : Nat → Rh, ∀ i, i < len → W.cell? (a.add (i * 2)) = some (.slice (F i).A (F i).zs.length (F i).c) ∧ W.cell? (a.add (i * 2 + 1)) = some (.int .i64 (F i).out) ∧ Ints W (F i).A (F i).zs := by
   refine ⟨fun i => if hi : i < len then Classical.choose (hx' i hi) else ⟨none, 0, [], 0⟩, fun i hi => ?_⟩; simp only [hi, dif_pos]; exact Classical.choose_spec (hx' i hi)
  refine ⟨some a, cap, (List.range len).map F, ?_, ⟨?_, fun hn => ⟨a, rfl, ?_, fun j u hu => ?_⟩⟩, ?_, ?_⟩
  ·rw [hcs, List.length_map, List.length_range]
  ·rw [rh_len]
  ·have h0 := (hF 0 (by simpa using hn)).1; exact World.block_lt_of_cell? _ _ h0
  ·have hj : j < len * 2 := by
    have := (List.getElem?_eq_some_iff.1 hu).1; rw [rh_len] at this; simpa using this
   have hi : j / 2 < ((List.range len).map F).length := by simp; omega
   obtain ⟨f0, f1⟩ := rh2 ((List.range len).map F) (j / 2) hi; obtain ⟨g0, g1, -⟩ := hF (j / 2) (by omega); have hg : ((List.range len).map F)[j / 2] = F (j / 2) := by simp
   rw [hg] at f0 f1; rcases Nat.mod_two_eq_zero_or_one j with h2 | h2
   ·have ej : j = 2 * (j / 2) := by omega
    rw [ej] at hu ⊢; rw [f0] at hu; rw [Nat.mul_comm, g0]; exact hu
   ·have ej : j = 2 * (j / 2) + 1 := by omega
    rw [ej] at hu ⊢; rw [f1] at hu; rw [Nat.mul_comm, g1]; exact hu
  ·rw [List.length_map, List.length_range]; unfold maxLen at hm; omega
  ·intro q hq; obtain ⟨i, hi, rfl⟩ := List.mem_map.1 hq; exact (hF i (by simpa using hi)).2.2
theorem open_Vrs {n : Nat} {v : Value} {x : DataW H × List MemPlace} (h : DataW.trod enc Tryd.prog W 0 (fun _ => true) true n 28 [v] = some x) : ∃ A c hs, v = .slice A (hs : List Vh).length c ∧ Vrs W A hs := by
 rcases open_slice Tryd.underlying28 h with ⟨hcs, -⟩ | ⟨a, len, cap, m, k, D, Pl, hcs, -, hl, hm, hmm, -, hx⟩
 ·injection hcs with hcs
  exact ⟨none, 0, [], hcs, Vrs.nil⟩
 ·injection hcs with hcs
  have hmc : m = cap := by rw [hmm]; rfl
  have hx' : ∀ i, i < len → ∃ q : Vh, W.cell? (a.add i) = some (.slice q.A q.zs.length q.c) ∧ Ints W q.A q.zs := by
   intro i hi; obtain ⟨cs', h1, h2⟩ := hx i (by omega); rw [Tryd.cellsIntsT] at h1; obtain ⟨_, hlen, hcell⟩ := World.cells?_some h1
   match cs', hlen with
   | [v0], _ =>
    have e0 := hcell 0 (by omega); rw [add_add] at e0; obtain ⟨A, c, zs, rfl, hi'⟩ := open_Ints h2; exact ⟨⟨A, c, zs⟩, by simpa using e0, hi'⟩
  obtain ⟨F, hF⟩ : ∃ F : Nat → Vh, ∀ i, i < len → W.cell? (a.add i) = some (.slice (F i).A (F i).zs.length (F i).c) ∧ Ints W (F i).A (F i).zs := by
   refine ⟨fun i => if hi : i < len then Classical.choose (hx' i hi) else ⟨none, 0, []⟩, fun i hi => ?_⟩; simp only [hi, dif_pos]; exact Classical.choose_spec (hx' i hi)
  refine ⟨some a, cap, (List.range len).map F, ?_, ⟨?_, fun hn => ⟨a, rfl, ?_, fun j u hu => ?_⟩⟩, ?_, ?_⟩
  ·rw [hcs, List.length_map, List.length_range]
  ·rw [vh_len]
  ·have h0 := (hF 0 (by simpa using hn)).1; exact World.block_lt_of_cell? _ _ h0
  ·have hj : j < len := by
    have := (List.getElem?_eq_some_iff.1 hu).1; rw [vh_len] at this; simpa using this
   have f0 := vh1 ((List.range len).map F) j (by simpa using hj); have hg : ((List.range len).map F)[j]'(by simpa using hj) = F j := by simp
   rw [hg] at f0; rw [f0] at hu; rw [(hF j hj).1]; exact hu
  ·rw [List.length_map, List.length_range]; unfold maxLen at hm; omega
  ·intro q hq; obtain ⟨i, hi, rfl⟩ := List.mem_map.1 hq; exact (hF i (by simpa using hi)).2
theorem open_TabArg {r : Reach} {b0 : Nat} {v : Value} {d : DataW H} {p : List MemPlace} (hv : Value.okWide Tryd.prog W r b0 31 v) (h : DataW.Trod enc Tryd.prog W 0 (fun _ => true) true 31 v d p) :
  ∃ (t : TabH) (hA vA rA : Option Addr) (hc vc rc : Nat), v = tabV hA hc vA vc rA rc t ∧ TabR W hA vA rA t := by
 obtain ⟨cs, rfl, hsz⟩ := okWide_struct Tryd.underlying31 hv; obtain ⟨c0, c1, c2, c3, c4, rfl⟩ := array5 (hsz.trans Tryd.cellsTab); obtain ⟨fuel, hf⟩ := h; obtain ⟨xs, k2, hk, hxy, _, hxl, hg⟩ := DataW.trod_struct Tryd.underlying31 hf
 match xs, hxl with
 | [y0, y1, y2, y3, y4], _ =>
  have g0 := hg 0 _ rfl; have g1 := hg 1 _ rfl; have g2 := hg 2 _ rfl; have g3 := hg 3 _ rfl; have g4 := hg 4 _ rfl; simp [Value.cells, Tryd.cellsInt] at g0 g1; simp [Value.cells, Tryd.cellsPts15] at g2; simp [Value.cells, Tryd.cellsVrs15] at g3; simp [Value.cells, Tryd.cellsRws15] at g4; obtain ⟨s, e0, -, -⟩ := DataW.trod_int Tryd.underlying3 g0; injection e0 with e0
  subst e0; obtain ⟨m, e1, -, -⟩ := DataW.trod_int Tryd.underlying3 g1; injection e1 with e1
  subst e1; obtain ⟨hA, hc, ps, rfl, hp⟩ := open_Pts g2; obtain ⟨vA, vc, vs, rfl, hv'⟩ := open_Vrs g3; obtain ⟨rA, rc, rs, rfl, hr⟩ := open_Rws g4; exact ⟨⟨s, m, ps, vs, rs⟩, hA, vA, rA, hc, vc, rc, rfl, hp, hv', hr⟩
end
end Go.Proofs.YtlegfdllipkggaaDoor
