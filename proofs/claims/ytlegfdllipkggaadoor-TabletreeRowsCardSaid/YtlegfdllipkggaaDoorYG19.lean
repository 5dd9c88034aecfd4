/-
  texts SmallL AllN Const: parts of the proof; conditions stand with each theorem.
-/
import Derived.Test.YtlegfdllipkggaaDoorYG8
import Derived.Test.YtlegfdllipkggaaDoorYG0
import Derived.Test.YtlegfdllipkggaaDoorYJ
import Derived.Test.YtlegfdllipkggaaDoorYG18
import Derived.Test.YtlegfdllipkggaaDoorYTable
import Derived.Test.YtlegfdllipkggaaDoorYG6
namespace Go.Proofs.YtlegfdllipkggaaDoor
open Go.RowKit
set_option maxRecDepth 100000
set_option linter.unusedVariables false
set_option linter.unusedSimpArgs false
set_option maxHeartbeats 4000000 in
theorem ints12_any (A : Option Addr) (c : Nat) (l : List Int) (B : Option Addr) (d : Nat) (m : List Int) (w : World) (ha : Ints w A l) (hb : Ints w B m) :
  Calls Tryd.prog 22 #[.slice A l.length c, .slice B m.length d] w fun e w' => e = .returned (.bool (decide (l = m))) ∧ ∃ k, w' = w.drewN k := by
 have HA := Lib.hid ha; have HB := Lib.hid hb; have hl9 := ha.le; have hm9 := hb.le; clear ha hb; by_cases hlm : l.length = m.length
 ·have d1 : (((l.length : Nat) : Int) != ((m.length : Nat) : Int)) = false := by rw [hlm]; simp
  have HLM := Lib.hid hlm; have HL9 := Lib.hid hl9; clear hlm hl9 hm9; go_enter Tryd.func22, Tryd.ntmps22; go_wp2; go_loopw [13] (fun iv wr => ∃ i : Nat, i ≤ l.length ∧ iv = .int .i64 i ∧ Hid (∃ k, wr = w.drewN k) ∧ Hid (l.take i = m.take i)) (fun iv _ => l.length - (intOf iv).toNat)
  case atStart => exact ⟨0, Nat.zero_le _, rfl, Lib.hid ⟨0, rfl⟩, Lib.hid rfl⟩
  case round =>
   obtain ⟨i, hi, rfl, HW, HT⟩ := hrel; obtain ⟨k9, hk9⟩ := HW.out; by_cases hil : i < l.length
   ·have him : i < m.length := by rw [← HLM.out]; exact hil
    have hwb : Below w.heap.size w wr := by rw [hk9]; exact below_drewN (Below.refl _ _) _
    obtain ⟨b, o, rfl, -, hc⟩ := (HA.out.ext hwb).at_ hil; obtain ⟨b2, o2, rfl, -, hc2⟩ := (HB.out.ext hwb).at_ him; have htk : l[i] = m[i] → l.take (i + 1) = m.take (i + 1) := fun h => by
     rw [List.take_add_one, List.take_add_one, List.getElem?_eq_getElem hil, List.getElem?_eq_getElem him, HT.out, h]
    have hne : l[i] ≠ m[i] → l ≠ m := fun h e => h (by subst e; rfl); obtain ⟨x, hx⟩ : ∃ x, x = l[i] := ⟨_, rfl⟩
    obtain ⟨y, hy⟩ : ∃ y, y = m[i] := ⟨_, rfl⟩
    rw [← hx] at hc htk hne; rw [← hy] at hc2 htk hne; have hwi : wrap64 ((i : Int) + 1) = (i : Int) + 1 := by have := HL9.out; unfold wrap64; omega
    have HI := Lib.hid hil; have HI2 := Lib.hid him; have HWI := Lib.hid hwi; have HTK := Lib.hid htk; have HNE := Lib.hid hne; have HK9 := Lib.hid hk9; clear hi hx hy htk hne hwb hk9; by_cases e : x = y
    ·have e1 : (x != y) = false := by rw [e]; simp
     have HT2 := Lib.hid (HTK.out e); clear e; go_wp2; go_quiet (fail)
     go_wp2; go_roundw
     case rel => exact ⟨i + 1, HI.out, (by first | rfl | (rw [HWI.out]; rfl)), Lib.hid (by rw [HK9.out]; exact ⟨_, (by first | exact World.drewN_drewN | exact World.drewN_drewN _ _ _)⟩), HT2⟩
     case measure => (try rw [HWI.out]); exact meas_step HI.out
    ·have e1 : (x != y) = true := by simpa using e
     have HE : Hid (decide (l = m) = false) := Lib.hid (decide_eq_false (HNE.out e)); clear e; go_wp2; go_quiet (fail)
     go_wp2; go_ret; exact ⟨by first | (rw [HE.out]; done) | (rw [HE.out]; rfl), by rw [HK9.out]; exact ⟨_, (by first | exact World.drewN_drewN | exact World.drewN_drewN _ _ _)⟩⟩
   ·obtain rfl : i = l.length := Nat.le_antisymm hi (Nat.le_of_not_lt hil); have HE : Hid (decide (l = m) = true) := Lib.hid (decide_eq_true (by
     have h := HT.out; rw [List.take_length, HLM.out, List.take_length] at h; exact h))
    clear hi hil HT HW; go_wp2; go_ret; exact ⟨by first | (rw [HE.out]; done) | (rw [HE.out]; rfl), (by first | exact ⟨_, hk9⟩ | exact ⟨_, rfl⟩)⟩
 ·have d1 : (((l.length : Nat) : Int) != ((m.length : Nat) : Int)) = true := by simp; omega
  have HE : Hid (decide (l = m) = false) := Lib.hid (decide_eq_false (fun h => hlm (by rw [h]))); clear hlm hl9 hm9; go_enter Tryd.func22, Tryd.ntmps22; go_wp2; go_ret; exact ⟨by first | (rw [HE.out]; done) | (rw [HE.out]; rfl), ⟨0, rfl⟩⟩
def lineL : List (Int × Int) := [(-1, 0), (0, 0), (1, 0)]
set_option maxHeartbeats 4000000 in
theorem line_any (w : World) :
  Calls Tryd.prog 18 #[] w fun e w' => ∃ A c, e = .returned (.slice A 3 c) ∧ Pts w' A lineL ∧ Below w.heap.size w w' := by
 have h1 : OwnP 67 (w.alloc (.cells #[.int .i64 (-1), .int .i64 0, .int .i64 0, .int .i64 0, .int .i64 1, .int .i64 0] 67)) w.heap.size (.slice (some ⟨w.heap.size, 0, none⟩) 3 3) lineL :=
  World.ownsRow_lit (base := w.heap.size) (e := 67) (size := 2) w #[.int .i64 (-1), .int .i64 0, .int .i64 0, .int .i64 0, .int .i64 1, .int .i64 0] 3 (Nat.le_refl _) (by decide) rfl
 obtain ⟨A, c, e, hp, -⟩ := h1.pts; injection e with e e2 e3
 subst e; clear e2 e3; have HP := Lib.hid hp; clear hp h1; go_enter Tryd.func18, Tryd.ntmps18; go_wp2; go_ret; exact ⟨_, _, rfl, HP.out, below_new _ _⟩
theorem replicate_snoc (n : Nat) (a : Int) : List.replicate (n + 1) a = List.replicate n a ++ [a] := by
 rw [List.replicate_succ']
set_option maxHeartbeats 4000000 in
theorem all_any (lv : Int) (st : Nat) (k : Int) (hst : st ≤ 1000) (w : World) :
  Calls Tryd.prog 44 #[.int .i64 lv, .int .i64 st, .int .i64 k] w fun e w' => ∃ zA zc, e = .returned (.agg #[.int .i64 lv, .slice zA st zc]) ∧ OwnIA w' w.heap.size (.slice zA st zc) (List.replicate st k) ∧ Below w.heap.size w w' := by
 have HS := Lib.hid hst; clear hst; go_enter Tryd.func44, Tryd.ntmps44; go_upto_region 2 with fail
 obtain ⟨w1, hw1⟩ : ∃ W, W = (w.alloc (.cells #[.int .i64 0, .slice none 0 0] 50)).alloc (.cells #[.int .i64 lv, .slice none 0 0] 50) := ⟨_, rfl⟩
 have hr1 : Blk w1 w.heap.size 50 #[.int .i64 0, .slice none 0 0] := by rw [hw1]; exact (Blk.new _ _ _).alloc _
 have hx1 : Blk w1 (w.heap.size + 1) 50 #[.int .i64 lv, .slice none 0 0] := by rw [hw1]; exact blk_two' _ _ _ _
 have hb1 : Below w.heap.size w w1 := by rw [hw1]; exact (below_new _ _).alloc (by simp) _
 rw [← hw1]; have HR1 := Lib.hid hr1; have HX1 := Lib.hid hx1; have HB1 := Lib.hid hb1; clear hr1 hx1 hb1 hw1; go_wp2; go_loopw [8] (fun iv wr => ∃ i : Nat, i ≤ st ∧ iv = .int .i64 i ∧ Hid (w1.heap.size ≤ wr.heap.size) ∧ ∃ A c, Hid (Blk wr (w.heap.size + 1) 50 #[.int .i64 lv, .slice A i c]) ∧ Hid (Blk wr w.heap.size 50 #[.int .i64 0, .slice none 0 0]) ∧ Hid (OwnIA wr w1.heap.size (.slice A i c) (List.replicate i k)) ∧ Hid (Below w.heap.size w wr)) (fun iv _ => st - (intOf iv).toNat)
 case atStart => exact ⟨0, Nat.zero_le _, rfl, Lib.hid (Nat.le_refl _), none, 0, HX1, HR1, Lib.hid (OwnI.nil _ _ _), HB1⟩
 case round =>
  obtain ⟨i, hi, rfl, HSZ, A, c, HX, HR, HO, HB⟩ := hrel; have c0 := HX.out.cell_ 0 (.int .i64 lv) rfl; have c1 := HX.out.cell_ 1 (.slice A i c) rfl; by_cases hil : i < st
  ·have hwi : wrap64 ((i : Int) + 1) = (i : Int) + 1 := by have := HS.out; unfold wrap64; omega
   have HI := Lib.hid hil; have HWI := Lib.hid hwi; have hown := HO.out; have hln : (List.replicate i k).length < 1000000000000 := by rw [List.length_replicate]; have := HS.out; omega
   have hbs := HSZ.out; clear hi; go_wp2_with (at_builtin; refine wpList_pushI rfl _ _ _ rfl w1.heap.size 3 Tryd.underlying41 Tryd.infoInt _ _ rfl hown _ rfl hln hbs ?_); intro v' w7 ho' hb'; obtain ⟨A2, c2, e2, -, -⟩ := OwnI.ints ho'; rw [List.length_append, List.length_replicate, List.length_singleton] at e2; subst e2; have hx7 := HX.out.below hb' HX1.out.lt; have hr7 := HR.out.below hb' HR1.out.lt; have d0 := hx7.cell_ 0 (.int .i64 lv) rfl; have d1 := hx7.cell_ 1 (.slice A i c) rfl; have f1 := hx7.frozen 1; have HX7 : Hid (Blk (w7.setCell ⟨w.heap.size + 1, 1, none⟩ (.slice A2 (i + 1) c2)) (w.heap.size + 1) 50 #[.int .i64 lv, .slice A2 (i + 1) c2]) := Lib.hid (hx7.set_ 1 _); have HR7 : Hid (Blk (w7.setCell ⟨w.heap.size + 1, 1, none⟩ (.slice A2 (i + 1) c2)) w.heap.size 50 #[.int .i64 0, .slice none 0 0]) := Lib.hid (hr7.far (p := ⟨w.heap.size + 1, 1, none⟩) (by simp) _); have HO7 : Hid (OwnIA (w7.setCell ⟨w.heap.size + 1, 1, none⟩ (.slice A2 (i + 1) c2)) w1.heap.size (.slice A2 (i + 1) c2) (List.replicate (i + 1) k)) := Lib.hid (by
    rw [replicate_snoc]; exact ((Kept.refl (fun g => g = w.heap.size + 1) w7).setCell (p := ⟨w.heap.size + 1, 1, none⟩) (Or.inl rfl) _).own ho' (fun g g1 g2 => by subst g2; have := (own_lt' ho' g1).2; have := HX1.out.lt; omega))
   have HB7 : Hid (Below w.heap.size w (w7.setCell ⟨w.heap.size + 1, 1, none⟩ (.slice A2 (i + 1) c2))) := Lib.hid ((HB.out.trans (hb'.mono HB1.out.size)).setCell (p := ⟨w.heap.size + 1, 1, none⟩) (by simp) _); have HSZ7 : Hid (w1.heap.size ≤ (w7.setCell ⟨w.heap.size + 1, 1, none⟩ (.slice A2 (i + 1) c2)).heap.size) := Lib.hid (by have := hb'.size; have := HSZ.out; simp; omega); clear ho' hb' hown hln hbs hx7 hr7 c0 c1; go_wp2; go_roundw
   case rel => exact ⟨i + 1, HI.out, (by first | rfl | (rw [HWI.out]; rfl)), HSZ7, A2, c2, HX7, HR7, HO7, HB7⟩
   case measure => (try rw [HWI.out]); exact meas_step HI.out
  ·obtain rfl : i = st := Nat.le_antisymm hi (Nat.le_of_not_lt hil); have r0 := HR.out.cell_ 0 (.int .i64 0) rfl; have r1 := HR.out.cell_ 1 (.slice none 0 0) rfl; have f0 := HR.out.frozen 0; have f1 := HR.out.frozen 1; clear hi hil; go_wp2; have hq : Blk ((wr.setCell ⟨w.heap.size, 0, none⟩ (.int .i64 lv)).setCell ⟨w.heap.size, 1, none⟩ (.slice A i c)) w.heap.size 50 #[.int .i64 lv, .slice A i c] := (HR.out.set_ 0 (.int .i64 lv)).set_ 1 (.slice A i c); have hk : Kept (fun g => g = w.heap.size) wr ((wr.setCell ⟨w.heap.size, 0, none⟩ (.int .i64 lv)).setCell ⟨w.heap.size, 1, none⟩ (.slice A i c)) := ((Kept.refl (fun g => g = w.heap.size) wr).setCell (p := ⟨w.heap.size, 0, none⟩) (Or.inl rfl) _).setCell (p := ⟨w.heap.size, 1, none⟩) (Or.inl rfl) _; refine bodyPost_ret (results_cell_row Tryd.results44 _ _ w.heap.size 50 #[.int .i64 lv, .slice A i c] (0, 0) _ rfl hq Tryd.underlying50 rfl (by kernel_rfl)) rfl ⟨A, c, rfl, ?_, ?_⟩
   ·exact own_weak (hk.own HO.out (fun g g1 g2 => by subst g2; have := (own_lt' HO.out g1).2; have := HR1.out.lt; omega)) HB1.out.size
   ·exact (HB.out.setCell (p := ⟨w.heap.size, 0, none⟩) (by simp) _).setCell (p := ⟨w.heap.size, 1, none⟩) (by simp) _
def ApcPost (V : World) (bs : Nat) (acc : List Hd) (xv : Value) (lv : Int) (zs : List Int) (T : Nat) (h0 h1 : Value) (w' : World) : Prop :=
 ∃ X c zA zc, Blk w' T 25 #[h0, h1, .slice X (acc.length + 1) c] ∧ OwnNA w' bs (.slice X (acc.length + 1) c) (acc ++ [⟨lv, zA, zc, zs⟩]) ∧ Kept (fun g => xv.ownBlock = some g ∨ g = T) V w' ∧ ∀ g, (Value.slice zA zs.length zc).ownBlock = some g → V.heap.size ≤ g
theorem ApcPost.mk15 {V w6 : World} {bs : Nat} {acc : List Hd} {xv : Value} {lv : Int} {zs : List Int} {T : Nat} {h0 h1 : Value} {X : Option Addr} {c : Nat} {zA : Option Addr} {zc : Nat}
  (ho : OwnNA w6 bs (.slice X (acc.length + 1) c) (acc ++ [⟨lv, zA, zc, zs⟩])) (hk : Kept (fun g => xv.ownBlock = some g) V w6) (hT : Blk w6 T 25 #[h0, h1, xv]) (hTB : T < bs) (hf : ∀ g, (Value.slice zA zs.length zc).ownBlock = some g → V.heap.size ≤ g) :
  ApcPost V bs acc xv lv zs T h0 h1 (w6.setCell ⟨T, 2, none⟩ (.slice X (acc.length + 1) c)) := by
 have hk2 : Kept (fun g => g = T) w6 (w6.setCell ⟨T, 2, none⟩ (.slice X (acc.length + 1) c)) := (Kept.refl (fun g => g = T) w6).setCell (p := ⟨T, 2, none⟩) (Or.inl rfl) _; refine ⟨X, c, zA, zc, hT.set_ 2 _, ho.kept hk2 (fun g e1 e2 => by subst e2; have := (own_lt' ho.1 e1).2; omega) (fun x hx g e1 e2 => by subst e2; have := (own_lt' (ho.2 x hx) e1).2; omega), ?_⟩; exact ⟨(hk.mono (fun g _ h => Or.inl h)).trans (hk2.mono (fun g _ h => Or.inr h)), hf⟩
def zeroN : List Nd := [(1, [0, 0]), (2, [0, 0]), (3, [1, 1])]
def readN : List Nd := [(1, [0, 0]), (1, [1, 1]), (2, [0, 1]), (3, [2, 2])]
def zeroT : PT := ⟨2, lineL, zeroN⟩
def readT : PT := ⟨2, lineL, readN⟩
def kC : Nat → Int
 | 0 => 0
 | m + 1 => m
theorem all_call (V : World) (lv k : Int) (zs : List Int) (hz : zs = [k, k]) : ∀ W, Below V.heap.size V W → Calls Tryd.prog 44 #[.int .i64 lv, .int .i64 2, .int .i64 k] W fun e w' => ∃ zA zc, e = .returned (.agg #[.int .i64 lv, .slice zA zs.length zc]) ∧ OwnIA w' W.heap.size (.slice zA zs.length zc) zs ∧ Below W.heap.size W w' := fun W hW => by
 subst hz; exact all_any lv 2 k (by decide) W
structure Const10J (V : World) (bs : Nat) (acc : List Hd) (xv : Value) (lv : Int) (zs : List Int) (T : Nat) (e0 : Value) (e1 : Value) (kk : Int) (b0 b1 b2 b3 b4 b5 b6 b7 b8 b9 : Bool) (v41 v42 v43 v44 v45 v46 v47 v48 v49 : Value) (w : World) : Prop where
 h0 : b0 = true → v41 = .pointer (some ⟨T, 2, none⟩)
 h1 : b1 = true → v42 = xv
 h2 : b2 = true → v43 = .int .i64 lv
 h3 : b3 = true → v44 = .int .i64 2
 h4 : b4 = true → v45 = .int .i64 kk
 h8 : b8 = true → v49 = .pointer (some ⟨T, 2, none⟩)
 hk : b7 = false → ∀ p : Addr, p.block < V.heap.size → w.cell? p = V.cell? p
 wa : b5 = false → w = V.drew
 wz : b5 = true → b6 = false → ∃ zA zc, v46 = .agg #[.int .i64 lv, .slice zA zs.length zc] ∧ OwnIA w V.heap.size (.slice zA zs.length zc) zs ∧ OwnNA w bs xv acc ∧ Below V.heap.size V w
 wb : b6 = true → b7 = false → ∃ zA zc W0, v47 = .slice (some ⟨W0.heap.size, 0, none⟩) 1 1 ∧ w = W0.alloc (.cells #[.int .i64 lv, .slice zA zs.length zc] 50) ∧ OwnIA W0 V.heap.size (.slice zA zs.length zc) zs ∧ OwnNA W0 bs xv acc ∧ Below V.heap.size V W0
 wc : b7 = true → b9 = false → ∃ X c zA zc, v48 = .slice X (acc.length + 1) c ∧ OwnNA w bs (.slice X (acc.length + 1) c) (acc ++ [⟨lv, zA, zc, zs⟩]) ∧ Kept (fun g => xv.ownBlock = some g) V w ∧ ∀ g, (Value.slice zA zs.length zc).ownBlock = some g → V.heap.size ≤ g
 wd : b9 = true → ApcPost V bs acc xv lv zs T e0 e1 w
 ord2 : b9 = true → b7 = true ∧ b8 = true
 o1 : b1 = true → b0 = true
 o5 : b5 = true → b2 = true ∧ b3 = true ∧ b4 = true
 o6 : b6 = true → b5 = true
 o7 : b7 = true → b1 = true ∧ b6 = true
set_option maxHeartbeats 8000000 in
theorem const_line (A : Option Addr) (c : Nat) (w : World) (hp : Pts w A lineL) :
  Calls Tryd.prog 21 #[.int .i64 2, .slice A 3 c, .int .i64 0] w (RetAE (zeroT, 0) w) := by
 have hcr : ∀ W, Below w.heap.size w W → Calls Tryd.prog 43 #[.slice A 3 c] W fun e w' => e = .returned (.bool true) ∧ Below W.heap.size W w' := fun W hW => rhood_any A c lineL W (hp.ext hW); obtain ⟨w0, hw0⟩ : ∃ W, W = w.alloc (.cells #[.int .i64 0, .slice none 0 0, .slice none 0 0] 25) := ⟨_, rfl⟩
 have hb0 : Below w.heap.size w w0 := by rw [hw0]; exact below_new _ _
 have hr0 : Blk w0 w.heap.size 25 #[.int .i64 0, .slice none 0 0, .slice none 0 0] := by rw [hw0]; exact Blk.new _ _ _
 have HCR := Lib.hid hcr; have HP := Lib.hid hp; have HW0 := Lib.hid hw0; have HB0 := Lib.hid hb0; have HR0 := Lib.hid hr0; clear hp hcr hw0 hb0 hr0; go_enter Tryd.func21, Tryd.ntmps21; go_upto_region 1 with fail
 rw [← HW0.out]; go_wp2_with (go_at_call 43; refine (HCR.out _ HB0.out).mono ?_; rintro e w1 ⟨rfl, hb1⟩; refine Hid.out ?_); refine Lib.hid ?_; have HB1 := Lib.hid hb1; clear hb1; go_upto_region 7 with fail
 obtain ⟨X, hX⟩ : ∃ g, g = w1.heap.size := ⟨_, rfl⟩
 obtain ⟨w2, hw2⟩ : ∃ W, W = w1.alloc (.cells #[.int .i64 2, .slice A 3 c, .slice none 0 0] 25) := ⟨_, rfl⟩
 have hx2 : Blk w2 X 25 #[.int .i64 2, .slice A 3 c, .slice none 0 0] := by rw [hw2, hX]; exact Blk.new _ _ _
 have hb2 : Below w1.heap.size w1 w2 := by rw [hw2]; exact below_new _ _
 have hr2 : Blk w2 w.heap.size 25 #[.int .i64 0, .slice none 0 0, .slice none 0 0] := (HR0.out.below HB1.out HR0.out.lt).below hb2 (Nat.lt_of_lt_of_le HR0.out.lt HB1.out.size); have HG : Hid (w.heap.size < X ∧ X < w2.heap.size) := Lib.hid ⟨by rw [hX]; exact Nat.lt_of_lt_of_le HR0.out.lt HB1.out.size, hx2.lt⟩; have HBW2 : Hid (Below w.heap.size w w2) := Lib.hid (HB0.out.trans ((HB1.out.trans (hb2.mono HB1.out.size)).mono HB0.out.size)); rw [← hw2, ← hX]; have HX2 := Lib.hid hx2; have HR2 := Lib.hid hr2; clear hx2 hr2 hb2 hX hw2 HB1 HR0 HB0 HW0; go_wp2; go_loopw [9, 10] (fun kv iv wr => ∃ m : Nat, m ≤ 3 ∧ kv = .int .i64 (kC m) ∧ iv = .int .i64 ((m : Int) + 1) ∧ Hid (w2.heap.size ≤ wr.heap.size) ∧ ∃ B d os, Hid (os.length = m) ∧ Hid ((os : List Hd).map Hd.nd = zeroN.take m) ∧ Hid (Blk wr X 25 #[.int .i64 2, .slice A 3 c, .slice B os.length d]) ∧ Hid (Blk wr w.heap.size 25 #[.int .i64 0, .slice none 0 0, .slice none 0 0]) ∧ Hid (OwnNA wr w2.heap.size (.slice B os.length d) os) ∧ Hid (Below w.heap.size w wr)) (fun _ iv _ => 4 - (intOf iv).toNat)
 case atStart => exact ⟨0, by decide, rfl, rfl, Lib.hid (Nat.le_refl _), none, 0, [], Lib.hid rfl, Lib.hid rfl, HX2, HR2, Lib.hid (OwnN.nil _ _ _ _), HBW2⟩
 case round =>
  obtain ⟨m, hm, rfl, rfl, HBS, B, d, os, HLN, HNS, HTV, HR, HOWN, HB⟩ := hrel; clear HX2 HR2 HBW2; by_cases hm3 : m < 3
  ·have HI := Lib.hid hm3; obtain ⟨lv, hlv⟩ : ∃ lv : Int, lv = (m : Int) + 1 := ⟨_, rfl⟩
   obtain ⟨kk, hkk⟩ : ∃ kk, kk = kC m := ⟨_, rfl⟩
   obtain ⟨zs, hzs⟩ : ∃ zs : List Int, zs = [kk, kk] := ⟨_, rfl⟩
   have HCALL := Lib.hid (all_call wr lv kk zs hzs); have HAL : Hid (os.length < 1000000000000) := Lib.hid (by rw [HLN.out]; omega); have HTB : Hid (X < w2.heap.size) := Lib.hid HG.out.2; have hd3 : decide (lv ≤ 3) = true := decide_eq_true (by omega); rw [← hlv, ← hkk]; have HLV := Lib.hid hlv; have HKK := Lib.hid hkk; have HZS := Lib.hid hzs; clear hm hm3 hlv hkk hzs; go_upto_region 10 with fail
   refine wp_region_J (by kernel_rfl) (fun listed act w' => ∃ b0 b1 b2 b3 b4 b5 b6 b7 b8 b9 v41 v42 v43 v44 v45 v46 v47 v48 v49, listed = #[b0, b1, b2, b3, b4, b5, b6, b7, b8, b9] ∧ act = Act.mk #[.int .i64 2, .slice A 3 c, .int .i64 0, undef, undef, undef, .pointer (some ⟨w.heap.size, 0, none⟩), .int .i64 0, .pointer (some ⟨X, 0, none⟩), .int .i64 kk, .int .i64 lv, .int .i64 2, .bool false, .bool false, .int .i64 2, .bool false, .bool false, .bool false, .slice A 3 c, .bool true, .bool false, .bool false, undef, .int .i64 0, .bool false, .bool false, .int .i64 0, .int .i64 2, .bool false, .bool false, undef, .int .i64 2, .slice A 3 c, .agg #[.int .i64 2, .slice A 3 c, .slice none 0 0], .int .i64 0, .int .i64 lv, .slice A 3 c, .int .i64 3, .bool true, u39, u40, v41, v42, v43, v44, v45, v46, v47, v48, v49, u50, u51, undef] [] ∧ Const10J (wr) (w2.heap.size) (os) (.slice B os.length d) (lv) (zs) (X) (.int .i64 2) (.slice A 3 c) (kk) b0 b1 b2 b3 b4 b5 b6 b7 b8 b9 v41 v42 v43 v44 v45 v46 v47 v48 v49 w') ?_ ?_ ?_
   ·exact (e_8 (e_8 (e_2 (e_1 ⟨rfl, rfl, (by constructor; (case hk => exact (fun _ _ _ => rfl)); (case wa => exact (fun _ => rfl)); all_goals simp)⟩))))
   ·rintro i listed act w' hi ⟨b0, b1, b2, b3, b4, b5, b6, b7, b8, b9, v41, v42, v43, v44, v45, v46, v47, v48, v49, rfl, rfl, H⟩; have hi16 : i < 10 := by
     obtain ⟨-, o, ho, -⟩ := mem_ready.1 hi; exact (Array.getElem?_eq_some_iff.1 ho).1
    obtain rfl | rfl | rfl | rfl | rfl | rfl | rfl | rfl | rfl | rfl : i = 0 ∨ i = 1 ∨ i = 2 ∨ i = 3 ∨ i = 4 ∨ i = 5 ∨ i = 6 ∨ i = 7 ∨ i = 8 ∨ i = 9 := by omega
    all_goals simp [mem_ready, Region.binds] at hi
    ·refine wpOp_hidden rfl fun K hK => ?_; go_wp2; refine OnlyN.mk (hK.out _ _ (e_8 (e_8 (e_2 (e_1 ⟨rfl, rfl, { H with h0 := fun _ => rfl, o1 := fun h => rfl }⟩)))))
    ·have bAf : b7 = false := by
      cases hb : b7 with
      | false => rfl
      | true => exact absurd (H.o7 hb).1 (by simp [hi])
     obtain rfl := H.h0 (by simp [hi]); have cc := (H.hk bAf ⟨X, 2, none⟩ HTV.out.lt).trans (HTV.out.cell_ 2 _ rfl); clear bAf; refine wpOp_hidden rfl fun K hK => ?_; go_wp2; refine OnlyN.mk (hK.out _ _ (e_8 (e_8 (e_2 (e_1 ⟨rfl, rfl, { H with h1 := fun _ => rfl, o1 := fun _ => (by simp [hi]), o7 := fun h => ⟨rfl, (H.o7 h).2⟩ }⟩)))))
    ·refine wpOp_hidden rfl fun K hK => ?_; go_wp2; refine OnlyN.mk (hK.out _ _ (e_8 (e_8 (e_2 (e_1 ⟨rfl, rfl, { H with h2 := fun _ => rfl, o5 := fun h => ⟨rfl, (H.o5 h).2.1, (H.o5 h).2.2⟩ }⟩)))))
    ·refine wpOp_hidden rfl fun K hK => ?_; go_wp2; refine OnlyN.mk (hK.out _ _ (e_8 (e_8 (e_2 (e_1 ⟨rfl, rfl, { H with h3 := fun _ => rfl, o5 := fun h => ⟨(H.o5 h).1, rfl, (H.o5 h).2.2⟩ }⟩)))))
    ·refine wpOp_hidden rfl fun K hK => ?_; go_wp2; refine OnlyN.mk (hK.out _ _ (e_8 (e_8 (e_2 (e_1 ⟨rfl, rfl, { H with h4 := fun _ => rfl, o5 := fun h => ⟨(H.o5 h).1, (H.o5 h).2.1, rfl⟩ }⟩)))))
    ·have bAf : b7 = false := by
      cases hb : b7 with
      | false => rfl
      | true => exact absurd (H.o6 (H.o7 hb).2) (by simp [hi])
     obtain rfl := H.h2 (by simp [hi]); obtain rfl := H.h3 (by simp [hi]); obtain rfl := H.h4 (by simp [hi]); have hw := H.wa (by simp [hi]); have HAF := Lib.hid bAf; subst hw; clear bAf; have hcall := HCALL.out (World.drew wr) ((Below.refl _ wr).drew); have HCL := Lib.hid hcall; clear hcall; refine wpOp_hidden rfl fun K hK => ?_; go_wp2_with (go_at_call 44; refine HCL.out.mono ?_; rintro e w6 ⟨zA, zc, rfl, hi6, hb6⟩; refine Hid.out ?_); refine Lib.hid ?_; have HB6 : Hid (Below (World.heap wr).size wr w6) := Lib.hid (((Below.refl _ wr).drew).trans hb6); have HI6 : Hid (OwnIA w6 (World.heap wr).size (.slice zA (List.length zs) zc) zs) := Lib.hid hi6; have HO6 : Hid (OwnNA w6 w2.heap.size (.slice B os.length d) os) := Lib.hid (OwnN.ext HOWN.out HB6.out); clear hi6 hb6; go_wp2; refine OnlyN.mk (hK.out _ _ (e_8 (e_8 (e_2 (e_1 ⟨rfl, rfl, { H with hk := fun _ p hp => HB6.out.cell hp, wa := fun h => (by cases h), wz := fun _ _ => ⟨_, _, rfl, HI6.out, HO6.out, HB6.out⟩, wb := fun h => absurd (H.o6 h) (by simp [hi]), wc := fun h => absurd h (by rw [HAF.out]; decide), wd := fun h => absurd (H.ord2 h).1 (by rw [HAF.out]; decide), o5 := fun _ => (by simp [hi]), o6 := fun h => rfl }⟩)))))
    ·have bAf : b7 = false := by
      cases hb : b7 with
      | false => rfl
      | true => exact absurd (H.o7 hb).2 (by simp [hi])
     obtain ⟨zA, zc, hv, hi6, ho6, hb6⟩ := H.wz (by simp [hi]) (by simp [hi]); subst hv; have HAF := Lib.hid bAf; have HWZ := Lib.hid (And.intro hi6 (And.intro ho6 hb6)); have HB6 := Lib.hid (hb6.alloc hb6.size (.cells #[.int .i64 lv, .slice zA (List.length zs) zc] 50)); clear bAf hi6 ho6 hb6; refine wpOp_hidden rfl fun K hK => ?_; go_wp2; refine OnlyN.mk (hK.out _ _ (e_8 (e_8 (e_2 (e_1 ⟨rfl, rfl, { H with hk := fun _ p hp => HB6.out.cell hp, wa := fun h => absurd h (by simp [hi]), wz := fun _ h => (by cases h), wb := fun _ _ => ⟨_, _, _, rfl, rfl, HWZ.out⟩, wc := fun h => absurd h (by rw [HAF.out]; decide), wd := fun h => absurd (H.ord2 h).1 (by rw [HAF.out]; decide), o6 := fun _ => (by simp [hi]), o7 := fun h => ⟨(H.o7 h).1, rfl⟩ }⟩)))))
    ·obtain rfl := H.h1 (by simp [hi]); obtain ⟨zA, zc, Vd, hv, hw, hI6v, hown, hbd⟩ := H.wb (by simp [hi]) (by simp [hi]); subst hw; subst hv; have HFR : Hid (∀ g, (Value.slice zA (List.length zs) zc).ownBlock = some g → (World.heap wr).size ≤ g) := Lib.hid (fun g e => (own_lt' hI6v e).2); have hI6 : OwnIA Vd w2.heap.size (.slice zA (List.length zs) zc) zs := own_down hI6v HBS.out; clear hI6v; have hal := HAL.out; have hws : w2.heap.size ≤ Vd.heap.size := Nat.le_trans HBS.out hbd.size; have HVD : Hid (Kept (fun g => Value.ownBlock (.slice B os.length d) = some g) wr Vd) := Lib.hid (Kept.of_new _ hbd); clear hbd; refine wpOp_hidden rfl fun K hK => ?_; refine wpList_pushN rfl _ _ _ rfl w2.heap.size 50 3 (by decide) Tryd.underlying23 Tryd.infoNode _ _ rfl hown _ _ _ _ hI6 rfl hal hws ?_; intro xv' w6 ho6 hk6 hm6; obtain ⟨xA', xc', hxv', -, -⟩ := ho6.nds; rw [List.length_append, List.length_singleton] at hxv'; subst hxv'; have HO6 := Lib.hid ho6; have HK6 : Hid (Kept (fun g => Value.ownBlock (.slice B os.length d) = some g) wr w6) := Lib.hid (HVD.out.trans hk6); clear ho6 hk6 hm6 hown hal hws hI6; go_wp2; refine OnlyN.mk (hK.out _ _ (e_8 (e_8 (e_2 (e_1 ⟨rfl, rfl, { H with hk := fun h => (by cases h), wa := fun h => absurd h (by simp [hi]), wz := fun _ h => absurd h (by simp [hi]), wb := fun _ h => (by cases h), wc := fun _ _ => ⟨_, _, _, _, rfl, HO6.out, HK6.out, HFR.out⟩, wd := fun h => absurd (H.ord2 h).1 (by simp [hi]), ord2 := fun h => ⟨rfl, (H.ord2 h).2⟩, o7 := fun _ => (by simp [hi]) }⟩)))))
    ·refine wpOp_hidden rfl fun K hK => ?_; go_wp2; refine OnlyN.mk (hK.out _ _ (e_8 (e_8 (e_2 (e_1 ⟨rfl, rfl, { H with h8 := fun _ => rfl, ord2 := fun h => ⟨(H.ord2 h).1, rfl⟩ }⟩)))))
    ·obtain rfl := H.h8 (by simp [hi]); obtain ⟨xA', xc', zA, zc, hv, ho6, hk6, hfr⟩ := H.wc (by simp [hi]) (by simp [hi]); subst hv; have hT6 := hk6.blk HTV.out (fun e => by have := (own_lt' HOWN.out.1 e).2; have := HTB.out; omega); have cx9 := hT6.cell_ 2 (.slice B os.length d) rfl; have fx9 := hT6.frozen 2; have HPOST := Lib.hid (ApcPost.mk15 ho6 hk6 hT6 HTB.out hfr); clear hfr ho6 hk6 hT6; refine wpOp_hidden rfl fun K hK => ?_; go_wp2; refine OnlyN.mk (hK.out _ _ (e_8 (e_8 (e_2 (e_1 ⟨rfl, rfl, { H with hk := fun h => absurd h (by simp [hi]), wa := fun h => absurd h (by simp [hi]), wz := fun _ h => absurd h (by simp [hi]), wb := fun _ h => absurd h (by simp [hi]), wc := fun _ h => (by cases h), wd := fun _ => HPOST.out, ord2 := fun _ => (by simp [hi]) }⟩)))))
   ·rintro listed act w' hr ⟨b0, b1, b2, b3, b4, b5, b6, b7, b8, b9, v41, v42, v43, v44, v45, v46, v47, v48, v49, rfl, rfl, H⟩; have hn := List.eq_nil_iff_forall_not_mem.1 hr; have r0 := hn 0; simp [mem_ready, Region.binds] at r0; subst r0; have r1 := hn 1; simp [mem_ready, Region.binds] at r1; subst r1; have r2 := hn 2; simp [mem_ready, Region.binds] at r2; subst r2; have r3 := hn 3; simp [mem_ready, Region.binds] at r3; subst r3; have r4 := hn 4; simp [mem_ready, Region.binds] at r4; subst r4; have r5 := hn 5; simp [mem_ready, Region.binds] at r5; subst r5; have r6 := hn 6; simp [mem_ready, Region.binds] at r6; subst r6; have r7 := hn 7; simp [mem_ready, Region.binds] at r7; subst r7; have r8 := hn 8; simp [mem_ready, Region.binds] at r8; subst r8; have r9 := hn 9; simp [mem_ready, Region.binds] at r9; subst r9; try dsimp only
    have HPO := Lib.hid (H.wd rfl); clear H hr hn; obtain ⟨X9, c9, zA9, zc9, hb9, ho9, hk9, -⟩ := HPO.out; have HWK : Hid (wrap64 (lv - 1) = kC (m + 1)) := Lib.hid (by rw [HLV.out]; show wrap64 ((m : Int) + 1 - 1) = (m : Int); have := HI.out; unfold wrap64; omega); have HWL : Hid (wrap64 (lv + 1) = ((m + 1 : Nat) : Int) + 1) := Lib.hid (by rw [HLV.out]; have := HI.out; unfold wrap64; omega); have HB9 := Lib.hid hb9; have HL9 : Hid ((os ++ [⟨(lv : Int), zA9, zc9, zs⟩] : List Hd).length = m + 1) := Lib.hid (by rw [List.length_append, List.length_singleton, HLN.out]); have HN9 : Hid ((os ++ [⟨(lv : Int), zA9, zc9, zs⟩] : List Hd).map Hd.nd = zeroN.take (m + 1)) := Lib.hid (by
     rw [List.map_append, HNS.out]; have h3 := HI.out; rw [HZS.out, HKK.out, HLV.out]; obtain rfl | rfl | rfl : m = 0 ∨ m = 1 ∨ m = 2 := by omega
     ·rfl
     ·rfl
     ·rfl)
    have HBL9 : Hid (Blk w' X 25 #[.int .i64 2, .slice A 3 c, .slice X9 (os ++ [⟨(lv : Int), zA9, zc9, zs⟩] : List Hd).length c9]) := Lib.hid (by rw [List.length_append]; exact hb9); have HON9 : Hid (OwnNA w' w2.heap.size (.slice X9 (os ++ [⟨(lv : Int), zA9, zc9, zs⟩] : List Hd).length c9) (os ++ [⟨(lv : Int), zA9, zc9, zs⟩])) := Lib.hid (by rw [List.length_append]; exact ho9); have HR9 := Lib.hid (hk9.blk HR.out (fun e => by
     rcases e with e | e
     ·have := (own_lt' HOWN.out.1 e).2; have := HG.out; omega
     ·have := HG.out; omega))
    have HBW9 : Hid (Below w.heap.size w w') := Lib.hid (HB.out.trans (hk9.to_below HB.out.size (fun g hg e => by
     rcases e with e | e
     ·have := (own_lt' HOWN.out.1 e).2; have := HG.out; omega
     ·have := HG.out; omega)))
    have HSZ9 : Hid (w2.heap.size ≤ w'.heap.size) := Lib.hid (Nat.le_trans HBS.out hk9.below.size); obtain ⟨os9, hos9⟩ : ∃ o, o = (os ++ [⟨(lv : Int), zA9, zc9, zs⟩] : List Hd) := ⟨_, rfl⟩
    rw [← hos9] at HL9 HN9 HBL9 HON9; clear hb9 ho9 hk9 hos9 HPO HTV HOWN HCALL HBS HNS HLN HB9 HR HB HZS HAL HTB; go_wp2; go_roundw
    case rel => exact ⟨m + 1, HI.out, (by rw [HWK.out]), (by rw [HWL.out]), HSZ9, X9, c9, os9, HL9, HN9, HBL9, HR9, HON9, HBW9⟩
    case measure => rw [HWL.out, HLV.out]; simp only [intOf]; have := HI.out; omega
  ·obtain rfl : m = 3 := Nat.le_antisymm hm (Nat.le_of_not_lt hm3); have x0 := HTV.out.cell_ 0 (.int .i64 2) rfl; have x1 := HTV.out.cell_ 1 (.slice A 3 c) rfl; have x2 := HTV.out.cell_ 2 (.slice B os.length d) rfl; have r0 := HR.out.cell_ 0 (.int .i64 0) rfl; have r1 := HR.out.cell_ 1 (.slice none 0 0) rfl; have r2 := HR.out.cell_ 2 (.slice none 0 0) rfl; have f0 := HR.out.frozen 0; have f1 := HR.out.frozen 1; have f2 := HR.out.frozen 2; clear hm hm3; go_wp2; have hq : Blk (((wr.setCell ⟨w.heap.size, 0, none⟩ (.int .i64 2)).setCell ⟨w.heap.size, 1, none⟩ (.slice A 3 c)).setCell ⟨w.heap.size, 2, none⟩ (.slice B os.length d)) w.heap.size 25 #[.int .i64 2, .slice A 3 c, .slice B os.length d] := ((HR.out.set_ 0 (.int .i64 2)).set_ 1 (.slice A 3 c)).set_ 2 (.slice B os.length d); have hk : Kept (fun g => g = w.heap.size) wr (((wr.setCell ⟨w.heap.size, 0, none⟩ (.int .i64 2)).setCell ⟨w.heap.size, 1, none⟩ (.slice A 3 c)).setCell ⟨w.heap.size, 2, none⟩ (.slice B os.length d)) := (((Kept.refl (fun g => g = w.heap.size) wr).setCell (p := ⟨w.heap.size, 0, none⟩) (Or.inl rfl) _).setCell (p := ⟨w.heap.size, 1, none⟩) (Or.inl rfl) _).setCell (p := ⟨w.heap.size, 2, none⟩) (Or.inl rfl) _; have hbe : Below w.heap.size w (((wr.setCell ⟨w.heap.size, 0, none⟩ (.int .i64 2)).setCell ⟨w.heap.size, 1, none⟩ (.slice A 3 c)).setCell ⟨w.heap.size, 2, none⟩ (.slice B os.length d)) := (((HB.out.setCell (p := ⟨w.heap.size, 0, none⟩) (Nat.le_refl _) _).setCell (p := ⟨w.heap.size, 1, none⟩) (Nat.le_refl _) _).setCell (p := ⟨w.heap.size, 2, none⟩) (Nat.le_refl _) _)
   refine bodyPost_ret (results_ct Tryd.results21 _ _ w.heap.size 25 #[.int .i64 2, .slice A 3 c, .slice B os.length d] (0, 0) _ rfl hq Tryd.underlying25 rfl Tryd.sizeTree) rfl ?_; have hon := HOWN.out.kept hk (fun g g1 g2 => by subst g2; have := (own_lt' HOWN.out.1 g1).2; have := HG.out; omega) (fun x hx g g1 g2 => by subst g2; have := (own_lt' (HOWN.out.2 x hx) g1).2; have := HG.out; omega); obtain ⟨B', d', e, hnd, -⟩ := hon.nds; injection e with e1 e2 e3
   subst e1; exact ⟨2, A, 3, c, B, os.length, d, rfl, ⟨A, c, B, d, os, rfl, HP.out.ext hbe, hnd, HNS.out⟩, hbe⟩
end Go.Proofs.YtlegfdllipkggaaDoor
