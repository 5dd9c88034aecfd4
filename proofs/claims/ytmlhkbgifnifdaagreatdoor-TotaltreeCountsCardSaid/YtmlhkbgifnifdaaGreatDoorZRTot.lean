/-
  cellularref14.Totals. No condition.
-/
import Derived.Test.YtmlhkbgifnifdaaGreatDoorZRTotP
import Derived.Test.YtmlhkbgifnifdaaGreatDoorZG22
import Derived.Test.YtmlhkbgifnifdaaGreatDoorZG16
import Derived.Test.YtmlhkbgifnifdaaGreatDoorZG21
namespace Go.Proofs.YtmlhkbgifnifdaaGreatDoor
open Go.RowKit Go.Maps
set_option maxRecDepth 100000
set_option linter.unusedVariables false
set_option linter.unusedSimpArgs false

theorem Nds.take {w : World} {A : Option Addr} {hs : List Hd} (h : Nds w A hs) (m : Nat) : Nds w A (hs.take m) := by
  obtain ⟨h1, h2, h3⟩ := h
  refine ⟨⟨by rw [hd_len], fun hn => ?_⟩, by rw [List.length_take]; omega, fun x hx => h3 x (List.mem_of_mem_take hx)⟩
  have hn2 : 0 < hs.length := by rw [List.length_take] at hn; omega
  obtain ⟨ad, e, hb, hc⟩ := h1.2 hn2
  refine ⟨ad, e, hb, fun j v hv => hc j v ?_⟩
  have e : hs.flatMap Hd.cells = (hs.take m).flatMap Hd.cells ++ (hs.drop m).flatMap Hd.cells := by rw [← List.flatMap_append, List.take_append_drop]
  rw [e, List.getElem?_append_left (List.getElem?_eq_some_iff.1 hv).1]
  exact hv
theorem dec_lt {a b : Nat} (h : a < b) : decide ((a : Int) < (b : Int)) = true := decide_eq_true (by omega)
theorem dec_le {a b : Nat} (h : a ≤ b) : decide ((a : Int) ≤ (b : Int)) = true := decide_eq_true (by omega)
theorem dec_nle {a b : Nat} (h : ¬ a ≤ b) : decide ((a : Int) ≤ (b : Int)) = false := decide_eq_false (by omega)
theorem beq_t {a b : Nat} (h : a = b) : ((a : Int) == (b : Int)) = true := beq_iff_eq.2 (by omega)
theorem beq_f {a b : Nat} (h : ¬ a = b) : ((a : Int) == (b : Int)) = false := beq_false_of_ne (by omega)
theorem beq_1t {a : Nat} (h : a = 1) : ((a : Int) == 1) = true := beq_iff_eq.2 (by omega)
theorem beq_1f {a : Nat} (h : ¬ a = 1) : ((a : Int) == 1) = false := beq_false_of_ne (by omega)
theorem wrap_1 {a b : Nat} (h : a ≤ b) (hb : b ≤ 100) : wrap64 ((a : Int) + 1) = (a : Int) + 1 := by unfold wrap64; omega
theorem wrap_m {a q m : Nat} (hm : m = a * q) (h : m ≤ 100) : wrap64 ((a : Int) * (q : Int)) = (m : Int) := by
  rw [← Int.natCast_mul, ← hm]
  unfold wrap64
  omega
theorem wrap_s {m s r : Nat} (hr : r = m + s) (h : r ≤ 1000) : wrap64 ((m : Int) + (s : Int)) = (r : Int) := by
  rw [hr]
  unfold wrap64
  omega
theorem wrap_c {a b : Nat} (h : b = a + 1) (hb : b ≤ 100) : wrap64 ((a : Int) + 1) = (b : Int) := by rw [h]; unfold wrap64; omega
theorem mul_88 {c i q : Nat} (hc : c ≤ i) (hi : i < 9) (hq : q ≤ 8) : c * q ≤ 64 ∧ (c + 1) * q ≤ 72 :=
  ⟨Nat.mul_le_mul (show c ≤ 8 by omega) hq, Nat.mul_le_mul (show c + 1 ≤ 9 by omega) hq⟩
theorem idx29 {q cc i c s v ix : Nat} (hq : q ≤ 8) (hc : c ≤ i) (hi : i < 9) (hv : v < q) (e1 : i = cc) (hix : ix = ixB q cc i c s v) : ∃ m : Nat, wrap64 ((c : Int) * (q : Int)) = (m : Int) ∧ wrap64 ((m : Int) + (v : Int)) = (ix : Int) := by
  obtain ⟨h1, h2⟩ := mul_88 hc hi hq
  unfold ixB at hix
  rw [if_pos e1] at hix
  exact ⟨c * q, wrap_m rfl (by omega), wrap_s hix (by omega)⟩
theorem idx31 {q cc i c s v ix : Nat} (hq : q ≤ 8) (hc : c ≤ i) (hi : i < 9) (hs : s < q) (e1 : ¬ i = cc) (e2 : v = 1) (hix : ix = ixB q cc i c s v) : ∃ c2 m : Nat, wrap64 ((c : Int) + 1) = (c2 : Int) ∧ wrap64 ((c2 : Int) * (q : Int)) = (m : Int) ∧ wrap64 ((m : Int) + (s : Int)) = (ix : Int) := by
  obtain ⟨h1, h2⟩ := mul_88 hc hi hq
  unfold ixB at hix
  rw [if_neg e1, if_pos e2] at hix
  exact ⟨c + 1, (c + 1) * q, wrap_c rfl (by omega), wrap_m rfl (by omega), wrap_s hix (by omega)⟩
theorem idx27 {q cc i c s v ix : Nat} (hq : q ≤ 8) (hc : c ≤ i) (hi : i < 9) (hs : s < q) (e1 : ¬ i = cc) (e2 : ¬ v = 1) (hix : ix = ixB q cc i c s v) : ∃ m : Nat, wrap64 ((c : Int) * (q : Int)) = (m : Int) ∧ wrap64 ((m : Int) + (s : Int)) = (ix : Int) := by
  obtain ⟨h1, h2⟩ := mul_88 hc hi hq
  unfold ixB at hix
  rw [if_neg e1, if_neg e2] at hix
  exact ⟨c * q, wrap_m rfl (by omega), wrap_s hix (by omega)⟩
theorem take_small {l acc : List Int} {v q : Nat} (h : acc = l.take v) (hv : v < q) (hq : q ≤ 8) : acc.length < 1000000000000 := by
  rw [h, List.length_take]
  omega
theorem n_small {a b s q : Nat} (h1 : a ≤ 648) (h2 : b ≤ 64) (h3 : s < q) (h4 : q ≤ 8) : a + (b + s) ≤ 800 := by omega
theorem k_small {b s q : Nat} (h2 : b ≤ 64) (h3 : s < q) (h4 : q ≤ 8) : b + s ≤ 800 := by omega
theorem small_lt {a : Nat} (h : a ≤ 800) : a < 1000000000000 := by omega
theorem small_9 {a : Nat} (h : a < 1000000000000) : a ≤ 9223372036854775807 := by omega
theorem root_take {n q cc : Nat} {g : Nat → Nat → Int} (hn : 1 ≤ n) (hq : 0 < q) : (levT n q cc g n).1.take ((levT n q cc g (n - 1)).1.length + 1) = rootT n q cc g ∧ (levT n q cc g n).2.getD 0 0 = (((levT n q cc g (n - 1)).1.length : Nat) : Int) ∧ 0 < (levT n q cc g n).2.length ∧ (levT n q cc g (n - 1)).1.length + 1 ≤ (levT n q cc g n).1.length := by
  obtain ⟨t, rfl⟩ : ∃ t, n = t + 1 := ⟨n - 1, by omega⟩
  obtain ⟨r, rfl⟩ : ∃ r, q = r + 1 := ⟨q - 1, by omega⟩
  have e1 : levT (t + 1) (r + 1) cc g (t + 1) = (lvNd (r + 1) cc (levT (t + 1) (r + 1) cc g t).1 (levT (t + 1) (r + 1) cc g t).2 t 0 (r + 1), lvKs (levT (t + 1) (r + 1) cc g t).1 (r + 1)) := by
    rw [levT]
    rw [show t + 1 - 1 - t = 0 by omega, show (t + 1 - t) * (r + 1) = r + 1 by rw [show t + 1 - t = 1 by omega, Nat.one_mul]]
  rw [e1, show t + 1 - 1 = t from rfl]
  dsimp only
  refine ⟨?_, ?_, ?_, ?_⟩
  · unfold lvNd rootT
    rw [show t + 1 - 1 = t from rfl, List.take_length_add_append, List.range_succ_eq_map, List.map_cons, List.take_succ_cons, List.take_zero, Nat.zero_div, Nat.zero_mod]
  · unfold lvKs
    rw [getD_range _ (by omega)]
    rfl
  · rw [lvKs_len]; omega
  · rw [lvNd_len]; omega
theorem lev_small {n q cc : Nat} {g : Nat → Nat → Int} (hn : n ≤ 9) (hq : q ≤ 8) (h1 : 1 ≤ n) : (levT n q cc g (n - 1)).1.length ≤ 648 :=
  Nat.le_trans (levT_size hn hq (n - 1) (by omega)) (by omega)
theorem own_cap {w : World} {base : Nat} {e : TypeId} {size n : Nat} {v : Value} {xs : List Value} (h : w.ownsRow base e size v n xs) (hn : 0 < n) : ∃ g cap, v = .slice (some ⟨g, 0, none⟩) n cap ∧ n ≤ cap := by
  rcases h.2 with ⟨rfl, rfl⟩ | ⟨g, cap, cur, rfl, h2⟩
  · exact absurd hn (by omega)
  · exact ⟨g, cap, rfl, h2.2.2.1⟩
theorem wrap_m1 {m : Nat} (h : m ≤ 648) : wrap64 ((m : Int) + 1) = (m : Int) + 1 := by unfold wrap64; omega
theorem toNat_m1 (m : Nat) : ((m : Int) + 1).toNat = m + 1 := by omega
structure Rt3J (W : World) (pv : Value) (sv : Value) (n : Nat) (cc : Nat) (b0 b1 b2 b3 b4 b5 b6 b7 b8 : Bool) (v20 v21 v22 v23 v24 v25 v26 v4 v5 : Value) (w : World) : Prop where
  h0 : b0 = true → v20 = pv
  h1 : b1 = true → v21 = sv
  h2 : b2 = true → v22 = .int .i64 (n : Int)
  h3 : b3 = true → v23 = pv
  h4 : b4 = true → v24 = sv
  h5 : b5 = true → v25 = .agg #[.int .i64 0, .int .i64 0]
  h6 : b6 = true → v26 = .int .i64 (cc : Int)
  h7 : b7 = true → v4 = .int .i64 (n : Int)
  h8 : b8 = true → v5 = .int .i64 (cc : Int)
  below : Below W.heap.size W w
section
variable {W : World} {pv : Value} {sv : Value} {n : Nat} {cc : Nat} {b0 b1 b2 b3 b4 b5 b6 b7 b8 : Bool} {v20 v21 v22 v23 v24 v25 v26 v4 v5 : Value} {w w' : World}
theorem Rt3J.world (H : Rt3J W pv sv n cc b0 b1 b2 b3 b4 b5 b6 b7 b8 v20 v21 v22 v23 v24 v25 v26 v4 v5 w) (hb : Below w.heap.size w w') : Rt3J W pv sv n cc b0 b1 b2 b3 b4 b5 b6 b7 b8 v20 v21 v22 v23 v24 v25 v26 v4 v5 w' :=
  ⟨H.h0, H.h1, H.h2, H.h3, H.h4, H.h5, H.h6, H.h7, H.h8, H.below.trans (hb.mono H.below.size)⟩
end
structure Rt35J (V : World) (p : Nat) (gN : Nat) (ol : Nat) (nc : Nat) (lv0 : Value) (lb : Nat) (lo : Nat) (m : Nat) (b0 b1 b2 b3 b4 b5 b6 b7 b8 : Bool) (v140 v141 v142 v143 v144 v145 v146 v147 : Value) (w : World) : Prop where
  h0 : b0 = true → v140 = .pointer (some ⟨p, 2, none⟩)
  h1 : b1 = true → v141 = .slice (some ⟨gN, 0, none⟩) ol nc
  h2 : b2 = true → v142 = lv0
  h3 : b3 = true → v143 = .pointer (some ⟨lb, lo, none⟩)
  h4 : b4 = true → v144 = .int .i64 (m : Int)
  h5 : b5 = true → v145 = .int .i64 ((m : Int) + 1)
  h6 : b6 = true → v146 = .slice (some ⟨gN, 0, none⟩) (m + 1) nc
  h7 : b7 = true → v147 = .pointer (some ⟨p, 2, none⟩)
  hk : b8 = false → ∀ p : Addr, w.cell? p = V.cell? p
  wa : b8 = false → w = V.drew
  wd : b8 = true → w = V.drew.setCell ⟨p, 2, none⟩ (.slice (some ⟨gN, 0, none⟩) (m + 1) nc)
  ord8 : b8 = true → b0 = true ∧ b1 = true ∧ b2 = true ∧ b3 = true ∧ b4 = true ∧ b5 = true ∧ b6 = true ∧ b7 = true
structure Rt29J (V : World) (W0 : World) (gX : Nat) (lv : Int) (acc : List Int) (xv : Value) (z : Int) (lv0 : Value) (cN : Nat) (q : Nat) (m : Nat) (oN : Nat) (ix : Nat) (lb : Nat) (lo : Nat) (px : Nat) (b0 b1 b2 b3 b4 b5 b6 b7 b8 b9 b10 b11 b12 b13 b14 : Bool) (v95 v96 v97 v98 v99 v100 v101 v102 v103 v104 v105 v106 v107 v108 : Value) (w : World) : Prop where
  h0 : b0 = true → v95 = .pointer (some ⟨gX, 1, none⟩)
  h1 : b1 = true → v96 = xv
  h2 : b2 = true → v97 = lv0
  h3 : b3 = true → v98 = .int .i64 (cN : Int)
  h4 : b4 = true → v99 = .pointer (some ⟨px, 1, none⟩)
  h5 : b5 = true → v100 = .int .i64 (q : Int)
  h6 : b6 = true → v101 = .int .i64 (m : Int)
  h7 : b7 = true → v102 = .int .i64 (oN : Int)
  h8 : b8 = true → v103 = .int .i64 (ix : Int)
  h9 : b9 = true → v104 = .pointer (some ⟨lb, lo + ix, none⟩)
  h10 : b10 = true → v105 = .int .i64 z
  h13 : b13 = true → v108 = .pointer (some ⟨gX, 1, none⟩)
  hk : b12 = false → ∀ p : Addr, p.block < V.heap.size → w.cell? p = V.cell? p
  wa : b11 = false → w = V.drew
  wb : b11 = true → b12 = false → v106 = .slice (some ⟨V.heap.size, 0, none⟩) 1 1 ∧ w = V.drew.alloc (.cells #[.int .i64 z] 3)
  wc : b12 = true → b14 = false → ∃ X c, v107 = .slice X (acc.length + 1) c ∧ OwnIA w W0.heap.size (.slice X (acc.length + 1) c) (acc ++ [z]) ∧ Kept (fun g => xv.ownBlock = some g) V w
  wd : b14 = true → ∃ xv2, NxL gX W0 lv (acc ++ [z]) xv2 w
  ord2 : b14 = true → b12 = true ∧ b13 = true
  o1 : b1 = true → b0 = true
  o5 : b5 = true → b4 = true
  o6 : b6 = true → b3 = true ∧ b5 = true
  o8 : b8 = true → b6 = true ∧ b7 = true
  o9 : b9 = true → b2 = true ∧ b8 = true
  o10 : b10 = true → b9 = true
  o11 : b11 = true → b10 = true
  o12 : b12 = true → b1 = true ∧ b11 = true
structure Rt31J (V : World) (W0 : World) (gX : Nat) (lv : Int) (acc : List Int) (xv : Value) (z : Int) (lv0 : Value) (cN : Nat) (q : Nat) (m : Nat) (oN : Nat) (ix : Nat) (lb : Nat) (lo : Nat) (px : Nat) (c2 : Nat) (b0 b1 b2 b3 b4 b5 b6 b7 b8 b9 b10 b11 b12 b13 b14 b15 : Bool) (v112 v113 v114 v115 v116 v117 v118 v119 v120 v121 v122 v123 v124 v125 v126 : Value) (w : World) : Prop where
  h0 : b0 = true → v112 = .pointer (some ⟨gX, 1, none⟩)
  h1 : b1 = true → v113 = xv
  h2 : b2 = true → v114 = lv0
  h3 : b3 = true → v115 = .int .i64 (cN : Int)
  h4 : b4 = true → v116 = .int .i64 (c2 : Int)
  h5 : b5 = true → v117 = .pointer (some ⟨px, 1, none⟩)
  h6 : b6 = true → v118 = .int .i64 (q : Int)
  h7 : b7 = true → v119 = .int .i64 (m : Int)
  h8 : b8 = true → v120 = .int .i64 (oN : Int)
  h9 : b9 = true → v121 = .int .i64 (ix : Int)
  h10 : b10 = true → v122 = .pointer (some ⟨lb, lo + ix, none⟩)
  h11 : b11 = true → v123 = .int .i64 z
  h14 : b14 = true → v126 = .pointer (some ⟨gX, 1, none⟩)
  hk : b13 = false → ∀ p : Addr, p.block < V.heap.size → w.cell? p = V.cell? p
  wa : b12 = false → w = V.drew
  wb : b12 = true → b13 = false → v124 = .slice (some ⟨V.heap.size, 0, none⟩) 1 1 ∧ w = V.drew.alloc (.cells #[.int .i64 z] 3)
  wc : b13 = true → b15 = false → ∃ X c, v125 = .slice X (acc.length + 1) c ∧ OwnIA w W0.heap.size (.slice X (acc.length + 1) c) (acc ++ [z]) ∧ Kept (fun g => xv.ownBlock = some g) V w
  wd : b15 = true → ∃ xv2, NxL gX W0 lv (acc ++ [z]) xv2 w
  ord2 : b15 = true → b13 = true ∧ b14 = true
  o1 : b1 = true → b0 = true
  o4 : b4 = true → b3 = true
  o6 : b6 = true → b5 = true
  o7 : b7 = true → b4 = true ∧ b6 = true
  o9 : b9 = true → b7 = true ∧ b8 = true
  o10 : b10 = true → b2 = true ∧ b9 = true
  o11 : b11 = true → b10 = true
  o12 : b12 = true → b11 = true
  o13 : b13 = true → b1 = true ∧ b12 = true
structure Rt27J (V : World) (W0 : World) (gX : Nat) (lv : Int) (acc : List Int) (xv : Value) (z : Int) (lv0 : Value) (cN : Nat) (q : Nat) (m : Nat) (oN : Nat) (ix : Nat) (lb : Nat) (lo : Nat) (px : Nat) (b0 b1 b2 b3 b4 b5 b6 b7 b8 b9 b10 b11 b12 b13 b14 : Bool) (v77 v78 v79 v80 v81 v82 v83 v84 v85 v86 v87 v88 v89 v90 : Value) (w : World) : Prop where
  h0 : b0 = true → v77 = .pointer (some ⟨gX, 1, none⟩)
  h1 : b1 = true → v78 = xv
  h2 : b2 = true → v79 = lv0
  h3 : b3 = true → v80 = .int .i64 (cN : Int)
  h4 : b4 = true → v81 = .pointer (some ⟨px, 1, none⟩)
  h5 : b5 = true → v82 = .int .i64 (q : Int)
  h6 : b6 = true → v83 = .int .i64 (m : Int)
  h7 : b7 = true → v84 = .int .i64 (oN : Int)
  h8 : b8 = true → v85 = .int .i64 (ix : Int)
  h9 : b9 = true → v86 = .pointer (some ⟨lb, lo + ix, none⟩)
  h10 : b10 = true → v87 = .int .i64 z
  h13 : b13 = true → v90 = .pointer (some ⟨gX, 1, none⟩)
  hk : b12 = false → ∀ p : Addr, p.block < V.heap.size → w.cell? p = V.cell? p
  wa : b11 = false → w = V.drew
  wb : b11 = true → b12 = false → v88 = .slice (some ⟨V.heap.size, 0, none⟩) 1 1 ∧ w = V.drew.alloc (.cells #[.int .i64 z] 3)
  wc : b12 = true → b14 = false → ∃ X c, v89 = .slice X (acc.length + 1) c ∧ OwnIA w W0.heap.size (.slice X (acc.length + 1) c) (acc ++ [z]) ∧ Kept (fun g => xv.ownBlock = some g) V w
  wd : b14 = true → ∃ xv2, NxL gX W0 lv (acc ++ [z]) xv2 w
  ord2 : b14 = true → b12 = true ∧ b13 = true
  o1 : b1 = true → b0 = true
  o5 : b5 = true → b4 = true
  o6 : b6 = true → b3 = true ∧ b5 = true
  o8 : b8 = true → b6 = true ∧ b7 = true
  o9 : b9 = true → b2 = true ∧ b8 = true
  o10 : b10 = true → b9 = true
  o11 : b11 = true → b10 = true
  o12 : b12 = true → b1 = true ∧ b11 = true

set_option maxHeartbeats 64000000 in
theorem rtotals_any (A B C : Option Addr) (a b c : Nat) (x : TotL) (w : World) (ht : TotR w A B C x) :
    Calls Tryz.prog 14 #[totV A a B b C c x] w (RetAE (totT x) w) := by
  obtain ⟨w0, hw0⟩ : ∃ w0, w0 = (w.alloc (.cells (totCells A a B b C c x) 30)).alloc (.cells #[.int .i64 0, .slice none 0 0, .slice none 0 0] 25) := ⟨_, rfl⟩
  have hb1 := below_new w (.cells (totCells A a B b C c x) 30)
  have hb0 : Below w.heap.size w w0 := by rw [hw0]; exact hb1.alloc hb1.size _
  have p0 : Blk w0 w.heap.size 30 (totCells A a B b C c x) := by rw [hw0]; exact (Blk.new w _ _).alloc _
  have q0 : Blk w0 (w.heap.size + 1) 25 #[.int .i64 0, .slice none 0 0, .slice none 0 0] := by rw [hw0]; exact blk_two _ _ _ _
  have HR := Lib.hid (tright_any A B C a b c x w0 (ht.ext hb0))
  have HT0 := Lib.hid (ht.ext hb0)
  have HTW := Lib.hid ht
  have HB0 := Lib.hid hb0
  have HP0 := Lib.hid p0
  have HQ0 := Lib.hid q0
  unfold totCells at hw0
  have HW0 := Lib.hid hw0
  have c0 := p0.cell_ 0 (.slice A x.hood.length a) rfl
  have c1 := p0.cell_ 1 (.int .i64 x.states) rfl
  have c2 := p0.cell_ 2 (.slice B x.birth.length b) rfl
  have c3 := p0.cell_ 3 (.slice C x.survive.length c) rfl
  unfold totV at HR ⊢
  clear hb1 hb0 p0 q0 hw0 ht
  cases hr : rightT x with
  | false =>
    have HE : Hid (totT x = (PT.zero, 2)) := Lib.hid (by unfold totT; rw [hr]; rfl)
    rw [hr] at HR
    clear hr
    go_enter Tryz.func14, Tryz.ntmps14
    go_upto_region 1 with fail
    rw [← HW0.out]
    go_wp2_with (go_at_call 40; refine HR.out.mono ?_; rintro e w1 ⟨rfl, hb⟩; refine Hid.out ?_)
    refine Lib.hid ?_
    have q1 := HQ0.out.below hb HQ0.out.lt
    have HQ1 := Lib.hid q1
    have d0 := q1.cell_ 0 (.int .i64 0) rfl
    have d1 := q1.cell_ 1 (.slice none 0 0) rfl
    have d2 := q1.cell_ 2 (.slice none 0 0) rfl
    have f0 := q1.frozen 0
    have f1 := q1.frozen 1
    have f2 := q1.frozen 2
    have HB := Lib.hid (HB0.out.trans (hb.mono HB0.out.size))
    clear q1 hb c0 c1 c2 c3
    go_wp2
    have hq : Blk (((w1.setCell ⟨w.heap.size + 1, 0, none⟩ (.int .i64 0)).setCell ⟨w.heap.size + 1, 1, none⟩ (.slice none 0 0)).setCell ⟨w.heap.size + 1, 2, none⟩ (.slice none 0 0)) (w.heap.size + 1) 25 #[.int .i64 0, .slice none 0 0, .slice none 0 0] := ((HQ1.out.set_ 0 (.int .i64 0)).set_ 1 (.slice none 0 0)).set_ 2 (.slice none 0 0)
    rw [HE.out]
    exact bodyPost_ret (results_ct Tryz.results14 _ _ (w.heap.size + 1) 25 #[.int .i64 0, .slice none 0 0, .slice none 0 0] (0, 0) _ rfl hq Tryz.underlying25 rfl Tryz.sizeTree) rfl
      ⟨0, none, 0, 0, none, 0, 0, rfl, ⟨none, 0, none, 0, [], rfl, Pts.nil, Nds.nil, rfl⟩, ((HB.out.setCell (p := ⟨w.heap.size + 1, 0, none⟩) (by simp) _).setCell (p := ⟨w.heap.size + 1, 1, none⟩) (by simp) _).setCell (p := ⟨w.heap.size + 1, 2, none⟩) (by simp) _⟩
  | true =>
    obtain ⟨hk1, hk2, hk3⟩ := rightT_parts hr
    obtain ⟨hl1, hl9⟩ := known_len hk1
    obtain ⟨cc, hcc, hcl, hci⟩ := known_ctr hk1
    rw [hr] at HR
    obtain ⟨n, hn⟩ : ∃ n, n = x.hood.length := ⟨_, rfl⟩
    obtain ⟨q, hq⟩ : ∃ q : Nat, x.states = (q : Int) := ⟨x.states.toNat, by omega⟩
    have hqn : x.states.toNat = q := by rw [hq]; exact Int.toNat_natCast q
    have hred := rtot_red hr hcc
    rw [← hn, hqn, hq] at hred
    have h20 : (totT x).2 = 0 := by unfold totT; rw [if_pos hr]
    have htn : x.hood ≠ [] := fun e => by rw [e] at hl1; exact absurd hl1 (by simp)
    have HRED := Lib.hid (And.intro hred (And.intro h20 htn))
    have HPS : Hid ((totT x).1.ps = x.hood) := Lib.hid (by rw [totT_eq hr])
    have HQN := Lib.hid (And.intro hq hn)
    have HCI := Lib.hid hci
    have HK : Hid (2 ≤ q ∧ q ≤ 8 ∧ 1 ≤ n ∧ n ≤ 9 ∧ cc < n) := Lib.hid (by omega)
    have HG := Lib.hid (fun (c' s : Nat) (W : World) (hW : Below w0.heap.size w0 W) (hs : s < q) => rnext_any x A B C a b c (c' : Int) (s : Int) W (HT0.out.ext hW) (by omega) (by omega) hk2)
    unfold totV at HG
    rw [hq, ← hn] at HG HR ⊢
    rw [hq] at c1
    rw [hq, ← hn] at HW0
    rw [← hn] at c0
    unfold totCells at HP0
    rw [hq, ← hn] at HP0
    have hn9 : n ≤ 9223372036854775807 := by omega
    clear hr hk1 hk2 hk3 hl1 hl9 hcc hcl hci hqn hred h20 htn hq hn
    go_enter Tryz.func14, Tryz.ntmps14
    go_upto_region 1 with fail
    rw [← HW0.out]
    go_wp2_with (go_at_call 40; refine HR.out.mono ?_; rintro e w1 ⟨rfl, hb⟩; refine Hid.out ?_)
    refine Lib.hid ?_
    have HB1 := Lib.hid hb
    clear hb c0 c1 c2 c3 HR
    go_upto_region 3 with fail
    refine wp_region_J (by kernel_rfl) (fun listed act w' => ∃ b0 b1 b2 b3 b4 b5 b6 b7 b8 v20 v21 v22 v23 v24 v25 v26 v4 v5, listed = #[b0, b1, b2, b3, b4, b5, b6, b7, b8] ∧ act = Act.mk #[.agg #[.slice A n a, .int .i64 ↑q, .slice B x.birth.length b, .slice C x.survive.length c], .pointer (some ⟨w.heap.size, 0, none⟩), .pointer (some ⟨w.heap.size + 1, 0, none⟩), .int .i64 0, v4, v5, undef, undef, undef, undef, undef, undef, undef, undef, undef, undef, .agg #[.slice A n a, .int .i64 ↑q, .slice B x.birth.length b, .slice C x.survive.length c], .bool true, .bool false, undef, v20, v21, v22, v23, v24, v25, v26, undef, undef, undef, undef, undef, undef, undef, undef, undef, undef, undef, undef, undef, undef, undef, undef, undef, undef, undef, undef, undef, undef, undef, undef, undef, undef, undef, undef, undef, undef, undef, undef, undef, undef, undef, undef, undef, undef, undef, undef, undef, undef, undef, undef, undef, undef, undef, undef, undef, undef, undef, undef, undef, undef, undef, undef, undef, undef, undef, undef, undef, undef, undef, undef, undef, undef, undef, undef, undef, undef, undef, undef, undef, undef, undef, undef, undef, undef, undef, undef, undef, undef, undef, undef, undef, undef, undef, undef, undef, undef, undef, undef, undef, undef, undef, undef, undef, undef, undef, undef, undef, undef, undef, undef, undef, undef, undef, undef, undef, undef, undef, undef, undef, undef, undef, undef, undef, undef, undef, undef, undef, undef, undef] [] ∧ Rt3J w1 (.pointer (some ⟨w.heap.size, 0, none⟩)) (.slice A n a) n cc b0 b1 b2 b3 b4 b5 b6 b7 b8 v20 v21 v22 v23 v24 v25 v26 v4 v5 w') ?_ ?_ ?_
    · exact ⟨_, _, _, _, _, _, _, _, _, _, _, _, _, _, _, _, _, _, rfl, rfl, ⟨(by simp), (by simp), (by simp), (by simp), (by simp), (by simp), (by simp), (by simp), (by simp), (Below.refl _ w1).drew⟩⟩
    · rintro i listed act w' hi ⟨b0, b1, b2, b3, b4, b5, b6, b7, b8, v20, v21, v22, v23, v24, v25, v26, v4, v5, rfl, rfl, H⟩
      have hi16 : i < 9 := by
        obtain ⟨-, o, ho, -⟩ := mem_ready.1 hi
        exact (Array.getElem?_eq_some_iff.1 ho).1
      obtain rfl | rfl | rfl | rfl | rfl | rfl | rfl | rfl | rfl : i = 0 ∨ i = 1 ∨ i = 2 ∨ i = 3 ∨ i = 4 ∨ i = 5 ∨ i = 6 ∨ i = 7 ∨ i = 8 := by omega
      all_goals simp [mem_ready, Region.binds] at hi
      · refine wpOp_hidden rfl fun K hK => ?_
        go_wp2
        refine OnlyN.mk (hK.out _ _ ⟨true, _, _, _, _, _, _, _, _, .pointer (some ⟨w.heap.size, 0, none⟩), _, _, _, _, _, _, _, _, rfl, rfl, ⟨fun _ => rfl, H.h1, H.h2, H.h3, H.h4, H.h5, H.h6, H.h7, H.h8, H.below⟩⟩)
      · have g0 := (HP0.out.below (HB1.out.trans (H.below.mono HB1.out.size)) HP0.out.lt).cell_ 0 (.slice A n a) rfl
        obtain rfl := H.h0 (by simp [hi])
        refine wpOp_hidden rfl fun K hK => ?_
        go_wp2
        refine OnlyN.mk (hK.out _ _ ⟨_, true, _, _, _, _, _, _, _, _, .slice A n a, _, _, _, _, _, _, _, rfl, rfl, ⟨H.h0, fun _ => rfl, H.h2, H.h3, H.h4, H.h5, H.h6, H.h7, H.h8, H.below⟩⟩)
      · obtain rfl := H.h1 (by simp [hi])
        refine wpOp_hidden rfl fun K hK => ?_
        go_wp2
        refine OnlyN.mk (hK.out _ _ ⟨_, _, true, _, _, _, _, _, _, _, _, .int .i64 (n : Int), _, _, _, _, _, _, rfl, rfl, ⟨H.h0, H.h1, fun _ => rfl, H.h3, H.h4, H.h5, H.h6, H.h7, H.h8, H.below⟩⟩)
      · refine wpOp_hidden rfl fun K hK => ?_
        go_wp2
        refine OnlyN.mk (hK.out _ _ ⟨_, _, _, true, _, _, _, _, _, _, _, _, .pointer (some ⟨w.heap.size, 0, none⟩), _, _, _, _, _, rfl, rfl, ⟨H.h0, H.h1, H.h2, fun _ => rfl, H.h4, H.h5, H.h6, H.h7, H.h8, H.below⟩⟩)
      · have g0 := (HP0.out.below (HB1.out.trans (H.below.mono HB1.out.size)) HP0.out.lt).cell_ 0 (.slice A n a) rfl
        obtain rfl := H.h3 (by simp [hi])
        refine wpOp_hidden rfl fun K hK => ?_
        go_wp2
        refine OnlyN.mk (hK.out _ _ ⟨_, _, _, _, true, _, _, _, _, _, _, _, _, .slice A n a, _, _, _, _, rfl, rfl, ⟨H.h0, H.h1, H.h2, H.h3, fun _ => rfl, H.h5, H.h6, H.h7, H.h8, H.below⟩⟩)
      · refine wpOp_hidden rfl fun K hK => ?_
        go_wp2
        refine OnlyN.mk (hK.out _ _ ⟨_, _, _, _, _, true, _, _, _, _, _, _, _, _, .agg #[.int .i64 0, .int .i64 0], _, _, _, rfl, rfl, ⟨H.h0, H.h1, H.h2, H.h3, H.h4, fun _ => rfl, H.h6, H.h7, H.h8, H.below⟩⟩)
      · obtain rfl := H.h4 (by simp [hi])
        obtain rfl := H.h5 (by simp [hi])
        have HB0 := Lib.hid (H.below)
        have hcall := ridx_any A x.hood a 0 0 w' (HT0.out.ext (HB1.out.trans (HB0.out.mono HB1.out.size))).hood
        rw [HCI.out, ← HQN.out.2] at hcall
        have HCALL := Lib.hid hcall
        clear hcall
        refine wpOp_hidden rfl fun K hK => ?_
        go_wp2_with (go_at_call 41; refine HCALL.out.mono ?_; intro e w9 hx; obtain ⟨rfl, hb9⟩ := hx; refine Hid.out ?_)
        refine Lib.hid ?_
        have HB9 := Lib.hid hb9
        clear hb9 HCALL
        go_wp2
        refine OnlyN.mk (hK.out _ _ ⟨_, _, _, _, _, _, true, _, _, _, _, _, _, _, _, .int .i64 (cc : Int), _, _, rfl, rfl, ⟨(H.world HB9.out).h0, (H.world HB9.out).h1, (H.world HB9.out).h2, (H.world HB9.out).h3, (H.world HB9.out).h4, (H.world HB9.out).h5, fun _ => rfl, (H.world HB9.out).h7, (H.world HB9.out).h8, (H.world HB9.out).below⟩⟩)
      · obtain rfl := H.h2 (by simp [hi])
        refine wpOp_hidden rfl fun K hK => ?_
        go_wp2
        refine OnlyN.mk (hK.out _ _ ⟨_, _, _, _, _, _, _, true, _, _, _, _, _, _, _, _, .int .i64 (n : Int), _, rfl, rfl, ⟨H.h0, H.h1, H.h2, H.h3, H.h4, H.h5, H.h6, fun _ => rfl, H.h8, H.below⟩⟩)
      · obtain rfl := H.h6 (by simp [hi])
        refine wpOp_hidden rfl fun K hK => ?_
        go_wp2
        refine OnlyN.mk (hK.out _ _ ⟨_, _, _, _, _, _, _, _, true, _, _, _, _, _, _, _, _, .int .i64 (cc : Int), rfl, rfl, ⟨H.h0, H.h1, H.h2, H.h3, H.h4, H.h5, H.h6, H.h7, fun _ => rfl, H.below⟩⟩)
    · rintro listed act w' hr ⟨b0, b1, b2, b3, b4, b5, b6, b7, b8, v20, v21, v22, v23, v24, v25, v26, v4, v5, rfl, rfl, H⟩
      have hn := List.eq_nil_iff_forall_not_mem.1 hr
      have r0 := hn 0
      simp [mem_ready, Region.binds] at r0
      subst r0
      have r1 := hn 1
      simp [mem_ready, Region.binds] at r1
      subst r1
      have r2 := hn 2
      simp [mem_ready, Region.binds] at r2
      subst r2
      have r3 := hn 3
      simp [mem_ready, Region.binds] at r3
      subst r3
      have r4 := hn 4
      simp [mem_ready, Region.binds] at r4
      subst r4
      have r5 := hn 5
      simp [mem_ready, Region.binds] at r5
      subst r5
      have r6 := hn 6
      simp [mem_ready, Region.binds] at r6
      subst r6
      have r7 := hn 7
      simp [mem_ready, Region.binds] at r7
      subst r7
      have r8 := hn 8
      simp [mem_ready, Region.binds] at r8
      subst r8
      try dsimp only
      obtain rfl := H.h7 rfl
      obtain rfl := H.h8 rfl
      have HB2 := Lib.hid (HB1.out.trans (H.below.mono HB1.out.size))
      clear H hr hn HB1
      obtain ⟨v1, rfl⟩ : ∃ v1 : World, v1 = w' := ⟨_, rfl⟩
      have HX := Lib.hid (HP0.out.below HB2.out HP0.out.lt)
      have HQ1 := Lib.hid (HQ0.out.below HB2.out HQ0.out.lt)
      obtain ⟨w2, hw2⟩ : ∃ w2, w2 = v1.alloc (.cells #[.int .i64 (q : Int), .slice A n a, .slice none 0 0] 25) := ⟨_, rfl⟩
      obtain ⟨p, hp⟩ : ∃ p, p = v1.heap.size := ⟨_, rfl⟩
      have HBR : Hid (Below v1.heap.size v1 w2) := Lib.hid (by rw [hw2]; exact below_new _ _)
      have HRW : Hid (RW v1.heap.size p (.int .i64 (q : Int)) (.slice A n a) (.slice none 0 0) [] [] (.slice none 0 0) [] (.slice none 0 0) [] w2) := Lib.hid
        ⟨by rw [hw2, hp]; exact Blk.new _ _ _, OwnN.nil _ _ _ _, rfl, OwnI.nil _ _ _, OwnI.nil _ _ _, fun x hx => absurd hx (by simp), fun x hx => absurd hx (by simp), fun g e => by simp [Value.ownBlock] at e⟩
      have HP := Lib.hid hp
      have HW2 := Lib.hid hw2
      have c0 := HX.out.cell_ 0 (.slice A n a) rfl
      have c1 := HX.out.cell_ 1 (.int .i64 (q : Int)) rfl
      have HRB : Hid (RW v1.heap.size p (.int .i64 (q : Int)) (.slice A n a) (.slice none 0 0) [] [] (.slice none 0 0) [] (.slice none 0 0) (belN q (gT x) (0 * q)) w2) := Lib.hid (by
        rw [Nat.zero_mul]
        exact HRW.out)
      clear hw2 hp HRW
      go_upto_region 5 with fail
      rw [← HW2.out, ← HP.out]
      clear c0 c1 HW2
      go_wp2
      go_loopw [7, 8] (fun bv iv wr => ∃ (cB : Nat), cB ≤ n + 1 ∧ iv = .int .i64 cB ∧ Hid (RW v1.heap.size p (.int .i64 (q : Int)) (.slice A n a) (.slice none 0 0) [] [] (.slice none 0 0) [] bv (belN q (gT x) (cB * q)) wr) ∧ Hid (Below v1.heap.size v1 wr)) (fun _ iv _ => n + 1 - (intOf iv).toNat)
      case atStart => exact ⟨0, Nat.zero_le _, rfl, HRB, HBR⟩
      case round =>
        clear HRB HBR
        obtain ⟨cB, hcB, rfl, HR, HBR⟩ := hrel
        have hwc : wrap64 ((cB : Int) + 1) = (cB : Int) + 1 := by have := HK.out; unfold wrap64; omega
        by_cases hcl : cB ≤ n
        · have HCL := Lib.hid hcl
          have hdc : decide ((cB : Int) ≤ (n : Int)) = true := dec_le hcl
          obtain ⟨wo, rfl⟩ : ∃ wo : World, wo = wr := ⟨_, rfl⟩
          clear hcB hcl
          go_wp2
          try rw [show decide (cB ≤ n) = true from decide_eq_true HCL.out]
          go_loopw [7, 9] (fun bv iv wr => ∃ (sN : Nat), sN ≤ q ∧ iv = .int .i64 sN ∧ Hid (RW v1.heap.size p (.int .i64 (q : Int)) (.slice A n a) (.slice none 0 0) [] [] (.slice none 0 0) [] bv (belN q (gT x) (cB * q + sN)) wr) ∧ Hid (Below v1.heap.size v1 wr)) (fun _ iv _ => q - (intOf iv).toNat)
          case atStart => exact ⟨0, Nat.zero_le _, rfl, HR, HBR⟩
          case round =>
            clear HR HBR
            obtain ⟨sN, hsN, rfl, HR, HBR⟩ := hrel
            have hws : wrap64 ((sN : Int) + 1) = (sN : Int) + 1 := wrap_1 hsN (Nat.le_trans HK.out.2.1 (by decide))
            have HXW := Lib.hid (HX.out.below HBR.out HX.out.lt)
            have c1 := HXW.out.cell_ 1 (.int .i64 (q : Int)) rfl
            by_cases hsl : sN < q
            · have HSL := Lib.hid hsl
              have hds : decide ((sN : Int) < (q : Int)) = true := dec_lt hsl
              have c0 := HXW.out.cell_ 0 (.slice A n a) rfl
              have c2 := HXW.out.cell_ 2 (.slice B x.birth.length b) rfl
              have c3 := HXW.out.cell_ 3 (.slice C x.survive.length c) rfl
              have hcall := HG.out cB sN wr (HB2.out.trans (HBR.out.mono HB2.out.size)) hsl
              obtain ⟨z, hz⟩ : ∃ z, z = nextT x ((cB : Int), (sN : Int)) := ⟨_, rfl⟩
              rw [← hz] at hcall
              have HZ : Hid (z = gT x cB sN) := Lib.hid hz
              have HCALL := Lib.hid hcall
              clear hcall hz hsN hsl
              go_wp2_with (go_at_call 42; refine HCALL.out.mono ?_; rintro e w4 ⟨rfl, hb⟩; refine Hid.out ?_)
              refine Lib.hid ?_
              have HR4 := Lib.hid (HR.out.ext hb)
              have HB4 := Lib.hid (HBR.out.trans (hb.mono HBR.out.size))
              have hown := HR4.out.kr
              have hal : (belN q (gT x) (cB * q + sN)).length < 1000000000000 := by
                rw [belN_len]
                have h1 : cB * q ≤ 9 * 8 := Nat.mul_le_mul (by have := HCL.out; have := HK.out; omega) (by have := HK.out; omega)
                have := HSL.out
                have := HK.out
                omega
              have hws5 : v1.heap.size ≤ w4.heap.size := HB4.out.size
              clear c0 c1 c2 c3 hb HCALL
              go_wp2_with (at_builtin; refine wpList_pushIk rfl _ _ _ rfl v1.heap.size 3 Tryz.underlying28 Tryz.infoInt _ _ rfl hown _ rfl hal hws5 ?_)
              intro kv' w5 ho5 hk5 hn5
              have HR5 := Lib.hid (HR4.out.pushK ho5 hk5 hn5)
              have HB5 : Hid (Below v1.heap.size v1 w5) := Lib.hid (HB4.out.trans (hk5.to_below hws5 (fun g hg e => by have h1 := (own_lt' HR4.out.kr e).2; omega)))
              clear hown hal hws5 ho5 hk5 hn5 hds
              go_wp2
              go_roundw
              case rel => exact ⟨sN + 1, HSL.out, (by first | rfl | (rw [hws]; rfl)), Lib.hid (by
                have h := HR5.out
                rw [HZ.out] at h
                rw [show cB * q + (sN + 1) = cB * q + sN + 1 from rfl, belN_push HSL.out]
                exact h), HB5⟩
              case measure => (try rw [hws]); exact meas_step HSL.out
            · obtain rfl : q = sN := Nat.le_antisymm (Nat.le_of_not_lt hsl) hsN
              clear hsl hsN hws
              go_wp2
              go_roundw
              case rel => exact ⟨cB + 1, Nat.succ_le_succ HCL.out, (by first | rfl | (rw [hwc]; rfl)), Lib.hid (by rw [Nat.succ_mul]; exact HR.out), HBR⟩
              case measure => (try rw [hwc]); exact meas_step (Nat.lt_succ_of_le HCL.out)
        · have HCN : Hid (cB = n + 1) := Lib.hid (by omega)
          have hdc : decide ((cB : Int) ≤ (n : Int)) = false := dec_nle hcl
          have hdc2 : decide (cB ≤ n) = false := decide_eq_false hcl
          clear hcB hcl hwc
          have HRS : Hid (RW v1.heap.size p (.int .i64 (q : Int)) (.slice A n a) (.slice none 0 0) [] (levT n q cc (gT x) 0).1 u7 (levT n q cc (gT x) 0).2 (.slice none 0 0) [] wr) := Lib.hid (by
            have h := HR.out.swap
            rw [HCN.out] at h
            exact h)
          have hwn : wrap64 ((n : Int) - 1) = (n : Int) - 1 := by have := HK.out; unfold wrap64; omega
          clear HR
          go_wp2
          go_loopw [7, 10] (fun bv iv wr => ∃ (k : Nat) (nv : Value) (os : List Hd), k ≤ n ∧ iv = .int .i64 ((n : Int) - 1 - (k : Int)) ∧ Hid (RW v1.heap.size p (.int .i64 (q : Int)) (.slice A n a) nv os (levT n q cc (gT x) k).1 bv (levT n q cc (gT x) k).2 (.slice none 0 0) [] wr) ∧ Hid (Below v1.heap.size v1 wr)) (fun _ iv _ => (intOf iv + 1).toNat)
          case atStart => exact ⟨0, _, [], Nat.zero_le _, (by first | rfl | (congr 1; omega)), HRS, HBR⟩
          case round =>
            clear HRS HBR
            obtain ⟨k, nv, os, hk, rfl, HR, HBR⟩ := hrel
            by_cases hkl : k < n
            · obtain ⟨i, hi1, hi2⟩ : ∃ i : Nat, i + 1 + k = n ∧ (n : Int) - 1 - (k : Int) = (i : Int) := ⟨n - 1 - k, by omega, by omega⟩
              have HI := Lib.hid (And.intro hi1 hi2)
              rw [hi2]
              obtain ⟨NS, hNS⟩ : ∃ NS, NS = (levT n q cc (gT x) k).1 := ⟨_, rfl⟩
              obtain ⟨BL, hBL⟩ : ∃ BL, BL = (levT n q cc (gT x) k).2 := ⟨_, rfl⟩
              rw [← hNS, ← hBL] at HR
              obtain ⟨bA, bc, e7, -, -⟩ := HR.out.rr.ints
              subst e7
              have HBLL : Hid (BL.length = (i + 2) * q) := Lib.hid (by rw [hBL, levT_len k (by omega), show n - k + 1 = i + 2 by omega])
              have HNSL : Hid (NS.length ≤ 648) := Lib.hid (by
                have h := levT_size (n := n) (q := q) (cc := cc) (g := gT x) HK.out.2.2.2.1 HK.out.2.1 k (by omega)
                rw [← hNS] at h
                have := HK.out
                omega)
              have HNB := Lib.hid (And.intro hNS hBL)
              have hi9 : i < 9 := by have := HK.out; omega
              have HI9 := Lib.hid hi9
              have hwi : wrap64 ((i : Int) - 1) = (i : Int) - 1 := by unfold wrap64; omega
              have HWI := Lib.hid hwi
              have hbl9 : BL.length ≤ 9223372036854775807 := by
                rw [HBLL.out]
                have h1 : (i + 2) * q ≤ 11 * 8 := Nat.mul_le_mul (by omega) (by have := HK.out; omega)
                omega
              have HR0 : Hid (RW v1.heap.size p (.int .i64 (q : Int)) (.slice A n a) nv os (lvNd q cc NS BL k i (0 * q)) (.slice bA BL.length bc) BL (.slice none 0 0) (lvKs NS (0 * q)) wr) := Lib.hid (by
                rw [Nat.zero_mul]
                have e1 : lvNd q cc NS BL k i 0 = NS := by simp [lvNd]
                have e2 : lvKs NS 0 = [] := rfl
                rw [e1, e2]
                exact HR.out)
              clear hi1 hi2 hNS hBL hk hkl hi9 hwi HR
              go_wp2
              go_loopw [11, 12] (fun hv iv wr => ∃ (cN : Nat) (nv : Value) (os : List Hd), cN ≤ i + 1 ∧ iv = .int .i64 cN ∧ Hid (RW v1.heap.size p (.int .i64 (q : Int)) (.slice A n a) nv os (lvNd q cc NS BL k i (cN * q)) (.slice bA BL.length bc) BL hv (lvKs NS (cN * q)) wr) ∧ Hid (Below v1.heap.size v1 wr)) (fun _ iv _ => i + 1 - (intOf iv).toNat)
              case atStart => exact ⟨0, _, os, Nat.zero_le _, rfl, HR0, HBR⟩
              case round =>
                clear HR0 HBR
                obtain ⟨cN, nv, os, hcN, rfl, HR, HBR⟩ := hrel
                have hwc : wrap64 ((cN : Int) + 1) = (cN : Int) + 1 := by have := HI9.out; unfold wrap64; omega
                by_cases hcl : cN ≤ i
                · have HCL := Lib.hid hcl
                  have hdc : decide ((cN : Int) ≤ (i : Int)) = true := dec_le hcl
                  obtain ⟨wo, rfl⟩ : ∃ wo : World, wo = wr := ⟨_, rfl⟩
                  clear hcN hcl
                  go_wp2
                  try rw [show decide (cN ≤ i) = true from decide_eq_true HCL.out]
                  go_loopw [11, 13] (fun hv iv wr => ∃ (sN : Nat) (nv : Value) (os : List Hd), sN ≤ q ∧ iv = .int .i64 sN ∧ Hid (RW v1.heap.size p (.int .i64 (q : Int)) (.slice A n a) nv os (lvNd q cc NS BL k i (cN * q + sN)) (.slice bA BL.length bc) BL hv (lvKs NS (cN * q + sN)) wr) ∧ Hid (Below v1.heap.size v1 wr)) (fun _ iv _ => q - (intOf iv).toNat)
                  case atStart => exact ⟨0, _, os, Nat.zero_le _, rfl, HR, HBR⟩
                  case round =>
                    clear HR HBR
                    obtain ⟨sN, nv, os, hsN, rfl, HR, HBR⟩ := hrel
                    have hws : wrap64 ((sN : Int) + 1) = (sN : Int) + 1 := wrap_1 hsN (Nat.le_trans HK.out.2.1 (by decide))
                    have HXW := Lib.hid (HX.out.below HBR.out HX.out.lt)
                    have c1 := HXW.out.cell_ 1 (.int .i64 (q : Int)) rfl
                    by_cases hsl : sN < q
                    · have HSL := Lib.hid hsl
                      have hds : decide ((sN : Int) < (q : Int)) = true := dec_lt hsl
                      obtain ⟨Wi, rfl⟩ : ∃ Wi : World, Wi = wr := ⟨_, rfl⟩
                      obtain ⟨L, hL⟩ : ∃ L : Nat, L = k + 1 := ⟨_, rfl⟩
                      have hlv : wrap64 ((n : Int) - (i : Int)) = (L : Int) := by have := HI.out.1; have := HK.out; unfold wrap64; omega
                      have HX0 := Lib.hid (NxL.new Wi (L : Int))
                      obtain ⟨wx, hwx2⟩ : ∃ wx, wx = Wi.alloc (.cells #[.int .i64 (L : Int), .slice none 0 0] 42) := ⟨_, rfl⟩
                      obtain ⟨gX, hgX⟩ : ∃ gX, gX = Wi.heap.size := ⟨_, rfl⟩
                      rw [← hwx2, ← hgX] at HX0
                      have HWX := Lib.hid (And.intro hwx2 hgX)
                      have HL := Lib.hid hL
                      clear hsN hsl hwx2 hgX hL
                      go_upto_region 24 with fail
                      rw [← HWX.out.1, ← HWX.out.2]
                      clear hlv
                      go_wp2
                      try rw [show decide (sN < q) = true from decide_eq_true HSL.out]
                      go_loopw [15] (fun iv wj => ∃ (vN : Nat) (xv : Value), vN ≤ q ∧ iv = .int .i64 vN ∧ Hid (NxL gX Wi L ((nodL q cc BL i cN sN).take vN) xv wj)) (fun iv _ => q - (intOf iv).toNat)
                      case atStart => exact ⟨0, _, Nat.zero_le _, rfl, HX0⟩
                      case round =>
                        clear HX0
                        obtain ⟨vN, xv, hvN, rfl, HNX⟩ := hrel
                        have hwz : wrap64 ((vN : Int) + 1) = (vN : Int) + 1 := wrap_1 hvN (Nat.le_trans HK.out.2.1 (by decide))
                        have HXV := Lib.hid (HX.out.below (HBR.out.trans (HNX.out.below.mono HBR.out.size)) HX.out.lt)
                        have c1 := HXV.out.cell_ 1 (.int .i64 (q : Int)) rfl
                        by_cases hvl : vN < q
                        · have HZL := Lib.hid hvl
                          have hdz : decide ((vN : Int) < (q : Int)) = true := dec_lt hvl
                          obtain ⟨ix, hix⟩ : ∃ ix, ix = ixB q cc i cN sN vN := ⟨_, rfl⟩
                          have hixl : ix < BL.length := by
                            rw [hix, HBLL.out]
                            exact ixB_lt HCL.out HSL.out HZL.out
                          have HRV := Lib.hid (HR.out.ext HNX.out.below)
                          obtain ⟨lb, lo, eA, hlb, hlc⟩ := (Ints.at_ (OwnI.reads HRV.out.rr) hixl)
                          subst eA
                          obtain ⟨acc, hacc⟩ : ∃ acc, acc = (nodL q cc BL i cN sN).take vN := ⟨_, rfl⟩
                          obtain ⟨z, hzv⟩ : ∃ z, z = BL.getD ix 0 := ⟨_, rfl⟩
                          have hst := nodL_take (q := q) (cc := cc) (bl := BL) (i := i) (c := cN) (s := sN) HZL.out
                          rw [← hacc, ← hix, ← hzv] at hst
                          have hgz : BL[ix]'hixl = z := by rw [hzv, List.getD_eq_getElem?_getD, List.getElem?_eq_getElem hixl]; rfl
                          rw [hgz] at hlc
                          rw [← hacc] at HNX
                          have hal := take_small hacc HZL.out HK.out.2.1
                          obtain ⟨xA, xc, exv, -, -⟩ := HNX.out.R.ints
                          subst exv
                          have HAL := Lib.hid hal
                          have HSN2 := Lib.hid hst
                          have HGL : Hid (gX < wr.heap.size ∧ wr.cell? ⟨gX, 1, none⟩ = some (.slice xA acc.length xc)) := Lib.hid ⟨HNX.out.G.lt, HNX.out.G.cell_ 1 _ rfl⟩
                          have HLC : Hid (lb < wr.heap.size ∧ wr.cell? ⟨lb, lo + ix, none⟩ = some (.int .i64 z)) := Lib.hid ⟨hlb, hlc⟩
                          have HXC : Hid (w.heap.size < wr.heap.size ∧ wr.cell? ⟨w.heap.size, 1, none⟩ = some (.int .i64 (q : Int))) := Lib.hid ⟨HXV.out.lt, c1⟩
                          have HIXL := Lib.hid hixl
                          clear hixl hlb hlc hacc hzv hst hgz hal hvN hvl
                          by_cases e1 : i = cc
                          · have f1 : ((i : Int) == (cc : Int)) = true := beq_t e1
                            obtain ⟨m, hm1, hm2⟩ := idx29 HK.out.2.1 HCL.out HI9.out HZL.out e1 hix
                            have HMA := Lib.hid (And.intro hm1 (And.intro hm2 HIXL.out))
                            clear hm1 hm2
                            clear e1 hix
                            go_upto_region 29 with fail
                            rw [show decide (vN < q) = true from decide_eq_true HZL.out]
                            refine wp_region_J (by kernel_rfl) (fun listed act w' => ∃ b0 b1 b2 b3 b4 b5 b6 b7 b8 b9 b10 b11 b12 b13 b14 v95 v96 v97 v98 v99 v100 v101 v102 v103 v104 v105 v106 v107 v108, listed = #[b0, b1, b2, b3, b4, b5, b6, b7, b8, b9, b10, b11, b12, b13, b14] ∧ act = Act.mk #[.agg #[.slice A n a, .int .i64 ↑q, .slice B x.birth.length b, .slice C x.survive.length c], .pointer (some ⟨w.heap.size, 0, none⟩), .pointer (some ⟨w.heap.size + 1, 0, none⟩), .int .i64 0, .int .i64 ↑n, .int .i64 ↑cc, .pointer (some ⟨p, 0, none⟩), .slice (some ⟨lb, lo, none⟩) BL.length bc, .int .i64 ↑cB, u9, .int .i64 ↑i, u11, .int .i64 ↑cN, .int .i64 ↑sN, .pointer (some ⟨gX, 0, none⟩), .int .i64 ↑vN, .agg #[.slice A n a, .int .i64 ↑q, .slice B x.birth.length b, .slice C x.survive.length c], .bool true, .bool false, undef, v20, v21, v22, v23, v24, v25, v26, .pointer (some ⟨w.heap.size, 1, none⟩), .int .i64 ↑q, .pointer (some ⟨w.heap.size, 0, none⟩), .slice A n a, .agg #[.int .i64 ↑q, .slice A n a, .slice none 0 0], .int .i64 ↑cB, .int .i64 ↑n, .bool false, u35, u36, u37, u38, u39, u40, u41, u42, u43, u44, u45, u46, u47, u48, u49, .int .i64 ↑n, .int .i64 (↑n - 1), .int .i64 ↑i, .bool true, u54, u55, .int .i64 ↑cN, .int .i64 ↑i, .bool true, u59, u60, .int .i64 ↑sN, .pointer (some ⟨w.heap.size, 1, none⟩), .int .i64 ↑q, .bool true, u65, u66, .int .i64 ↑n, .int .i64 ↑i, .int .i64 (wrap64 (↑n - ↑i)), .agg #[.int .i64 ↑L, .slice none 0 0], .int .i64 ↑vN, .pointer (some ⟨w.heap.size, 1, none⟩), .int .i64 ↑q, .bool true, u75, u76, u77, u78, u79, u80, u81, u82, u83, u84, u85, u86, u87, u88, u89, u90, .bool true, .int .i64 ↑i, .int .i64 ↑cc, .bool true, v95, v96, v97, v98, v99, v100, v101, v102, v103, v104, v105, v106, v107, v108, u109, u110, u111, u112, u113, u114, u115, u116, u117, u118, u119, u120, u121, u122, u123, u124, u125, u126, u127, u128, u129, u130, u131, u132, u133, u134, u135, u136, u137, u138, u139, undef, undef, undef, undef, undef, undef, undef, undef, undef, undef] [] ∧ Rt29J wr Wi gX (L : Int) acc (.slice xA acc.length xc) z (.slice (some ⟨lb, lo, none⟩) BL.length bc) cN q m vN ix lb lo w.heap.size b0 b1 b2 b3 b4 b5 b6 b7 b8 b9 b10 b11 b12 b13 b14 v95 v96 v97 v98 v99 v100 v101 v102 v103 v104 v105 v106 v107 v108 w') ?_ ?_ ?_
                            · exact ⟨_, _, _, _, _, _, _, _, _, _, _, _, _, _, _, _, _, _, _, _, _, _, _, _, _, _, _, _, _, rfl, rfl, ⟨(by simp), (by simp), (by simp), (by simp), (by simp), (by simp), (by simp), (by simp), (by simp), (by simp), (by simp), (by simp), (fun _ _ _ => rfl), (fun _ => rfl), (by simp), (by simp), (by simp), (by simp), (by simp), (by simp), (by simp), (by simp), (by simp), (by simp), (by simp), (by simp)⟩⟩
                            · rintro i listed act w' hi ⟨b0, b1, b2, b3, b4, b5, b6, b7, b8, b9, b10, b11, b12, b13, b14, v95, v96, v97, v98, v99, v100, v101, v102, v103, v104, v105, v106, v107, v108, rfl, rfl, H⟩
                              have hi16 : i < 15 := by
                                obtain ⟨-, o, ho, -⟩ := mem_ready.1 hi
                                exact (Array.getElem?_eq_some_iff.1 ho).1
                              obtain rfl | rfl | rfl | rfl | rfl | rfl | rfl | rfl | rfl | rfl | rfl | rfl | rfl | rfl | rfl : i = 0 ∨ i = 1 ∨ i = 2 ∨ i = 3 ∨ i = 4 ∨ i = 5 ∨ i = 6 ∨ i = 7 ∨ i = 8 ∨ i = 9 ∨ i = 10 ∨ i = 11 ∨ i = 12 ∨ i = 13 ∨ i = 14 := by omega
                              all_goals simp [mem_ready, Region.binds] at hi
                              · refine wpOp_hidden rfl fun K hK => ?_
                                go_wp2
                                refine OnlyN.mk (hK.out _ _ ⟨true, _, _, _, _, _, _, _, _, _, _, _, _, _, _, .pointer (some ⟨gX, 1, none⟩), _, _, _, _, _, _, _, _, _, _, _, _, _, rfl, rfl, ⟨fun _ => rfl, H.h1, H.h2, H.h3, H.h4, H.h5, H.h6, H.h7, H.h8, H.h9, H.h10, H.h13, H.hk, H.wa, H.wb, H.wc, H.wd, H.ord2, fun h => rfl, H.o5, H.o6, H.o8, H.o9, H.o10, H.o11, H.o12⟩⟩)
                              · have bAf : b12 = false := by
                                  cases hb : b12 with
                                  | false => rfl
                                  | true => exact absurd (H.o12 hb).1 (by simp [hi])
                                obtain rfl := H.h0 (by simp [hi])
                                have cc := (H.hk bAf ⟨gX, 1, none⟩ HGL.out.1).trans HGL.out.2
                                clear bAf
                                refine wpOp_hidden rfl fun K hK => ?_
                                go_wp2
                                refine OnlyN.mk (hK.out _ _ ⟨_, true, _, _, _, _, _, _, _, _, _, _, _, _, _, _, (.slice xA acc.length xc), _, _, _, _, _, _, _, _, _, _, _, _, rfl, rfl, ⟨H.h0, fun _ => rfl, H.h2, H.h3, H.h4, H.h5, H.h6, H.h7, H.h8, H.h9, H.h10, H.h13, H.hk, H.wa, H.wb, H.wc, H.wd, H.ord2, fun _ => (by simp [hi]), H.o5, H.o6, H.o8, H.o9, H.o10, H.o11, fun h => ⟨rfl, (H.o12 h).2⟩⟩⟩)
                              · refine wpOp_hidden rfl fun K hK => ?_
                                go_wp2
                                refine OnlyN.mk (hK.out _ _ ⟨_, _, true, _, _, _, _, _, _, _, _, _, _, _, _, _, _, .slice (some ⟨lb, lo, none⟩) BL.length bc, _, _, _, _, _, _, _, _, _, _, _, rfl, rfl, ⟨H.h0, H.h1, fun _ => rfl, H.h3, H.h4, H.h5, H.h6, H.h7, H.h8, H.h9, H.h10, H.h13, H.hk, H.wa, H.wb, H.wc, H.wd, H.ord2, H.o1, H.o5, H.o6, H.o8, fun h => ⟨rfl, (H.o9 h).2⟩, H.o10, H.o11, H.o12⟩⟩)
                              · refine wpOp_hidden rfl fun K hK => ?_
                                go_wp2
                                refine OnlyN.mk (hK.out _ _ ⟨_, _, _, true, _, _, _, _, _, _, _, _, _, _, _, _, _, _, .int .i64 (cN : Int), _, _, _, _, _, _, _, _, _, _, rfl, rfl, ⟨H.h0, H.h1, H.h2, fun _ => rfl, H.h4, H.h5, H.h6, H.h7, H.h8, H.h9, H.h10, H.h13, H.hk, H.wa, H.wb, H.wc, H.wd, H.ord2, H.o1, H.o5, fun h => ⟨rfl, (H.o6 h).2⟩, H.o8, H.o9, H.o10, H.o11, H.o12⟩⟩)
                              · refine wpOp_hidden rfl fun K hK => ?_
                                go_wp2
                                refine OnlyN.mk (hK.out _ _ ⟨_, _, _, _, true, _, _, _, _, _, _, _, _, _, _, _, _, _, _, .pointer (some ⟨w.heap.size, 1, none⟩), _, _, _, _, _, _, _, _, _, rfl, rfl, ⟨H.h0, H.h1, H.h2, H.h3, fun _ => rfl, H.h5, H.h6, H.h7, H.h8, H.h9, H.h10, H.h13, H.hk, H.wa, H.wb, H.wc, H.wd, H.ord2, H.o1, fun h => rfl, H.o6, H.o8, H.o9, H.o10, H.o11, H.o12⟩⟩)
                              · have bAf : b12 = false := by
                                  cases hb : b12 with
                                  | false => rfl
                                  | true => exact absurd (H.o6 (H.o8 (H.o9 (H.o10 (H.o11 (H.o12 hb).2))).2).1).2 (by simp [hi])
                                obtain rfl := H.h4 (by simp [hi])
                                have cc := (H.hk bAf ⟨w.heap.size, 1, none⟩ HXC.out.1).trans HXC.out.2
                                clear bAf
                                refine wpOp_hidden rfl fun K hK => ?_
                                go_wp2
                                refine OnlyN.mk (hK.out _ _ ⟨_, _, _, _, _, true, _, _, _, _, _, _, _, _, _, _, _, _, _, _, .int .i64 (q : Int), _, _, _, _, _, _, _, _, rfl, rfl, ⟨H.h0, H.h1, H.h2, H.h3, H.h4, fun _ => rfl, H.h6, H.h7, H.h8, H.h9, H.h10, H.h13, H.hk, H.wa, H.wb, H.wc, H.wd, H.ord2, H.o1, fun _ => (by simp [hi]), fun h => ⟨(H.o6 h).1, rfl⟩, H.o8, H.o9, H.o10, H.o11, H.o12⟩⟩)
                              · obtain rfl := H.h3 (by simp [hi])
                                obtain rfl := H.h5 (by simp [hi])
                                have hma := HMA.out.1
                                refine wpOp_hidden rfl fun K hK => ?_
                                go_wp2
                                refine OnlyN.mk (hK.out _ _ ⟨_, _, _, _, _, _, true, _, _, _, _, _, _, _, _, _, _, _, _, _, _, .int .i64 (m : Int), _, _, _, _, _, _, _, rfl, rfl, ⟨H.h0, H.h1, H.h2, H.h3, H.h4, H.h5, fun _ => rfl, H.h7, H.h8, H.h9, H.h10, H.h13, H.hk, H.wa, H.wb, H.wc, H.wd, H.ord2, H.o1, H.o5, fun _ => (by simp [hi]), fun h => ⟨rfl, (H.o8 h).2⟩, H.o9, H.o10, H.o11, H.o12⟩⟩)
                              · refine wpOp_hidden rfl fun K hK => ?_
                                go_wp2
                                refine OnlyN.mk (hK.out _ _ ⟨_, _, _, _, _, _, _, true, _, _, _, _, _, _, _, _, _, _, _, _, _, _, .int .i64 (vN : Int), _, _, _, _, _, _, rfl, rfl, ⟨H.h0, H.h1, H.h2, H.h3, H.h4, H.h5, H.h6, fun _ => rfl, H.h8, H.h9, H.h10, H.h13, H.hk, H.wa, H.wb, H.wc, H.wd, H.ord2, H.o1, H.o5, H.o6, fun h => ⟨(H.o8 h).1, rfl⟩, H.o9, H.o10, H.o11, H.o12⟩⟩)
                              · obtain rfl := H.h6 (by simp [hi])
                                obtain rfl := H.h7 (by simp [hi])
                                have hma := HMA.out.2.1
                                refine wpOp_hidden rfl fun K hK => ?_
                                go_wp2
                                refine OnlyN.mk (hK.out _ _ ⟨_, _, _, _, _, _, _, _, true, _, _, _, _, _, _, _, _, _, _, _, _, _, _, .int .i64 (ix : Int), _, _, _, _, _, rfl, rfl, ⟨H.h0, H.h1, H.h2, H.h3, H.h4, H.h5, H.h6, H.h7, fun _ => rfl, H.h9, H.h10, H.h13, H.hk, H.wa, H.wb, H.wc, H.wd, H.ord2, H.o1, H.o5, H.o6, fun _ => (by simp [hi]), fun h => ⟨(H.o9 h).1, rfl⟩, H.o10, H.o11, H.o12⟩⟩)
                              · obtain rfl := H.h2 (by simp [hi])
                                obtain rfl := H.h8 (by simp [hi])
                                have hma := HMA.out.2.2
                                refine wpOp_hidden rfl fun K hK => ?_
                                go_wp2
                                refine OnlyN.mk (hK.out _ _ ⟨_, _, _, _, _, _, _, _, _, true, _, _, _, _, _, _, _, _, _, _, _, _, _, _, .pointer (some ⟨lb, lo + ix, none⟩), _, _, _, _, rfl, rfl, ⟨H.h0, H.h1, H.h2, H.h3, H.h4, H.h5, H.h6, H.h7, H.h8, fun _ => rfl, H.h10, H.h13, H.hk, H.wa, H.wb, H.wc, H.wd, H.ord2, H.o1, H.o5, H.o6, H.o8, fun _ => (by simp [hi]), fun h => rfl, H.o11, H.o12⟩⟩)
                              · have bAf : b12 = false := by
                                  cases hb : b12 with
                                  | false => rfl
                                  | true => exact absurd (H.o11 (H.o12 hb).2) (by simp [hi])
                                obtain rfl := H.h9 (by simp [hi])
                                have cc := (H.hk bAf ⟨lb, lo + ix, none⟩ HLC.out.1).trans HLC.out.2
                                clear bAf
                                refine wpOp_hidden rfl fun K hK => ?_
                                go_wp2
                                refine OnlyN.mk (hK.out _ _ ⟨_, _, _, _, _, _, _, _, _, _, true, _, _, _, _, _, _, _, _, _, _, _, _, _, _, .int .i64 z, _, _, _, rfl, rfl, ⟨H.h0, H.h1, H.h2, H.h3, H.h4, H.h5, H.h6, H.h7, H.h8, H.h9, fun _ => rfl, H.h13, H.hk, H.wa, H.wb, H.wc, H.wd, H.ord2, H.o1, H.o5, H.o6, H.o8, H.o9, fun _ => (by simp [hi]), fun h => rfl, H.o12⟩⟩)
                              · have bAf : b12 = false := by
                                  cases hb : b12 with
                                  | false => rfl
                                  | true => exact absurd (H.o12 hb).2 (by simp [hi])
                                obtain rfl := H.h10 (by simp [hi])
                                have hw := H.wa (by simp [hi])
                                have hA := bAf
                                subst hw
                                clear bAf
                                refine wpOp_hidden rfl fun K hK => ?_
                                go_wp2
                                refine OnlyN.mk (hK.out _ _ ⟨_, _, _, _, _, _, _, _, _, _, _, true, _, _, _, _, _, _, _, _, _, _, _, _, _, _, .slice (some ⟨wr.heap.size, 0, none⟩) 1 1, _, _, rfl, rfl, ⟨H.h0, H.h1, H.h2, H.h3, H.h4, H.h5, H.h6, H.h7, H.h8, H.h9, H.h10, H.h13, fun _ p hp => World.cell?_alloc_lt wr _ p hp, fun h => (by cases h), fun _ _ => ⟨rfl, rfl⟩, fun h => absurd h (by rw [hA]; decide), fun h => absurd (H.ord2 h).1 (by rw [hA]; decide), H.ord2, H.o1, H.o5, H.o6, H.o8, H.o9, H.o10, fun _ => (by simp [hi]), fun h => ⟨(H.o12 h).1, rfl⟩⟩⟩)
                              · obtain rfl := H.h1 (by simp [hi])
                                obtain ⟨hv, hw⟩ := H.wb (by simp [hi]) (by simp [hi])
                                obtain ⟨Vd, hVd⟩ : ∃ Vd, Vd = World.drew wr := ⟨_, rfl⟩
                                have hsz : wr.heap.size = Vd.heap.size := by rw [hVd]; rfl
                                rw [← hVd] at hw
                                rw [hsz] at hv
                                subst hw
                                subst hv
                                have hown : OwnIA Vd Wi.heap.size (.slice xA acc.length xc) acc := by rw [hVd]; exact HNX.out.R
                                have hal := HAL.out
                                have hws : Wi.heap.size ≤ Vd.heap.size := by rw [← hsz]; exact HNX.out.below.size
                                have HVD := Lib.hid hVd
                                clear hVd hsz
                                refine wpOp_hidden rfl fun K hK => ?_
                                refine wpList_pushIk rfl _ _ _ rfl Wi.heap.size 3 Tryz.underlying28 Tryz.infoInt _ _ rfl hown _ rfl hal hws ?_
                                intro xv' w6 ho6 hk6 hm6
                                obtain ⟨xA', xc', hxv', -, -⟩ := ho6.ints
                                rw [List.length_append, List.length_singleton] at hxv'
                                subst hxv'
                                have HO6 := Lib.hid ho6
                                have HK6 : Hid (Kept (fun g => Value.ownBlock (.slice xA acc.length xc) = some g) wr w6) := Lib.hid (Kept.trans (by rw [HVD.out]; exact (Kept.refl _ wr).drew) hk6)
                                clear ho6 hk6 hm6 hown hal hws
                                go_wp2
                                refine OnlyN.mk (hK.out _ _ ⟨_, _, _, _, _, _, _, _, _, _, _, _, true, _, _, _, _, _, _, _, _, _, _, _, _, _, _, .slice xA' (acc.length + 1) xc', _, rfl, rfl, ⟨H.h0, H.h1, H.h2, H.h3, H.h4, H.h5, H.h6, H.h7, H.h8, H.h9, H.h10, H.h13, fun h => (by cases h), fun h => absurd h (by simp [hi]), fun _ h => (by cases h), fun _ _ => ⟨_, _, rfl, HO6.out, HK6.out⟩, fun h => absurd (H.ord2 h).1 (by simp [hi]), fun h => ⟨rfl, (H.ord2 h).2⟩, H.o1, H.o5, H.o6, H.o8, H.o9, H.o10, H.o11, fun _ => (by simp [hi])⟩⟩)
                              · refine wpOp_hidden rfl fun K hK => ?_
                                go_wp2
                                refine OnlyN.mk (hK.out _ _ ⟨_, _, _, _, _, _, _, _, _, _, _, _, _, true, _, _, _, _, _, _, _, _, _, _, _, _, _, _, .pointer (some ⟨gX, 1, none⟩), rfl, rfl, ⟨H.h0, H.h1, H.h2, H.h3, H.h4, H.h5, H.h6, H.h7, H.h8, H.h9, H.h10, fun _ => rfl, H.hk, H.wa, H.wb, H.wc, H.wd, fun h => ⟨(H.ord2 h).1, rfl⟩, H.o1, H.o5, H.o6, H.o8, H.o9, H.o10, H.o11, H.o12⟩⟩)
                              · obtain rfl := H.h13 (by simp [hi])
                                obtain ⟨xA', xc', hv, ho6, hk6⟩ := H.wc (by simp [hi]) (by simp [hi])
                                subst hv
                                have hG6 := hk6.blk HNX.out.G (own_blk_ne' HNX.out.R HNX.out.G (by decide))
                                have cx6 := hG6.cell_ 1 (.slice xA acc.length xc) rfl
                                have fx6 := hG6.frozen 1
                                have HN6 := Lib.hid (HNX.out.push ho6 hk6)
                                clear ho6 hk6 hG6
                                refine wpOp_hidden rfl fun K hK => ?_
                                go_wp2
                                refine OnlyN.mk (hK.out _ _ ⟨_, _, _, _, _, _, _, _, _, _, _, _, _, _, true, _, _, _, _, _, _, _, _, _, _, _, _, _, _, rfl, rfl, ⟨H.h0, H.h1, H.h2, H.h3, H.h4, H.h5, H.h6, H.h7, H.h8, H.h9, H.h10, H.h13, fun h => absurd h (by simp [hi]), fun h => absurd h (by simp [hi]), fun _ h => absurd h (by simp [hi]), fun _ h => (by cases h), fun _ => ⟨_, HN6.out⟩, fun _ => (by simp [hi]), H.o1, H.o5, H.o6, H.o8, H.o9, H.o10, H.o11, H.o12⟩⟩)
                            · rintro listed act w' hr ⟨b0, b1, b2, b3, b4, b5, b6, b7, b8, b9, b10, b11, b12, b13, b14, v95, v96, v97, v98, v99, v100, v101, v102, v103, v104, v105, v106, v107, v108, rfl, rfl, H⟩
                              have hn := List.eq_nil_iff_forall_not_mem.1 hr
                              have r0 := hn 0
                              simp [mem_ready, Region.binds] at r0
                              subst r0
                              have r1 := hn 1
                              simp [mem_ready, Region.binds] at r1
                              subst r1
                              have r2 := hn 2
                              simp [mem_ready, Region.binds] at r2
                              subst r2
                              have r3 := hn 3
                              simp [mem_ready, Region.binds] at r3
                              subst r3
                              have r4 := hn 4
                              simp [mem_ready, Region.binds] at r4
                              subst r4
                              have r5 := hn 5
                              simp [mem_ready, Region.binds] at r5
                              subst r5
                              have r6 := hn 6
                              simp [mem_ready, Region.binds] at r6
                              subst r6
                              have r7 := hn 7
                              simp [mem_ready, Region.binds] at r7
                              subst r7
                              have r8 := hn 8
                              simp [mem_ready, Region.binds] at r8
                              subst r8
                              have r9 := hn 9
                              simp [mem_ready, Region.binds] at r9
                              subst r9
                              have r10 := hn 10
                              simp [mem_ready, Region.binds] at r10
                              subst r10
                              have r11 := hn 11
                              simp [mem_ready, Region.binds] at r11
                              subst r11
                              have r12 := hn 12
                              simp [mem_ready, Region.binds] at r12
                              subst r12
                              have r13 := hn 13
                              simp [mem_ready, Region.binds] at r13
                              subst r13
                              have r14 := hn 14
                              simp [mem_ready, Region.binds] at r14
                              subst r14
                              try dsimp only
                              obtain ⟨xv2, hn2⟩ := H.wd rfl
                              rw [← HSN2.out] at hn2
                              have HN7 := Lib.hid hn2
                              clear H hr hn hn2
                              go_wp2
                              go_roundw
                              case rel => exact ⟨vN + 1, xv2, HZL.out, (by first | rfl | (rw [hwz]; rfl)), HN7⟩
                              case measure => (try rw [hwz]); exact meas_step HZL.out
                          · have f1 : ((i : Int) == (cc : Int)) = false := beq_f e1
                            by_cases e2 : vN = 1
                            · have f2 : ((vN : Int) == 1) = true := beq_1t e2
                              obtain ⟨c2, m, hm0, hm1, hm2⟩ := idx31 HK.out.2.1 HCL.out HI9.out HSL.out e1 e2 hix
                              have HMA := Lib.hid (And.intro hm0 (And.intro hm1 (And.intro hm2 HIXL.out)))
                              clear hm0 hm1 hm2
                              clear e1 e2 hix
                              go_upto_region 31 with fail
                              rw [show decide (vN < q) = true from decide_eq_true HZL.out]
                              clear hwc
                              refine wp_region_J (by kernel_rfl) (fun listed act w' => ∃ b0 b1 b2 b3 b4 b5 b6 b7 b8 b9 b10 b11 b12 b13 b14 b15 v112 v113 v114 v115 v116 v117 v118 v119 v120 v121 v122 v123 v124 v125 v126, listed = #[b0, b1, b2, b3, b4, b5, b6, b7, b8, b9, b10, b11, b12, b13, b14, b15] ∧ act = Act.mk #[.agg #[.slice A n a, .int .i64 ↑q, .slice B x.birth.length b, .slice C x.survive.length c], .pointer (some ⟨w.heap.size, 0, none⟩), .pointer (some ⟨w.heap.size + 1, 0, none⟩), .int .i64 0, .int .i64 ↑n, .int .i64 ↑cc, .pointer (some ⟨p, 0, none⟩), .slice (some ⟨lb, lo, none⟩) BL.length bc, .int .i64 ↑cB, u9, .int .i64 ↑i, u11, .int .i64 ↑cN, .int .i64 ↑sN, .pointer (some ⟨gX, 0, none⟩), .int .i64 ↑vN, .agg #[.slice A n a, .int .i64 ↑q, .slice B x.birth.length b, .slice C x.survive.length c], .bool true, .bool false, undef, v20, v21, v22, v23, v24, v25, v26, .pointer (some ⟨w.heap.size, 1, none⟩), .int .i64 ↑q, .pointer (some ⟨w.heap.size, 0, none⟩), .slice A n a, .agg #[.int .i64 ↑q, .slice A n a, .slice none 0 0], .int .i64 ↑cB, .int .i64 ↑n, .bool false, u35, u36, u37, u38, u39, u40, u41, u42, u43, u44, u45, u46, u47, u48, u49, .int .i64 ↑n, .int .i64 (↑n - 1), .int .i64 ↑i, .bool true, u54, u55, .int .i64 ↑cN, .int .i64 ↑i, .bool true, u59, u60, .int .i64 ↑sN, .pointer (some ⟨w.heap.size, 1, none⟩), .int .i64 ↑q, .bool true, u65, u66, .int .i64 ↑n, .int .i64 ↑i, .int .i64 (wrap64 (↑n - ↑i)), .agg #[.int .i64 ↑L, .slice none 0 0], .int .i64 ↑vN, .pointer (some ⟨w.heap.size, 1, none⟩), .int .i64 ↑q, .bool true, u75, u76, u77, u78, u79, u80, u81, u82, u83, u84, u85, u86, u87, u88, u89, u90, .bool false, .int .i64 ↑i, .int .i64 ↑cc, .bool false, u95, u96, u97, u98, u99, u100, u101, u102, u103, u104, u105, u106, u107, u108, .bool true, .int .i64 ↑vN, .bool true, v112, v113, v114, v115, v116, v117, v118, v119, v120, v121, v122, v123, v124, v125, v126, u127, u128, u129, u130, u131, u132, u133, u134, u135, u136, u137, u138, u139, undef, undef, undef, undef, undef, undef, undef, undef, undef, undef] [] ∧ Rt31J wr Wi gX (L : Int) acc (.slice xA acc.length xc) z (.slice (some ⟨lb, lo, none⟩) BL.length bc) cN q m sN ix lb lo w.heap.size c2 b0 b1 b2 b3 b4 b5 b6 b7 b8 b9 b10 b11 b12 b13 b14 b15 v112 v113 v114 v115 v116 v117 v118 v119 v120 v121 v122 v123 v124 v125 v126 w') ?_ ?_ ?_
                              · exact ⟨_, _, _, _, _, _, _, _, _, _, _, _, _, _, _, _, _, _, _, _, _, _, _, _, _, _, _, _, _, _, _, rfl, rfl, ⟨(by simp), (by simp), (by simp), (by simp), (by simp), (by simp), (by simp), (by simp), (by simp), (by simp), (by simp), (by simp), (by simp), (fun _ _ _ => rfl), (fun _ => rfl), (by simp), (by simp), (by simp), (by simp), (by simp), (by simp), (by simp), (by simp), (by simp), (by simp), (by simp), (by simp), (by simp)⟩⟩
                              · rintro i listed act w' hi ⟨b0, b1, b2, b3, b4, b5, b6, b7, b8, b9, b10, b11, b12, b13, b14, b15, v112, v113, v114, v115, v116, v117, v118, v119, v120, v121, v122, v123, v124, v125, v126, rfl, rfl, H⟩
                                have hi16 : i < 16 := by
                                  obtain ⟨-, o, ho, -⟩ := mem_ready.1 hi
                                  exact (Array.getElem?_eq_some_iff.1 ho).1
                                obtain rfl | rfl | rfl | rfl | rfl | rfl | rfl | rfl | rfl | rfl | rfl | rfl | rfl | rfl | rfl | rfl : i = 0 ∨ i = 1 ∨ i = 2 ∨ i = 3 ∨ i = 4 ∨ i = 5 ∨ i = 6 ∨ i = 7 ∨ i = 8 ∨ i = 9 ∨ i = 10 ∨ i = 11 ∨ i = 12 ∨ i = 13 ∨ i = 14 ∨ i = 15 := by omega
                                all_goals simp [mem_ready, Region.binds] at hi
                                · refine wpOp_hidden rfl fun K hK => ?_
                                  go_wp2
                                  refine OnlyN.mk (hK.out _ _ ⟨true, _, _, _, _, _, _, _, _, _, _, _, _, _, _, _, .pointer (some ⟨gX, 1, none⟩), _, _, _, _, _, _, _, _, _, _, _, _, _, _, rfl, rfl, ⟨fun _ => rfl, H.h1, H.h2, H.h3, H.h4, H.h5, H.h6, H.h7, H.h8, H.h9, H.h10, H.h11, H.h14, H.hk, H.wa, H.wb, H.wc, H.wd, H.ord2, fun h => rfl, H.o4, H.o6, H.o7, H.o9, H.o10, H.o11, H.o12, H.o13⟩⟩)
                                · have bAf : b13 = false := by
                                    cases hb : b13 with
                                    | false => rfl
                                    | true => exact absurd (H.o13 hb).1 (by simp [hi])
                                  obtain rfl := H.h0 (by simp [hi])
                                  have cc := (H.hk bAf ⟨gX, 1, none⟩ HGL.out.1).trans HGL.out.2
                                  clear bAf
                                  refine wpOp_hidden rfl fun K hK => ?_
                                  go_wp2
                                  refine OnlyN.mk (hK.out _ _ ⟨_, true, _, _, _, _, _, _, _, _, _, _, _, _, _, _, _, (.slice xA acc.length xc), _, _, _, _, _, _, _, _, _, _, _, _, _, rfl, rfl, ⟨H.h0, fun _ => rfl, H.h2, H.h3, H.h4, H.h5, H.h6, H.h7, H.h8, H.h9, H.h10, H.h11, H.h14, H.hk, H.wa, H.wb, H.wc, H.wd, H.ord2, fun _ => (by simp [hi]), H.o4, H.o6, H.o7, H.o9, H.o10, H.o11, H.o12, fun h => ⟨rfl, (H.o13 h).2⟩⟩⟩)
                                · refine wpOp_hidden rfl fun K hK => ?_
                                  go_wp2
                                  refine OnlyN.mk (hK.out _ _ ⟨_, _, true, _, _, _, _, _, _, _, _, _, _, _, _, _, _, _, .slice (some ⟨lb, lo, none⟩) BL.length bc, _, _, _, _, _, _, _, _, _, _, _, _, rfl, rfl, ⟨H.h0, H.h1, fun _ => rfl, H.h3, H.h4, H.h5, H.h6, H.h7, H.h8, H.h9, H.h10, H.h11, H.h14, H.hk, H.wa, H.wb, H.wc, H.wd, H.ord2, H.o1, H.o4, H.o6, H.o7, H.o9, fun h => ⟨rfl, (H.o10 h).2⟩, H.o11, H.o12, H.o13⟩⟩)
                                · refine wpOp_hidden rfl fun K hK => ?_
                                  go_wp2
                                  refine OnlyN.mk (hK.out _ _ ⟨_, _, _, true, _, _, _, _, _, _, _, _, _, _, _, _, _, _, _, .int .i64 (cN : Int), _, _, _, _, _, _, _, _, _, _, _, rfl, rfl, ⟨H.h0, H.h1, H.h2, fun _ => rfl, H.h4, H.h5, H.h6, H.h7, H.h8, H.h9, H.h10, H.h11, H.h14, H.hk, H.wa, H.wb, H.wc, H.wd, H.ord2, H.o1, fun h => rfl, H.o6, H.o7, H.o9, H.o10, H.o11, H.o12, H.o13⟩⟩)
                                · obtain rfl := H.h3 (by simp [hi])
                                  have hma := HMA.out.1
                                  refine wpOp_hidden rfl fun K hK => ?_
                                  go_wp2
                                  refine OnlyN.mk (hK.out _ _ ⟨_, _, _, _, true, _, _, _, _, _, _, _, _, _, _, _, _, _, _, _, .int .i64 (c2 : Int), _, _, _, _, _, _, _, _, _, _, rfl, rfl, ⟨H.h0, H.h1, H.h2, H.h3, fun _ => rfl, H.h5, H.h6, H.h7, H.h8, H.h9, H.h10, H.h11, H.h14, H.hk, H.wa, H.wb, H.wc, H.wd, H.ord2, H.o1, fun _ => (by simp [hi]), H.o6, fun h => ⟨rfl, (H.o7 h).2⟩, H.o9, H.o10, H.o11, H.o12, H.o13⟩⟩)
                                · refine wpOp_hidden rfl fun K hK => ?_
                                  go_wp2
                                  refine OnlyN.mk (hK.out _ _ ⟨_, _, _, _, _, true, _, _, _, _, _, _, _, _, _, _, _, _, _, _, _, .pointer (some ⟨w.heap.size, 1, none⟩), _, _, _, _, _, _, _, _, _, rfl, rfl, ⟨H.h0, H.h1, H.h2, H.h3, H.h4, fun _ => rfl, H.h6, H.h7, H.h8, H.h9, H.h10, H.h11, H.h14, H.hk, H.wa, H.wb, H.wc, H.wd, H.ord2, H.o1, H.o4, fun h => rfl, H.o7, H.o9, H.o10, H.o11, H.o12, H.o13⟩⟩)
                                · have bAf : b13 = false := by
                                    cases hb : b13 with
                                    | false => rfl
                                    | true => exact absurd (H.o7 (H.o9 (H.o10 (H.o11 (H.o12 (H.o13 hb).2))).2).1).2 (by simp [hi])
                                  obtain rfl := H.h5 (by simp [hi])
                                  have cc := (H.hk bAf ⟨w.heap.size, 1, none⟩ HXC.out.1).trans HXC.out.2
                                  clear bAf
                                  refine wpOp_hidden rfl fun K hK => ?_
                                  go_wp2
                                  refine OnlyN.mk (hK.out _ _ ⟨_, _, _, _, _, _, true, _, _, _, _, _, _, _, _, _, _, _, _, _, _, _, .int .i64 (q : Int), _, _, _, _, _, _, _, _, rfl, rfl, ⟨H.h0, H.h1, H.h2, H.h3, H.h4, H.h5, fun _ => rfl, H.h7, H.h8, H.h9, H.h10, H.h11, H.h14, H.hk, H.wa, H.wb, H.wc, H.wd, H.ord2, H.o1, H.o4, fun _ => (by simp [hi]), fun h => ⟨(H.o7 h).1, rfl⟩, H.o9, H.o10, H.o11, H.o12, H.o13⟩⟩)
                                · obtain rfl := H.h4 (by simp [hi])
                                  obtain rfl := H.h6 (by simp [hi])
                                  have hma := HMA.out.2.1
                                  refine wpOp_hidden rfl fun K hK => ?_
                                  go_wp2
                                  refine OnlyN.mk (hK.out _ _ ⟨_, _, _, _, _, _, _, true, _, _, _, _, _, _, _, _, _, _, _, _, _, _, _, .int .i64 (m : Int), _, _, _, _, _, _, _, rfl, rfl, ⟨H.h0, H.h1, H.h2, H.h3, H.h4, H.h5, H.h6, fun _ => rfl, H.h8, H.h9, H.h10, H.h11, H.h14, H.hk, H.wa, H.wb, H.wc, H.wd, H.ord2, H.o1, H.o4, H.o6, fun _ => (by simp [hi]), fun h => ⟨rfl, (H.o9 h).2⟩, H.o10, H.o11, H.o12, H.o13⟩⟩)
                                · refine wpOp_hidden rfl fun K hK => ?_
                                  go_wp2
                                  refine OnlyN.mk (hK.out _ _ ⟨_, _, _, _, _, _, _, _, true, _, _, _, _, _, _, _, _, _, _, _, _, _, _, _, .int .i64 (sN : Int), _, _, _, _, _, _, rfl, rfl, ⟨H.h0, H.h1, H.h2, H.h3, H.h4, H.h5, H.h6, H.h7, fun _ => rfl, H.h9, H.h10, H.h11, H.h14, H.hk, H.wa, H.wb, H.wc, H.wd, H.ord2, H.o1, H.o4, H.o6, H.o7, fun h => ⟨(H.o9 h).1, rfl⟩, H.o10, H.o11, H.o12, H.o13⟩⟩)
                                · obtain rfl := H.h7 (by simp [hi])
                                  obtain rfl := H.h8 (by simp [hi])
                                  have hma := HMA.out.2.2.1
                                  refine wpOp_hidden rfl fun K hK => ?_
                                  go_wp2
                                  refine OnlyN.mk (hK.out _ _ ⟨_, _, _, _, _, _, _, _, _, true, _, _, _, _, _, _, _, _, _, _, _, _, _, _, _, .int .i64 (ix : Int), _, _, _, _, _, rfl, rfl, ⟨H.h0, H.h1, H.h2, H.h3, H.h4, H.h5, H.h6, H.h7, H.h8, fun _ => rfl, H.h10, H.h11, H.h14, H.hk, H.wa, H.wb, H.wc, H.wd, H.ord2, H.o1, H.o4, H.o6, H.o7, fun _ => (by simp [hi]), fun h => ⟨(H.o10 h).1, rfl⟩, H.o11, H.o12, H.o13⟩⟩)
                                · obtain rfl := H.h2 (by simp [hi])
                                  obtain rfl := H.h9 (by simp [hi])
                                  have hma := HMA.out.2.2.2
                                  refine wpOp_hidden rfl fun K hK => ?_
                                  go_wp2
                                  refine OnlyN.mk (hK.out _ _ ⟨_, _, _, _, _, _, _, _, _, _, true, _, _, _, _, _, _, _, _, _, _, _, _, _, _, _, .pointer (some ⟨lb, lo + ix, none⟩), _, _, _, _, rfl, rfl, ⟨H.h0, H.h1, H.h2, H.h3, H.h4, H.h5, H.h6, H.h7, H.h8, H.h9, fun _ => rfl, H.h11, H.h14, H.hk, H.wa, H.wb, H.wc, H.wd, H.ord2, H.o1, H.o4, H.o6, H.o7, H.o9, fun _ => (by simp [hi]), fun h => rfl, H.o12, H.o13⟩⟩)
                                · have bAf : b13 = false := by
                                    cases hb : b13 with
                                    | false => rfl
                                    | true => exact absurd (H.o12 (H.o13 hb).2) (by simp [hi])
                                  obtain rfl := H.h10 (by simp [hi])
                                  have cc := (H.hk bAf ⟨lb, lo + ix, none⟩ HLC.out.1).trans HLC.out.2
                                  clear bAf
                                  refine wpOp_hidden rfl fun K hK => ?_
                                  go_wp2
                                  refine OnlyN.mk (hK.out _ _ ⟨_, _, _, _, _, _, _, _, _, _, _, true, _, _, _, _, _, _, _, _, _, _, _, _, _, _, _, .int .i64 z, _, _, _, rfl, rfl, ⟨H.h0, H.h1, H.h2, H.h3, H.h4, H.h5, H.h6, H.h7, H.h8, H.h9, H.h10, fun _ => rfl, H.h14, H.hk, H.wa, H.wb, H.wc, H.wd, H.ord2, H.o1, H.o4, H.o6, H.o7, H.o9, H.o10, fun _ => (by simp [hi]), fun h => rfl, H.o13⟩⟩)
                                · have bAf : b13 = false := by
                                    cases hb : b13 with
                                    | false => rfl
                                    | true => exact absurd (H.o13 hb).2 (by simp [hi])
                                  obtain rfl := H.h11 (by simp [hi])
                                  have hw := H.wa (by simp [hi])
                                  have hA := bAf
                                  subst hw
                                  clear bAf
                                  refine wpOp_hidden rfl fun K hK => ?_
                                  go_wp2
                                  refine OnlyN.mk (hK.out _ _ ⟨_, _, _, _, _, _, _, _, _, _, _, _, true, _, _, _, _, _, _, _, _, _, _, _, _, _, _, _, .slice (some ⟨wr.heap.size, 0, none⟩) 1 1, _, _, rfl, rfl, ⟨H.h0, H.h1, H.h2, H.h3, H.h4, H.h5, H.h6, H.h7, H.h8, H.h9, H.h10, H.h11, H.h14, fun _ p hp => World.cell?_alloc_lt wr _ p hp, fun h => (by cases h), fun _ _ => ⟨rfl, rfl⟩, fun h => absurd h (by rw [hA]; decide), fun h => absurd (H.ord2 h).1 (by rw [hA]; decide), H.ord2, H.o1, H.o4, H.o6, H.o7, H.o9, H.o10, H.o11, fun _ => (by simp [hi]), fun h => ⟨(H.o13 h).1, rfl⟩⟩⟩)
                                · obtain rfl := H.h1 (by simp [hi])
                                  obtain ⟨hv, hw⟩ := H.wb (by simp [hi]) (by simp [hi])
                                  obtain ⟨Vd, hVd⟩ : ∃ Vd, Vd = World.drew wr := ⟨_, rfl⟩
                                  have hsz : wr.heap.size = Vd.heap.size := by rw [hVd]; rfl
                                  rw [← hVd] at hw
                                  rw [hsz] at hv
                                  subst hw
                                  subst hv
                                  have hown : OwnIA Vd Wi.heap.size (.slice xA acc.length xc) acc := by rw [hVd]; exact HNX.out.R
                                  have hal := HAL.out
                                  have hws : Wi.heap.size ≤ Vd.heap.size := by rw [← hsz]; exact HNX.out.below.size
                                  have HVD := Lib.hid hVd
                                  clear hVd hsz
                                  refine wpOp_hidden rfl fun K hK => ?_
                                  refine wpList_pushIk rfl _ _ _ rfl Wi.heap.size 3 Tryz.underlying28 Tryz.infoInt _ _ rfl hown _ rfl hal hws ?_
                                  intro xv' w6 ho6 hk6 hm6
                                  obtain ⟨xA', xc', hxv', -, -⟩ := ho6.ints
                                  rw [List.length_append, List.length_singleton] at hxv'
                                  subst hxv'
                                  have HO6 := Lib.hid ho6
                                  have HK6 : Hid (Kept (fun g => Value.ownBlock (.slice xA acc.length xc) = some g) wr w6) := Lib.hid (Kept.trans (by rw [HVD.out]; exact (Kept.refl _ wr).drew) hk6)
                                  clear ho6 hk6 hm6 hown hal hws
                                  go_wp2
                                  refine OnlyN.mk (hK.out _ _ ⟨_, _, _, _, _, _, _, _, _, _, _, _, _, true, _, _, _, _, _, _, _, _, _, _, _, _, _, _, _, .slice xA' (acc.length + 1) xc', _, rfl, rfl, ⟨H.h0, H.h1, H.h2, H.h3, H.h4, H.h5, H.h6, H.h7, H.h8, H.h9, H.h10, H.h11, H.h14, fun h => (by cases h), fun h => absurd h (by simp [hi]), fun _ h => (by cases h), fun _ _ => ⟨_, _, rfl, HO6.out, HK6.out⟩, fun h => absurd (H.ord2 h).1 (by simp [hi]), fun h => ⟨rfl, (H.ord2 h).2⟩, H.o1, H.o4, H.o6, H.o7, H.o9, H.o10, H.o11, H.o12, fun _ => (by simp [hi])⟩⟩)
                                · refine wpOp_hidden rfl fun K hK => ?_
                                  go_wp2
                                  refine OnlyN.mk (hK.out _ _ ⟨_, _, _, _, _, _, _, _, _, _, _, _, _, _, true, _, _, _, _, _, _, _, _, _, _, _, _, _, _, _, .pointer (some ⟨gX, 1, none⟩), rfl, rfl, ⟨H.h0, H.h1, H.h2, H.h3, H.h4, H.h5, H.h6, H.h7, H.h8, H.h9, H.h10, H.h11, fun _ => rfl, H.hk, H.wa, H.wb, H.wc, H.wd, fun h => ⟨(H.ord2 h).1, rfl⟩, H.o1, H.o4, H.o6, H.o7, H.o9, H.o10, H.o11, H.o12, H.o13⟩⟩)
                                · obtain rfl := H.h14 (by simp [hi])
                                  obtain ⟨xA', xc', hv, ho6, hk6⟩ := H.wc (by simp [hi]) (by simp [hi])
                                  subst hv
                                  have hG6 := hk6.blk HNX.out.G (own_blk_ne' HNX.out.R HNX.out.G (by decide))
                                  have cx6 := hG6.cell_ 1 (.slice xA acc.length xc) rfl
                                  have fx6 := hG6.frozen 1
                                  have HN6 := Lib.hid (HNX.out.push ho6 hk6)
                                  clear ho6 hk6 hG6
                                  refine wpOp_hidden rfl fun K hK => ?_
                                  go_wp2
                                  refine OnlyN.mk (hK.out _ _ ⟨_, _, _, _, _, _, _, _, _, _, _, _, _, _, _, true, _, _, _, _, _, _, _, _, _, _, _, _, _, _, _, rfl, rfl, ⟨H.h0, H.h1, H.h2, H.h3, H.h4, H.h5, H.h6, H.h7, H.h8, H.h9, H.h10, H.h11, H.h14, fun h => absurd h (by simp [hi]), fun h => absurd h (by simp [hi]), fun _ h => absurd h (by simp [hi]), fun _ h => (by cases h), fun _ => ⟨_, HN6.out⟩, fun _ => (by simp [hi]), H.o1, H.o4, H.o6, H.o7, H.o9, H.o10, H.o11, H.o12, H.o13⟩⟩)
                              · rintro listed act w' hr ⟨b0, b1, b2, b3, b4, b5, b6, b7, b8, b9, b10, b11, b12, b13, b14, b15, v112, v113, v114, v115, v116, v117, v118, v119, v120, v121, v122, v123, v124, v125, v126, rfl, rfl, H⟩
                                have hn := List.eq_nil_iff_forall_not_mem.1 hr
                                have r0 := hn 0
                                simp [mem_ready, Region.binds] at r0
                                subst r0
                                have r1 := hn 1
                                simp [mem_ready, Region.binds] at r1
                                subst r1
                                have r2 := hn 2
                                simp [mem_ready, Region.binds] at r2
                                subst r2
                                have r3 := hn 3
                                simp [mem_ready, Region.binds] at r3
                                subst r3
                                have r4 := hn 4
                                simp [mem_ready, Region.binds] at r4
                                subst r4
                                have r5 := hn 5
                                simp [mem_ready, Region.binds] at r5
                                subst r5
                                have r6 := hn 6
                                simp [mem_ready, Region.binds] at r6
                                subst r6
                                have r7 := hn 7
                                simp [mem_ready, Region.binds] at r7
                                subst r7
                                have r8 := hn 8
                                simp [mem_ready, Region.binds] at r8
                                subst r8
                                have r9 := hn 9
                                simp [mem_ready, Region.binds] at r9
                                subst r9
                                have r10 := hn 10
                                simp [mem_ready, Region.binds] at r10
                                subst r10
                                have r11 := hn 11
                                simp [mem_ready, Region.binds] at r11
                                subst r11
                                have r12 := hn 12
                                simp [mem_ready, Region.binds] at r12
                                subst r12
                                have r13 := hn 13
                                simp [mem_ready, Region.binds] at r13
                                subst r13
                                have r14 := hn 14
                                simp [mem_ready, Region.binds] at r14
                                subst r14
                                have r15 := hn 15
                                simp [mem_ready, Region.binds] at r15
                                subst r15
                                try dsimp only
                                obtain ⟨xv2, hn2⟩ := H.wd rfl
                                rw [← HSN2.out] at hn2
                                have HN7 := Lib.hid hn2
                                clear H hr hn hn2
                                go_wp2
                                go_roundw
                                case rel => exact ⟨vN + 1, xv2, HZL.out, (by first | rfl | (rw [hwz]; rfl)), HN7⟩
                                case measure => (try rw [hwz]); exact meas_step HZL.out
                            · have f2 : ((vN : Int) == 1) = false := beq_1f e2
                              obtain ⟨m, hm1, hm2⟩ := idx27 HK.out.2.1 HCL.out HI9.out HSL.out e1 e2 hix
                              have HMA := Lib.hid (And.intro hm1 (And.intro hm2 HIXL.out))
                              clear hm1 hm2
                              clear e1 e2 hix
                              go_upto_region 27 with fail
                              rw [show decide (vN < q) = true from decide_eq_true HZL.out]
                              refine wp_region_J (by kernel_rfl) (fun listed act w' => ∃ b0 b1 b2 b3 b4 b5 b6 b7 b8 b9 b10 b11 b12 b13 b14 v77 v78 v79 v80 v81 v82 v83 v84 v85 v86 v87 v88 v89 v90, listed = #[b0, b1, b2, b3, b4, b5, b6, b7, b8, b9, b10, b11, b12, b13, b14] ∧ act = Act.mk #[.agg #[.slice A n a, .int .i64 ↑q, .slice B x.birth.length b, .slice C x.survive.length c], .pointer (some ⟨w.heap.size, 0, none⟩), .pointer (some ⟨w.heap.size + 1, 0, none⟩), .int .i64 0, .int .i64 ↑n, .int .i64 ↑cc, .pointer (some ⟨p, 0, none⟩), .slice (some ⟨lb, lo, none⟩) BL.length bc, .int .i64 ↑cB, u9, .int .i64 ↑i, u11, .int .i64 ↑cN, .int .i64 ↑sN, .pointer (some ⟨gX, 0, none⟩), .int .i64 ↑vN, .agg #[.slice A n a, .int .i64 ↑q, .slice B x.birth.length b, .slice C x.survive.length c], .bool true, .bool false, undef, v20, v21, v22, v23, v24, v25, v26, .pointer (some ⟨w.heap.size, 1, none⟩), .int .i64 ↑q, .pointer (some ⟨w.heap.size, 0, none⟩), .slice A n a, .agg #[.int .i64 ↑q, .slice A n a, .slice none 0 0], .int .i64 ↑cB, .int .i64 ↑n, .bool false, u35, u36, u37, u38, u39, u40, u41, u42, u43, u44, u45, u46, u47, u48, u49, .int .i64 ↑n, .int .i64 (↑n - 1), .int .i64 ↑i, .bool true, u54, u55, .int .i64 ↑cN, .int .i64 ↑i, .bool true, u59, u60, .int .i64 ↑sN, .pointer (some ⟨w.heap.size, 1, none⟩), .int .i64 ↑q, .bool true, u65, u66, .int .i64 ↑n, .int .i64 ↑i, .int .i64 (wrap64 (↑n - ↑i)), .agg #[.int .i64 ↑L, .slice none 0 0], .int .i64 ↑vN, .pointer (some ⟨w.heap.size, 1, none⟩), .int .i64 ↑q, .bool true, u75, u76, v77, v78, v79, v80, v81, v82, v83, v84, v85, v86, v87, v88, v89, v90, .bool false, .int .i64 ↑i, .int .i64 ↑cc, .bool false, u95, u96, u97, u98, u99, u100, u101, u102, u103, u104, u105, u106, u107, u108, .bool false, .int .i64 ↑vN, .bool false, u112, u113, u114, u115, u116, u117, u118, u119, u120, u121, u122, u123, u124, u125, u126, u127, u128, u129, u130, u131, u132, u133, u134, u135, u136, u137, u138, u139, undef, undef, undef, undef, undef, undef, undef, undef, undef, undef] [] ∧ Rt27J wr Wi gX (L : Int) acc (.slice xA acc.length xc) z (.slice (some ⟨lb, lo, none⟩) BL.length bc) cN q m sN ix lb lo w.heap.size b0 b1 b2 b3 b4 b5 b6 b7 b8 b9 b10 b11 b12 b13 b14 v77 v78 v79 v80 v81 v82 v83 v84 v85 v86 v87 v88 v89 v90 w') ?_ ?_ ?_
                              · exact ⟨_, _, _, _, _, _, _, _, _, _, _, _, _, _, _, _, _, _, _, _, _, _, _, _, _, _, _, _, _, rfl, rfl, ⟨(by simp), (by simp), (by simp), (by simp), (by simp), (by simp), (by simp), (by simp), (by simp), (by simp), (by simp), (by simp), (fun _ _ _ => rfl), (fun _ => rfl), (by simp), (by simp), (by simp), (by simp), (by simp), (by simp), (by simp), (by simp), (by simp), (by simp), (by simp), (by simp)⟩⟩
                              · rintro i listed act w' hi ⟨b0, b1, b2, b3, b4, b5, b6, b7, b8, b9, b10, b11, b12, b13, b14, v77, v78, v79, v80, v81, v82, v83, v84, v85, v86, v87, v88, v89, v90, rfl, rfl, H⟩
                                have hi16 : i < 15 := by
                                  obtain ⟨-, o, ho, -⟩ := mem_ready.1 hi
                                  exact (Array.getElem?_eq_some_iff.1 ho).1
                                obtain rfl | rfl | rfl | rfl | rfl | rfl | rfl | rfl | rfl | rfl | rfl | rfl | rfl | rfl | rfl : i = 0 ∨ i = 1 ∨ i = 2 ∨ i = 3 ∨ i = 4 ∨ i = 5 ∨ i = 6 ∨ i = 7 ∨ i = 8 ∨ i = 9 ∨ i = 10 ∨ i = 11 ∨ i = 12 ∨ i = 13 ∨ i = 14 := by omega
                                all_goals simp [mem_ready, Region.binds] at hi
                                · refine wpOp_hidden rfl fun K hK => ?_
                                  go_wp2
                                  refine OnlyN.mk (hK.out _ _ ⟨true, _, _, _, _, _, _, _, _, _, _, _, _, _, _, .pointer (some ⟨gX, 1, none⟩), _, _, _, _, _, _, _, _, _, _, _, _, _, rfl, rfl, ⟨fun _ => rfl, H.h1, H.h2, H.h3, H.h4, H.h5, H.h6, H.h7, H.h8, H.h9, H.h10, H.h13, H.hk, H.wa, H.wb, H.wc, H.wd, H.ord2, fun h => rfl, H.o5, H.o6, H.o8, H.o9, H.o10, H.o11, H.o12⟩⟩)
                                · have bAf : b12 = false := by
                                    cases hb : b12 with
                                    | false => rfl
                                    | true => exact absurd (H.o12 hb).1 (by simp [hi])
                                  obtain rfl := H.h0 (by simp [hi])
                                  have cc := (H.hk bAf ⟨gX, 1, none⟩ HGL.out.1).trans HGL.out.2
                                  clear bAf
                                  refine wpOp_hidden rfl fun K hK => ?_
                                  go_wp2
                                  refine OnlyN.mk (hK.out _ _ ⟨_, true, _, _, _, _, _, _, _, _, _, _, _, _, _, _, (.slice xA acc.length xc), _, _, _, _, _, _, _, _, _, _, _, _, rfl, rfl, ⟨H.h0, fun _ => rfl, H.h2, H.h3, H.h4, H.h5, H.h6, H.h7, H.h8, H.h9, H.h10, H.h13, H.hk, H.wa, H.wb, H.wc, H.wd, H.ord2, fun _ => (by simp [hi]), H.o5, H.o6, H.o8, H.o9, H.o10, H.o11, fun h => ⟨rfl, (H.o12 h).2⟩⟩⟩)
                                · refine wpOp_hidden rfl fun K hK => ?_
                                  go_wp2
                                  refine OnlyN.mk (hK.out _ _ ⟨_, _, true, _, _, _, _, _, _, _, _, _, _, _, _, _, _, .slice (some ⟨lb, lo, none⟩) BL.length bc, _, _, _, _, _, _, _, _, _, _, _, rfl, rfl, ⟨H.h0, H.h1, fun _ => rfl, H.h3, H.h4, H.h5, H.h6, H.h7, H.h8, H.h9, H.h10, H.h13, H.hk, H.wa, H.wb, H.wc, H.wd, H.ord2, H.o1, H.o5, H.o6, H.o8, fun h => ⟨rfl, (H.o9 h).2⟩, H.o10, H.o11, H.o12⟩⟩)
                                · refine wpOp_hidden rfl fun K hK => ?_
                                  go_wp2
                                  refine OnlyN.mk (hK.out _ _ ⟨_, _, _, true, _, _, _, _, _, _, _, _, _, _, _, _, _, _, .int .i64 (cN : Int), _, _, _, _, _, _, _, _, _, _, rfl, rfl, ⟨H.h0, H.h1, H.h2, fun _ => rfl, H.h4, H.h5, H.h6, H.h7, H.h8, H.h9, H.h10, H.h13, H.hk, H.wa, H.wb, H.wc, H.wd, H.ord2, H.o1, H.o5, fun h => ⟨rfl, (H.o6 h).2⟩, H.o8, H.o9, H.o10, H.o11, H.o12⟩⟩)
                                · refine wpOp_hidden rfl fun K hK => ?_
                                  go_wp2
                                  refine OnlyN.mk (hK.out _ _ ⟨_, _, _, _, true, _, _, _, _, _, _, _, _, _, _, _, _, _, _, .pointer (some ⟨w.heap.size, 1, none⟩), _, _, _, _, _, _, _, _, _, rfl, rfl, ⟨H.h0, H.h1, H.h2, H.h3, fun _ => rfl, H.h5, H.h6, H.h7, H.h8, H.h9, H.h10, H.h13, H.hk, H.wa, H.wb, H.wc, H.wd, H.ord2, H.o1, fun h => rfl, H.o6, H.o8, H.o9, H.o10, H.o11, H.o12⟩⟩)
                                · have bAf : b12 = false := by
                                    cases hb : b12 with
                                    | false => rfl
                                    | true => exact absurd (H.o6 (H.o8 (H.o9 (H.o10 (H.o11 (H.o12 hb).2))).2).1).2 (by simp [hi])
                                  obtain rfl := H.h4 (by simp [hi])
                                  have cc := (H.hk bAf ⟨w.heap.size, 1, none⟩ HXC.out.1).trans HXC.out.2
                                  clear bAf
                                  refine wpOp_hidden rfl fun K hK => ?_
                                  go_wp2
                                  refine OnlyN.mk (hK.out _ _ ⟨_, _, _, _, _, true, _, _, _, _, _, _, _, _, _, _, _, _, _, _, .int .i64 (q : Int), _, _, _, _, _, _, _, _, rfl, rfl, ⟨H.h0, H.h1, H.h2, H.h3, H.h4, fun _ => rfl, H.h6, H.h7, H.h8, H.h9, H.h10, H.h13, H.hk, H.wa, H.wb, H.wc, H.wd, H.ord2, H.o1, fun _ => (by simp [hi]), fun h => ⟨(H.o6 h).1, rfl⟩, H.o8, H.o9, H.o10, H.o11, H.o12⟩⟩)
                                · obtain rfl := H.h3 (by simp [hi])
                                  obtain rfl := H.h5 (by simp [hi])
                                  have hma := HMA.out.1
                                  refine wpOp_hidden rfl fun K hK => ?_
                                  go_wp2
                                  refine OnlyN.mk (hK.out _ _ ⟨_, _, _, _, _, _, true, _, _, _, _, _, _, _, _, _, _, _, _, _, _, .int .i64 (m : Int), _, _, _, _, _, _, _, rfl, rfl, ⟨H.h0, H.h1, H.h2, H.h3, H.h4, H.h5, fun _ => rfl, H.h7, H.h8, H.h9, H.h10, H.h13, H.hk, H.wa, H.wb, H.wc, H.wd, H.ord2, H.o1, H.o5, fun _ => (by simp [hi]), fun h => ⟨rfl, (H.o8 h).2⟩, H.o9, H.o10, H.o11, H.o12⟩⟩)
                                · refine wpOp_hidden rfl fun K hK => ?_
                                  go_wp2
                                  refine OnlyN.mk (hK.out _ _ ⟨_, _, _, _, _, _, _, true, _, _, _, _, _, _, _, _, _, _, _, _, _, _, .int .i64 (sN : Int), _, _, _, _, _, _, rfl, rfl, ⟨H.h0, H.h1, H.h2, H.h3, H.h4, H.h5, H.h6, fun _ => rfl, H.h8, H.h9, H.h10, H.h13, H.hk, H.wa, H.wb, H.wc, H.wd, H.ord2, H.o1, H.o5, H.o6, fun h => ⟨(H.o8 h).1, rfl⟩, H.o9, H.o10, H.o11, H.o12⟩⟩)
                                · obtain rfl := H.h6 (by simp [hi])
                                  obtain rfl := H.h7 (by simp [hi])
                                  have hma := HMA.out.2.1
                                  refine wpOp_hidden rfl fun K hK => ?_
                                  go_wp2
                                  refine OnlyN.mk (hK.out _ _ ⟨_, _, _, _, _, _, _, _, true, _, _, _, _, _, _, _, _, _, _, _, _, _, _, .int .i64 (ix : Int), _, _, _, _, _, rfl, rfl, ⟨H.h0, H.h1, H.h2, H.h3, H.h4, H.h5, H.h6, H.h7, fun _ => rfl, H.h9, H.h10, H.h13, H.hk, H.wa, H.wb, H.wc, H.wd, H.ord2, H.o1, H.o5, H.o6, fun _ => (by simp [hi]), fun h => ⟨(H.o9 h).1, rfl⟩, H.o10, H.o11, H.o12⟩⟩)
                                · obtain rfl := H.h2 (by simp [hi])
                                  obtain rfl := H.h8 (by simp [hi])
                                  have hma := HMA.out.2.2
                                  refine wpOp_hidden rfl fun K hK => ?_
                                  go_wp2
                                  refine OnlyN.mk (hK.out _ _ ⟨_, _, _, _, _, _, _, _, _, true, _, _, _, _, _, _, _, _, _, _, _, _, _, _, .pointer (some ⟨lb, lo + ix, none⟩), _, _, _, _, rfl, rfl, ⟨H.h0, H.h1, H.h2, H.h3, H.h4, H.h5, H.h6, H.h7, H.h8, fun _ => rfl, H.h10, H.h13, H.hk, H.wa, H.wb, H.wc, H.wd, H.ord2, H.o1, H.o5, H.o6, H.o8, fun _ => (by simp [hi]), fun h => rfl, H.o11, H.o12⟩⟩)
                                · have bAf : b12 = false := by
                                    cases hb : b12 with
                                    | false => rfl
                                    | true => exact absurd (H.o11 (H.o12 hb).2) (by simp [hi])
                                  obtain rfl := H.h9 (by simp [hi])
                                  have cc := (H.hk bAf ⟨lb, lo + ix, none⟩ HLC.out.1).trans HLC.out.2
                                  clear bAf
                                  refine wpOp_hidden rfl fun K hK => ?_
                                  go_wp2
                                  refine OnlyN.mk (hK.out _ _ ⟨_, _, _, _, _, _, _, _, _, _, true, _, _, _, _, _, _, _, _, _, _, _, _, _, _, .int .i64 z, _, _, _, rfl, rfl, ⟨H.h0, H.h1, H.h2, H.h3, H.h4, H.h5, H.h6, H.h7, H.h8, H.h9, fun _ => rfl, H.h13, H.hk, H.wa, H.wb, H.wc, H.wd, H.ord2, H.o1, H.o5, H.o6, H.o8, H.o9, fun _ => (by simp [hi]), fun h => rfl, H.o12⟩⟩)
                                · have bAf : b12 = false := by
                                    cases hb : b12 with
                                    | false => rfl
                                    | true => exact absurd (H.o12 hb).2 (by simp [hi])
                                  obtain rfl := H.h10 (by simp [hi])
                                  have hw := H.wa (by simp [hi])
                                  have hA := bAf
                                  subst hw
                                  clear bAf
                                  refine wpOp_hidden rfl fun K hK => ?_
                                  go_wp2
                                  refine OnlyN.mk (hK.out _ _ ⟨_, _, _, _, _, _, _, _, _, _, _, true, _, _, _, _, _, _, _, _, _, _, _, _, _, _, .slice (some ⟨wr.heap.size, 0, none⟩) 1 1, _, _, rfl, rfl, ⟨H.h0, H.h1, H.h2, H.h3, H.h4, H.h5, H.h6, H.h7, H.h8, H.h9, H.h10, H.h13, fun _ p hp => World.cell?_alloc_lt wr _ p hp, fun h => (by cases h), fun _ _ => ⟨rfl, rfl⟩, fun h => absurd h (by rw [hA]; decide), fun h => absurd (H.ord2 h).1 (by rw [hA]; decide), H.ord2, H.o1, H.o5, H.o6, H.o8, H.o9, H.o10, fun _ => (by simp [hi]), fun h => ⟨(H.o12 h).1, rfl⟩⟩⟩)
                                · obtain rfl := H.h1 (by simp [hi])
                                  obtain ⟨hv, hw⟩ := H.wb (by simp [hi]) (by simp [hi])
                                  obtain ⟨Vd, hVd⟩ : ∃ Vd, Vd = World.drew wr := ⟨_, rfl⟩
                                  have hsz : wr.heap.size = Vd.heap.size := by rw [hVd]; rfl
                                  rw [← hVd] at hw
                                  rw [hsz] at hv
                                  subst hw
                                  subst hv
                                  have hown : OwnIA Vd Wi.heap.size (.slice xA acc.length xc) acc := by rw [hVd]; exact HNX.out.R
                                  have hal := HAL.out
                                  have hws : Wi.heap.size ≤ Vd.heap.size := by rw [← hsz]; exact HNX.out.below.size
                                  have HVD := Lib.hid hVd
                                  clear hVd hsz
                                  refine wpOp_hidden rfl fun K hK => ?_
                                  refine wpList_pushIk rfl _ _ _ rfl Wi.heap.size 3 Tryz.underlying28 Tryz.infoInt _ _ rfl hown _ rfl hal hws ?_
                                  intro xv' w6 ho6 hk6 hm6
                                  obtain ⟨xA', xc', hxv', -, -⟩ := ho6.ints
                                  rw [List.length_append, List.length_singleton] at hxv'
                                  subst hxv'
                                  have HO6 := Lib.hid ho6
                                  have HK6 : Hid (Kept (fun g => Value.ownBlock (.slice xA acc.length xc) = some g) wr w6) := Lib.hid (Kept.trans (by rw [HVD.out]; exact (Kept.refl _ wr).drew) hk6)
                                  clear ho6 hk6 hm6 hown hal hws
                                  go_wp2
                                  refine OnlyN.mk (hK.out _ _ ⟨_, _, _, _, _, _, _, _, _, _, _, _, true, _, _, _, _, _, _, _, _, _, _, _, _, _, _, .slice xA' (acc.length + 1) xc', _, rfl, rfl, ⟨H.h0, H.h1, H.h2, H.h3, H.h4, H.h5, H.h6, H.h7, H.h8, H.h9, H.h10, H.h13, fun h => (by cases h), fun h => absurd h (by simp [hi]), fun _ h => (by cases h), fun _ _ => ⟨_, _, rfl, HO6.out, HK6.out⟩, fun h => absurd (H.ord2 h).1 (by simp [hi]), fun h => ⟨rfl, (H.ord2 h).2⟩, H.o1, H.o5, H.o6, H.o8, H.o9, H.o10, H.o11, fun _ => (by simp [hi])⟩⟩)
                                · refine wpOp_hidden rfl fun K hK => ?_
                                  go_wp2
                                  refine OnlyN.mk (hK.out _ _ ⟨_, _, _, _, _, _, _, _, _, _, _, _, _, true, _, _, _, _, _, _, _, _, _, _, _, _, _, _, .pointer (some ⟨gX, 1, none⟩), rfl, rfl, ⟨H.h0, H.h1, H.h2, H.h3, H.h4, H.h5, H.h6, H.h7, H.h8, H.h9, H.h10, fun _ => rfl, H.hk, H.wa, H.wb, H.wc, H.wd, fun h => ⟨(H.ord2 h).1, rfl⟩, H.o1, H.o5, H.o6, H.o8, H.o9, H.o10, H.o11, H.o12⟩⟩)
                                · obtain rfl := H.h13 (by simp [hi])
                                  obtain ⟨xA', xc', hv, ho6, hk6⟩ := H.wc (by simp [hi]) (by simp [hi])
                                  subst hv
                                  have hG6 := hk6.blk HNX.out.G (own_blk_ne' HNX.out.R HNX.out.G (by decide))
                                  have cx6 := hG6.cell_ 1 (.slice xA acc.length xc) rfl
                                  have fx6 := hG6.frozen 1
                                  have HN6 := Lib.hid (HNX.out.push ho6 hk6)
                                  clear ho6 hk6 hG6
                                  refine wpOp_hidden rfl fun K hK => ?_
                                  go_wp2
                                  refine OnlyN.mk (hK.out _ _ ⟨_, _, _, _, _, _, _, _, _, _, _, _, _, _, true, _, _, _, _, _, _, _, _, _, _, _, _, _, _, rfl, rfl, ⟨H.h0, H.h1, H.h2, H.h3, H.h4, H.h5, H.h6, H.h7, H.h8, H.h9, H.h10, H.h13, fun h => absurd h (by simp [hi]), fun h => absurd h (by simp [hi]), fun _ h => absurd h (by simp [hi]), fun _ h => (by cases h), fun _ => ⟨_, HN6.out⟩, fun _ => (by simp [hi]), H.o1, H.o5, H.o6, H.o8, H.o9, H.o10, H.o11, H.o12⟩⟩)
                              · rintro listed act w' hr ⟨b0, b1, b2, b3, b4, b5, b6, b7, b8, b9, b10, b11, b12, b13, b14, v77, v78, v79, v80, v81, v82, v83, v84, v85, v86, v87, v88, v89, v90, rfl, rfl, H⟩
                                have hn := List.eq_nil_iff_forall_not_mem.1 hr
                                have r0 := hn 0
                                simp [mem_ready, Region.binds] at r0
                                subst r0
                                have r1 := hn 1
                                simp [mem_ready, Region.binds] at r1
                                subst r1
                                have r2 := hn 2
                                simp [mem_ready, Region.binds] at r2
                                subst r2
                                have r3 := hn 3
                                simp [mem_ready, Region.binds] at r3
                                subst r3
                                have r4 := hn 4
                                simp [mem_ready, Region.binds] at r4
                                subst r4
                                have r5 := hn 5
                                simp [mem_ready, Region.binds] at r5
                                subst r5
                                have r6 := hn 6
                                simp [mem_ready, Region.binds] at r6
                                subst r6
                                have r7 := hn 7
                                simp [mem_ready, Region.binds] at r7
                                subst r7
                                have r8 := hn 8
                                simp [mem_ready, Region.binds] at r8
                                subst r8
                                have r9 := hn 9
                                simp [mem_ready, Region.binds] at r9
                                subst r9
                                have r10 := hn 10
                                simp [mem_ready, Region.binds] at r10
                                subst r10
                                have r11 := hn 11
                                simp [mem_ready, Region.binds] at r11
                                subst r11
                                have r12 := hn 12
                                simp [mem_ready, Region.binds] at r12
                                subst r12
                                have r13 := hn 13
                                simp [mem_ready, Region.binds] at r13
                                subst r13
                                have r14 := hn 14
                                simp [mem_ready, Region.binds] at r14
                                subst r14
                                try dsimp only
                                obtain ⟨xv2, hn2⟩ := H.wd rfl
                                rw [← HSN2.out] at hn2
                                have HN7 := Lib.hid hn2
                                clear H hr hn hn2
                                go_wp2
                                go_roundw
                                case rel => exact ⟨vN + 1, xv2, HZL.out, (by first | rfl | (rw [hwz]; rfl)), HN7⟩
                                case measure => (try rw [hwz]); exact meas_step HZL.out
                        · obtain rfl : q = vN := Nat.le_antisymm (Nat.le_of_not_lt hvl) hvN
                          have hlt : (nodL q cc BL i cN sN).take q = nodL q cc BL i cN sN := List.take_of_length_le (Nat.le_of_eq (nodL_len _ _ _ _))
                          rw [hlt] at HNX
                          obtain ⟨ns, hns⟩ : ∃ ns, ns = lvNd q cc NS BL k i (cN * q + sN) := ⟨_, rfl⟩
                          obtain ⟨ks, hks⟩ : ∃ ks, ks = lvKs NS (cN * q + sN) := ⟨_, rfl⟩
                          rw [← hns, ← hks] at HR
                          have HMID : Hid (lvNd q cc NS BL k i (cN * q + (sN + 1)) = ns ++ [((L : Int), nodL q cc BL i cN sN)] ∧ lvKs NS (cN * q + (sN + 1)) = ks ++ [(ns.length : Int)]) := Lib.hid ⟨by
                            rw [hns, show cN * q + (sN + 1) = cN * q + sN + 1 from rfl, lvNd_push HSL.out, HL.out], by
                            rw [hks, hns, lvNd_len, show cN * q + (sN + 1) = cN * q + sN + 1 from rfl, lvKs_push]⟩
                          have h88 := (mul_88 HCL.out HI9.out HK.out.2.1).1
                          have hsz : ns.length ≤ 800 := by rw [hns, lvNd_len]; exact n_small HNSL.out h88 HSL.out HK.out.2.1
                          have hks8 : ks.length ≤ 800 := by rw [hks, lvKs_len]; exact k_small h88 HSL.out HK.out.2.1
                          have hosl : os.length = ns.length := by rw [← HR.out.eq, List.length_map]
                          have hos : os.length < 1000000000000 := small_lt (hosl ▸ hsz)
                          have hksl : ks.length < 1000000000000 := small_lt hks8
                          have hRw := HR.out.ext HNX.out.below
                          obtain ⟨nA, nc, env, -, -⟩ := hRw.own.nds
                          subst env
                          obtain ⟨xA, xc, exv, -, -⟩ := HNX.out.R.ints
                          subst exv
                          have HN : Hid (os.length = ns.length) := Lib.hid hosl
                          have hc2 := hRw.blk.cell_ 2 _ rfl
                          have hown := hRw.kr
                          have hwsz : v1.heap.size ≤ wr.heap.size := Nat.le_trans HBR.out.size HNX.out.below.size
                          have HRw := Lib.hid hRw
                          have HOS := Lib.hid hos
                          have hos9 : os.length ≤ 9223372036854775807 := small_9 hos
                          clear hlt hns hks hsz hks8 h88 hosl hRw hvN hvl hos hwz
                          go_wp2_with (at_builtin; refine wpList_pushIk rfl _ _ _ rfl v1.heap.size 3 Tryz.underlying28 Tryz.infoInt _ _ rfl hown _ rfl hksl hwsz ?_)
                          intro kv' w5 ho5 hk5 hn5
                          have HR5 := Lib.hid (HRw.out.pushK ho5 hk5 hn5)
                          have G5 := hk5.blk HNX.out.G (own_blk_ne' HRw.out.kr HNX.out.G (by decide))
                          have R5 : OwnIA w5 v1.heap.size (.slice xA (nodL q cc BL i cN sN).length xc) (nodL q cc BL i cN sN) := hk5.own (own_down HNX.out.R HBR.out.size) (fun g e1 e2 => by have h1 := (own_lt' HNX.out.R e1).2; have h2 := (own_lt' HR.out.kr e2).1; omega)
                          have HG5 := Lib.hid G5
                          have HRR5 := Lib.hid R5
                          have hown7 := HR5.out.own
                          have hos := HOS.out
                          have hws5 : v1.heap.size ≤ w5.heap.size := Nat.le_trans hwsz hk5.below.size
                          have hp2 := HR5.out.blk.cell_ 2 _ rfl
                          have hpf := HR5.out.blk.frozen 2
                          have hg0 := G5.cell_ 0 _ rfl
                          have hg1 := G5.cell_ 1 _ rfl
                          have HWR5 : Hid (Below v1.heap.size v1 w5) := Lib.hid ((HBR.out.trans (HNX.out.below.mono HBR.out.size)).trans (hk5.to_below hwsz (fun g hg e => by have h1 := (own_lt' HRw.out.kr e).2; omega)))
                          have HXX : Hid ((∀ g, (Value.slice bA BL.length bc).ownBlock = some g → (Value.slice xA (nodL q cc BL i cN sN).length xc).ownBlock ≠ some g) ∧ (∀ g, kv'.ownBlock = some g → (Value.slice xA (nodL q cc BL i cN sN).length xc).ownBlock ≠ some g)) := Lib.hid ⟨fun g e1 e2 => by have h1 := (own_lt' HNX.out.R e2).2; have h2 := (own_lt' HR.out.rr e1).1; omega, fun g e1 e2 => by
                            have h1 := (own_lt' HNX.out.R e2)
                            rcases hn5 with hn | ⟨g', hg, hs⟩
                            · rw [hn] at e1; have h2 := (own_lt' HR.out.kr e1).1; omega
                            · rw [hg] at e1; injection e1 with e1; omega⟩
                          clear hown ho5 hk5 hn5 G5 hksl hwsz hc2 c1
                          go_wp2_with (at_builtin; refine wpList_pushN rfl _ _ _ rfl v1.heap.size 42 3 (by decide) Tryz.underlying23 Tryz.infoNode _ _ rfl hown7 _ _ _ _ R5 rfl hos hws5 ?_)
                          intro nv' w7 ho7 hk7 hn7
                          obtain ⟨nA7, nc7, env7, -, -⟩ := ho7.nds
                          rw [List.length_append, List.length_singleton] at env7
                          subst env7
                          have b7 := hk7.blk HR5.out.blk (own_blk_ne' HR5.out.own.1 HR5.out.blk (by decide))
                          have hp2' := b7.cell_ 2 _ rfl
                          have hpf' := b7.frozen 2
                          have hRN := HR5.out.node (x := ⟨(L : Int), xA, xc, nodL q cc BL i cN sN⟩) HRR5.out ho7 hk7 HXX.out.1 HXX.out.2
                          have HW7 : Hid (Below v1.heap.size v1 (w7.setCell ⟨p, 2, none⟩ (.slice nA7 (os.length + 1) nc7))) := Lib.hid ((HWR5.out.trans (hk7.to_below hws5 (fun g hg e => by have h1 := (own_lt' HR5.out.own.1 e).2; omega))).setCell (p := ⟨p, 2, none⟩) (by rw [HP.out]; exact Nat.le_refl _) _)
                          have HRN := Lib.hid hRN
                          clear hown7 hos hws5 hp2 hpf hg0 hg1 R5 ho7 hk7 hn7 b7 hRN
                          go_wp2
                          go_roundw
                          case rel => exact ⟨sN + 1, _, _, HSL.out, (by first | rfl | (rw [hws]; rfl)), Lib.hid (by rw [HMID.out.1, HMID.out.2, ← HN.out]; exact HRN.out), HW7⟩
                          case measure => (try rw [hws]); exact meas_step HSL.out
                    · obtain rfl : q = sN := Nat.le_antisymm (Nat.le_of_not_lt hsl) hsN
                      clear hsl hsN hws
                      go_wp2
                      go_roundw
                      case rel => exact ⟨cN + 1, _, os, Nat.succ_le_succ HCL.out, (by first | rfl | (rw [hwc]; rfl)), Lib.hid (by rw [Nat.succ_mul]; exact HR.out), HBR⟩
                      case measure => (try rw [hwc]); exact meas_step (Nat.lt_succ_of_le HCL.out)
                · have HCN : Hid (cN = i + 1) := Lib.hid (by omega)
                  have hdc : decide ((cN : Int) ≤ (i : Int)) = false := dec_nle hcl
                  have hdc2 : decide (cN ≤ i) = false := decide_eq_false hcl
                  clear hcN hcl hwc
                  go_wp2
                  go_roundw
                  case rel => exact ⟨k + 1, nv, os, by have := HI.out.1; omega, (by first | (congr 1; have := HI.out.2; omega) | (rw [HWI.out]; congr 1; have := HI.out.2; omega)), Lib.hid (by
                    have h := HR.out.dropR.swap
                    rw [HCN.out] at h
                    have e1 : (levT n q cc (gT x) (k + 1)).1 = lvNd q cc NS BL k i ((i + 1) * q) := by
                      show lvNd q cc (levT n q cc (gT x) k).1 (levT n q cc (gT x) k).2 k (n - 1 - k) ((n - k) * q) = _
                      rw [← HNB.out.1, ← HNB.out.2, show n - 1 - k = i by have := HI.out.1; omega, show n - k = i + 1 by have := HI.out.1; omega]
                    have e2 : (levT n q cc (gT x) (k + 1)).2 = lvKs NS ((i + 1) * q) := by
                      show lvKs (levT n q cc (gT x) k).1 ((n - k) * q) = _
                      rw [← HNB.out.1, show n - k = i + 1 by have := HI.out.1; omega]
                    rw [e1, e2]
                    exact h), HBR⟩
                  case measure => (try rw [HWI.out]); simp only [intOf]; omega
            · have HKN : Hid (k = n) := Lib.hid (by omega)
              have hdi : decide ((k : Int) ≤ (n : Int) - 1) = false := decide_eq_false (by omega)
              clear hk hkl
              obtain ⟨m, hm⟩ : ∃ m, m = (levT n q cc (gT x) (n - 1)).1.length := ⟨_, rfl⟩
              have hroot := root_take (n := n) (q := q) (cc := cc) (g := gT x) HK.out.2.2.1 (Nat.lt_of_lt_of_le (by decide) HK.out.1)
              rw [← hm] at hroot
              have hm8 : m ≤ 648 := by rw [hm]; exact lev_small HK.out.2.2.2.1 HK.out.2.1 HK.out.2.2.1
              have hR := HR.out
              rw [HKN.out] at hR
              obtain ⟨NS, hNS⟩ : ∃ NS, NS = (levT n q cc (gT x) n).1 := ⟨_, rfl⟩
              obtain ⟨BL, hBL⟩ : ∃ BL, BL = (levT n q cc (gT x) n).2 := ⟨_, rfl⟩
              rw [← hNS, ← hBL] at hR hroot
              obtain ⟨hr1, hr2, hr3, hr4⟩ := hroot
              have hosl : os.length = NS.length := by rw [← hR.eq, List.length_map]
              obtain ⟨gN, nc, env, hnc⟩ := own_cap hR.own.1 (by rw [hosl]; exact Nat.lt_of_lt_of_le (Nat.succ_pos m) hr4)
              subst env
              obtain ⟨bA, bc, e7, hbi, -⟩ := hR.rr.ints
              subst e7
              obtain ⟨lb, lo, eA, hlb, hlc⟩ := hbi.at_ hr3
              subst eA
              have hg0 : BL[0]'hr3 = (m : Int) := by rw [← hr2, List.getD_eq_getElem?_getD, List.getElem?_eq_getElem hr3]; rfl
              rw [hg0, Nat.add_zero] at hlc
              have HRR := Lib.hid hR
              have HM := Lib.hid (And.intro hr1 (And.intro hosl hr4))
              have HM8 := Lib.hid hm8
              have hmc : m + 1 ≤ nc := Nat.le_trans hr4 (by rw [← hosl]; exact hnc)
              have hmo : m + 1 ≤ os.length := by rw [hosl]; exact hr4
              have HMC := Lib.hid (And.intro hmc hmo)
              have HLC : Hid (wr.cell? ⟨lb, lo, none⟩ = some (.int .i64 (m : Int))) := Lib.hid hlc
              have HPC : Hid (wr.cell? ⟨p, 2, none⟩ = some (.slice (some ⟨gN, 0, none⟩) os.length nc) ∧ wr.frozen? ⟨p, 2, none⟩ = false) := Lib.hid ⟨hR.blk.cell_ 2 _ rfl, hR.blk.frozen 2⟩
              have HB0L := Lib.hid hr3
              clear hm hm8 hR hNS hBL hr1 hr2 hr3 hr4 hosl hnc hbi hlb hlc hg0 hmc hmo HR
              go_upto_region 35 with fail
              refine wp_region_J (by kernel_rfl) (fun listed act w' => ∃ b0 b1 b2 b3 b4 b5 b6 b7 b8 v140 v141 v142 v143 v144 v145 v146 v147, listed = #[b0, b1, b2, b3, b4, b5, b6, b7, b8] ∧ act = Act.mk #[.agg #[.slice A n a, .int .i64 ↑q, .slice B x.birth.length b, .slice C x.survive.length c], .pointer (some ⟨w.heap.size, 0, none⟩), .pointer (some ⟨w.heap.size + 1, 0, none⟩), .int .i64 0, .int .i64 ↑n, .int .i64 ↑cc, .pointer (some ⟨p, 0, none⟩), .slice (some ⟨lb, lo, none⟩) BL.length bc, .int .i64 ↑cB, u9, .int .i64 (↑n - 1 - ↑k), u11, u12, u13, u14, u15, .agg #[.slice A n a, .int .i64 ↑q, .slice B x.birth.length b, .slice C x.survive.length c], .bool true, .bool false, undef, v20, v21, v22, v23, v24, v25, v26, .pointer (some ⟨w.heap.size, 1, none⟩), .int .i64 ↑q, .pointer (some ⟨w.heap.size, 0, none⟩), .slice A n a, .agg #[.int .i64 ↑q, .slice A n a, .slice none 0 0], .int .i64 ↑cB, .int .i64 ↑n, .bool false, u35, u36, u37, u38, u39, u40, u41, u42, u43, u44, u45, u46, u47, u48, u49, .int .i64 ↑n, .int .i64 (↑n - 1), .int .i64 (↑n - 1 - ↑k), .bool false, u54, u55, u56, u57, u58, u59, u60, u61, u62, u63, u64, u65, u66, u67, u68, u69, u70, u71, u72, u73, u74, u75, u76, u77, u78, u79, u80, u81, u82, u83, u84, u85, u86, u87, u88, u89, u90, u91, u92, u93, u94, u95, u96, u97, u98, u99, u100, u101, u102, u103, u104, u105, u106, u107, u108, u109, u110, u111, u112, u113, u114, u115, u116, u117, u118, u119, u120, u121, u122, u123, u124, u125, u126, u127, u128, u129, u130, u131, u132, u133, u134, u135, u136, u137, u138, u139, v140, v141, v142, v143, v144, v145, v146, v147, undef, undef] [] ∧ Rt35J wr p gN os.length nc (.slice (some ⟨lb, lo, none⟩) BL.length bc) lb lo m b0 b1 b2 b3 b4 b5 b6 b7 b8 v140 v141 v142 v143 v144 v145 v146 v147 w') ?_ ?_ ?_
              · exact ⟨_, _, _, _, _, _, _, _, _, _, _, _, _, _, _, _, _, rfl, rfl, ⟨(by simp), (by simp), (by simp), (by simp), (by simp), (by simp), (by simp), (by simp), (fun _ _ => rfl), (fun _ => rfl), (by simp), (by simp)⟩⟩
              · rintro i listed act w' hi ⟨b0, b1, b2, b3, b4, b5, b6, b7, b8, v140, v141, v142, v143, v144, v145, v146, v147, rfl, rfl, H⟩
                have hi16 : i < 9 := by
                  obtain ⟨-, o, ho, -⟩ := mem_ready.1 hi
                  exact (Array.getElem?_eq_some_iff.1 ho).1
                obtain rfl | rfl | rfl | rfl | rfl | rfl | rfl | rfl | rfl : i = 0 ∨ i = 1 ∨ i = 2 ∨ i = 3 ∨ i = 4 ∨ i = 5 ∨ i = 6 ∨ i = 7 ∨ i = 8 := by omega
                all_goals simp [mem_ready, Region.binds] at hi
                · have b8f : b8 = false := by
                    cases hb : b8 with
                    | false => rfl
                    | true => exact absurd (H.ord8 hb).1 (by simp [hi])
                  clear b8f
                  refine wpOp_hidden rfl fun K hK => ?_
                  go_wp2
                  refine OnlyN.mk (hK.out _ _ ⟨true, _, _, _, _, _, _, _, _, .pointer (some ⟨p, 2, none⟩), _, _, _, _, _, _, _, rfl, rfl, ⟨fun _ => rfl, H.h1, H.h2, H.h3, H.h4, H.h5, H.h6, H.h7, H.hk, H.wa, H.wd, fun h => ⟨rfl, (H.ord8 h).2.1, (H.ord8 h).2.2.1, (H.ord8 h).2.2.2.1, (H.ord8 h).2.2.2.2.1, (H.ord8 h).2.2.2.2.2.1, (H.ord8 h).2.2.2.2.2.2.1, (H.ord8 h).2.2.2.2.2.2.2⟩⟩⟩)
                · have b8f : b8 = false := by
                    cases hb : b8 with
                    | false => rfl
                    | true => exact absurd (H.ord8 hb).2.1 (by simp [hi])
                  obtain rfl := H.h0 (by simp [hi])
                  have cc := (H.hk b8f ⟨p, 2, none⟩).trans HPC.out.1
                  clear b8f
                  refine wpOp_hidden rfl fun K hK => ?_
                  go_wp2
                  refine OnlyN.mk (hK.out _ _ ⟨_, true, _, _, _, _, _, _, _, _, .slice (some ⟨gN, 0, none⟩) os.length nc, _, _, _, _, _, _, rfl, rfl, ⟨H.h0, fun _ => rfl, H.h2, H.h3, H.h4, H.h5, H.h6, H.h7, H.hk, H.wa, H.wd, fun h => ⟨(H.ord8 h).1, rfl, (H.ord8 h).2.2.1, (H.ord8 h).2.2.2.1, (H.ord8 h).2.2.2.2.1, (H.ord8 h).2.2.2.2.2.1, (H.ord8 h).2.2.2.2.2.2.1, (H.ord8 h).2.2.2.2.2.2.2⟩⟩⟩)
                · have b8f : b8 = false := by
                    cases hb : b8 with
                    | false => rfl
                    | true => exact absurd (H.ord8 hb).2.2.1 (by simp [hi])
                  clear b8f
                  refine wpOp_hidden rfl fun K hK => ?_
                  go_wp2
                  refine OnlyN.mk (hK.out _ _ ⟨_, _, true, _, _, _, _, _, _, _, _, .slice (some ⟨lb, lo, none⟩) BL.length bc, _, _, _, _, _, rfl, rfl, ⟨H.h0, H.h1, fun _ => rfl, H.h3, H.h4, H.h5, H.h6, H.h7, H.hk, H.wa, H.wd, fun h => ⟨(H.ord8 h).1, (H.ord8 h).2.1, rfl, (H.ord8 h).2.2.2.1, (H.ord8 h).2.2.2.2.1, (H.ord8 h).2.2.2.2.2.1, (H.ord8 h).2.2.2.2.2.2.1, (H.ord8 h).2.2.2.2.2.2.2⟩⟩⟩)
                · have b8f : b8 = false := by
                    cases hb : b8 with
                    | false => rfl
                    | true => exact absurd (H.ord8 hb).2.2.2.1 (by simp [hi])
                  obtain rfl := H.h2 (by simp [hi])
                  have hbl := HB0L.out
                  clear b8f
                  refine wpOp_hidden rfl fun K hK => ?_
                  go_wp2
                  refine OnlyN.mk (hK.out _ _ ⟨_, _, _, true, _, _, _, _, _, _, _, _, .pointer (some ⟨lb, lo, none⟩), _, _, _, _, rfl, rfl, ⟨H.h0, H.h1, H.h2, fun _ => rfl, H.h4, H.h5, H.h6, H.h7, H.hk, H.wa, H.wd, fun h => ⟨(H.ord8 h).1, (H.ord8 h).2.1, (H.ord8 h).2.2.1, rfl, (H.ord8 h).2.2.2.2.1, (H.ord8 h).2.2.2.2.2.1, (H.ord8 h).2.2.2.2.2.2.1, (H.ord8 h).2.2.2.2.2.2.2⟩⟩⟩)
                · have b8f : b8 = false := by
                    cases hb : b8 with
                    | false => rfl
                    | true => exact absurd (H.ord8 hb).2.2.2.2.1 (by simp [hi])
                  obtain rfl := H.h3 (by simp [hi])
                  have cc := (H.hk b8f ⟨lb, lo, none⟩).trans HLC.out
                  clear b8f
                  refine wpOp_hidden rfl fun K hK => ?_
                  go_wp2
                  refine OnlyN.mk (hK.out _ _ ⟨_, _, _, _, true, _, _, _, _, _, _, _, _, .int .i64 (m : Int), _, _, _, rfl, rfl, ⟨H.h0, H.h1, H.h2, H.h3, fun _ => rfl, H.h5, H.h6, H.h7, H.hk, H.wa, H.wd, fun h => ⟨(H.ord8 h).1, (H.ord8 h).2.1, (H.ord8 h).2.2.1, (H.ord8 h).2.2.2.1, rfl, (H.ord8 h).2.2.2.2.2.1, (H.ord8 h).2.2.2.2.2.2.1, (H.ord8 h).2.2.2.2.2.2.2⟩⟩⟩)
                · have b8f : b8 = false := by
                    cases hb : b8 with
                    | false => rfl
                    | true => exact absurd (H.ord8 hb).2.2.2.2.2.1 (by simp [hi])
                  obtain rfl := H.h4 (by simp [hi])
                  have hm8 := HM8.out
                  have hma := wrap_m1 hm8
                  clear b8f
                  refine wpOp_hidden rfl fun K hK => ?_
                  go_wp2
                  refine OnlyN.mk (hK.out _ _ ⟨_, _, _, _, _, true, _, _, _, _, _, _, _, _, .int .i64 ((m : Int) + 1), _, _, rfl, rfl, ⟨H.h0, H.h1, H.h2, H.h3, H.h4, fun _ => rfl, H.h6, H.h7, H.hk, H.wa, H.wd, fun h => ⟨(H.ord8 h).1, (H.ord8 h).2.1, (H.ord8 h).2.2.1, (H.ord8 h).2.2.2.1, (H.ord8 h).2.2.2.2.1, rfl, (H.ord8 h).2.2.2.2.2.2.1, (H.ord8 h).2.2.2.2.2.2.2⟩⟩⟩)
                · have b8f : b8 = false := by
                    cases hb : b8 with
                    | false => rfl
                    | true => exact absurd (H.ord8 hb).2.2.2.2.2.2.1 (by simp [hi])
                  obtain rfl := H.h1 (by simp [hi])
                  obtain rfl := H.h5 (by simp [hi])
                  have hmc := HMC.out.1
                  have hma := toNat_m1 m
                  have hmx := HMC.out.2
                  clear b8f
                  refine wpOp_hidden rfl fun K hK => ?_
                  go_wp2
                  refine OnlyN.mk (hK.out _ _ ⟨_, _, _, _, _, _, true, _, _, _, _, _, _, _, _, .slice (some ⟨gN, 0, none⟩) (m + 1) nc, _, rfl, rfl, ⟨H.h0, H.h1, H.h2, H.h3, H.h4, H.h5, fun _ => rfl, H.h7, H.hk, H.wa, H.wd, fun h => ⟨(H.ord8 h).1, (H.ord8 h).2.1, (H.ord8 h).2.2.1, (H.ord8 h).2.2.2.1, (H.ord8 h).2.2.2.2.1, (H.ord8 h).2.2.2.2.2.1, rfl, (H.ord8 h).2.2.2.2.2.2.2⟩⟩⟩)
                · have b8f : b8 = false := by
                    cases hb : b8 with
                    | false => rfl
                    | true => exact absurd (H.ord8 hb).2.2.2.2.2.2.2 (by simp [hi])
                  clear b8f
                  refine wpOp_hidden rfl fun K hK => ?_
                  go_wp2
                  refine OnlyN.mk (hK.out _ _ ⟨_, _, _, _, _, _, _, true, _, _, _, _, _, _, _, _, .pointer (some ⟨p, 2, none⟩), rfl, rfl, ⟨H.h0, H.h1, H.h2, H.h3, H.h4, H.h5, H.h6, fun _ => rfl, H.hk, H.wa, H.wd, fun h => ⟨(H.ord8 h).1, (H.ord8 h).2.1, (H.ord8 h).2.2.1, (H.ord8 h).2.2.2.1, (H.ord8 h).2.2.2.2.1, (H.ord8 h).2.2.2.2.2.1, (H.ord8 h).2.2.2.2.2.2.1, rfl⟩⟩⟩)
                · obtain rfl := H.h6 (by simp [hi])
                  obtain rfl := H.h7 (by simp [hi])
                  have hw := H.wa (by simp [hi])
                  subst hw
                  have cc : (World.drew wr).cell? ⟨p, 2, none⟩ = some (.slice (some ⟨gN, 0, none⟩) os.length nc) := HPC.out.1
                  have cf : (World.drew wr).frozen? ⟨p, 2, none⟩ = false := HPC.out.2
                  refine wpOp_hidden rfl fun K hK => ?_
                  go_wp2
                  refine OnlyN.mk (hK.out _ _ ⟨_, _, _, _, _, _, _, _, true, _, _, _, _, _, _, _, _, rfl, rfl, ⟨H.h0, H.h1, H.h2, H.h3, H.h4, H.h5, H.h6, H.h7, fun h => (by cases h), fun h => (by cases h), fun _ => rfl, fun _ => (by simp [hi])⟩⟩)
              · rintro listed act w' hr ⟨b0, b1, b2, b3, b4, b5, b6, b7, b8, v140, v141, v142, v143, v144, v145, v146, v147, rfl, rfl, H⟩
                have hn := List.eq_nil_iff_forall_not_mem.1 hr
                have r0 := hn 0
                simp [mem_ready, Region.binds] at r0
                subst r0
                have r1 := hn 1
                simp [mem_ready, Region.binds] at r1
                subst r1
                have r2 := hn 2
                simp [mem_ready, Region.binds] at r2
                subst r2
                have r3 := hn 3
                simp [mem_ready, Region.binds] at r3
                subst r3
                have r4 := hn 4
                simp [mem_ready, Region.binds] at r4
                subst r4
                have r5 := hn 5
                simp [mem_ready, Region.binds] at r5
                subst r5
                have r6 := hn 6
                simp [mem_ready, Region.binds] at r6
                subst r6
                have r7 := hn 7
                simp [mem_ready, Region.binds] at r7
                subst r7
                have r8 := hn 8
                simp [mem_ready, Region.binds] at r8
                subst r8
                try dsimp only
                obtain ⟨w8, rfl⟩ : ∃ w8 : World, w8 = w' := ⟨_, rfl⟩
                have hwd := H.wd rfl
                have hb8 : Below v1.heap.size v1 w8 := by rw [hwd]; exact (HBR.out.drew).setCell (p := ⟨p, 2, none⟩) (by rw [HP.out]; exact Nat.le_refl _) _
                have hblk : Blk w8 p 25 #[.int .i64 (q : Int), .slice A n a, .slice (some ⟨gN, 0, none⟩) (m + 1) nc] := by rw [hwd]; exact (HRR.out.blk.drew).set_ 2 _
                have hk : Kept (fun g => g = p) wr w8 := by rw [hwd]; exact ((Kept.refl (fun g => g = p) wr).drew).setCell (p := ⟨p, 2, none⟩) (Or.inl rfl) _
                have hno : OwnNA w8 v1.heap.size (.slice (some ⟨gN, 0, none⟩) os.length nc) os := OwnN.kept HRR.out.own hk (fun g e1 e2 => by subst e2; exact own_blk_ne' HRR.out.own.1 HRR.out.blk (by decide) e1) (fun y hy g e1 e2 => by subst e2; exact own_blk_ne' (HRR.out.own.2 y hy) HRR.out.blk (by decide) e1)
                have hbw8 : Below w.heap.size w w8 := HB0.out.trans ((HB2.out.trans (hb8.mono HB2.out.size)).mono HB0.out.size)
                have htl : (os.take (m + 1)).length = m + 1 := by rw [List.length_take]; exact Nat.min_eq_left HMC.out.2
                have hred := rreduce_own (q : Int) A a x.hood (some ⟨gN, 0, none⟩) nc (os.take (m + 1)) w8 (HTW.out.hood.ext hbw8) (Nds.take (OwnN.reads hno) (m + 1))
                rw [htl, List.map_take, HRR.out.eq, HM.out.1, HRED.out.1, ← HQN.out.2] at hred
                obtain ⟨t, ht⟩ : ∃ t, t = (totT x).1 := ⟨_, rfl⟩
                rw [← ht] at hred
                have HTT : Hid (totT x = (t, 0)) := Lib.hid (Prod.ext ht.symm HRED.out.2.1)
                have HTP : Hid (t.ps = x.hood) := Lib.hid (by rw [ht]; exact HPS.out)
                have HCALL := Lib.hid hred
                have c0 := hblk.cell_ 0 _ rfl
                have c1 := hblk.cell_ 1 _ rfl
                have c2 := hblk.cell_ 2 _ rfl
                have HB8 := Lib.hid hb8
                have HBW8 := Lib.hid hbw8
                have hp2 := HPC
                clear H hr hn hwd hb8 hblk hk hno hbw8 htl hred ht hp2 hwn hdi hn9
                go_upto_region 36 with fail
                go_wp2_with (go_at_call 12; refine HCALL.out.mono ?_; intro e w9 hx; obtain ⟨A9, c9, nv9, os9, rfl, hA9, hp9, ho9, he9, hb9⟩ := hx; refine Hid.out ?_)
                refine Lib.hid ?_
                obtain ⟨B9, d9, env9, hn9, -⟩ := ho9.nds
                subst env9
                have hb19 : Below v1.heap.size v1 w9 := HB8.out.trans (hb9.mono HB8.out.size)
                have HQ9 := Lib.hid (HQ1.out.below hb19 HQ1.out.lt)
                have d0 := HQ9.out.cell_ 0 (.int .i64 0) rfl
                have d1 := HQ9.out.cell_ 1 (.slice none 0 0) rfl
                have d2 := HQ9.out.cell_ 2 (.slice none 0 0) rfl
                have g0 := HQ9.out.frozen 0
                have g1 := HQ9.out.frozen 1
                have g2 := HQ9.out.frozen 2
                have HB9 := Lib.hid (HBW8.out.trans (hb9.mono HBW8.out.size))
                have hA : A9 = A := by
                  rcases hA9 with h | h
                  · exact h
                  · rw [HTP.out] at h; exact absurd h HRED.out.2.2
                subst hA
                have HPT := Lib.hid hp9
                have HP0W : Hid (Pts w A9 t.ps) := Lib.hid (by rw [HTP.out]; exact HTW.out.hood)
                have HOW := Lib.hid (And.intro ho9 he9)
                have hps9 : t.ps.length ≤ 9223372036854775807 := hp9.le
                have hos9 : os9.length ≤ 9223372036854775807 := hn9.le
                have HS8 : Hid (w.heap.size + 1 < w8.heap.size) := Lib.hid (Nat.lt_of_lt_of_le HQ1.out.lt HB8.out.size)
                clear c0 c1 c2 hA9 hp9 ho9 he9 hn9 hb9 hb19 HCALL
                go_wp2
                have hq : Blk (((w9.setCell ⟨w.heap.size + 1, 0, none⟩ (.int .i64 t.st)).setCell ⟨w.heap.size + 1, 1, none⟩ (.slice A9 t.ps.length c9)).setCell ⟨w.heap.size + 1, 2, none⟩ (.slice B9 os9.length d9)) (w.heap.size + 1) 25 #[.int .i64 t.st, .slice A9 t.ps.length c9, .slice B9 os9.length d9] := ((HQ9.out.set_ 0 (.int .i64 t.st)).set_ 1 (.slice A9 t.ps.length c9)).set_ 2 (.slice B9 os9.length d9)
                have hk3 : Kept (fun g => g = w.heap.size + 1) w9 (((w9.setCell ⟨w.heap.size + 1, 0, none⟩ (.int .i64 t.st)).setCell ⟨w.heap.size + 1, 1, none⟩ (.slice A9 t.ps.length c9)).setCell ⟨w.heap.size + 1, 2, none⟩ (.slice B9 os9.length d9)) := (((Kept.refl (fun g => g = w.heap.size + 1) w9).setCell (p := ⟨w.heap.size + 1, 0, none⟩) (Or.inl rfl) _).setCell (p := ⟨w.heap.size + 1, 1, none⟩) (Or.inl rfl) _).setCell (p := ⟨w.heap.size + 1, 2, none⟩) (Or.inl rfl) _
                have hs8 := HS8.out
                have hno9 := HOW.out.1.kept hk3 (fun g e1 e2 => by have h1 := (own_lt' HOW.out.1.1 e1).2; omega) (fun y hy g e1 e2 => by have h1 := (own_lt' (HOW.out.1.2 y hy) e1).2; omega)
                have hpo := ((HPT.out.set_old (p := ⟨w.heap.size + 1, 0, none⟩) HP0W.out (Nat.le_succ _) (.int .i64 t.st)).set_old (p := ⟨w.heap.size + 1, 1, none⟩) HP0W.out (Nat.le_succ _) (.slice A9 t.ps.length c9)).set_old (p := ⟨w.heap.size + 1, 2, none⟩) HP0W.out (Nat.le_succ _) (.slice B9 os9.length d9)
                have hbf := ((HB9.out.setCell (p := ⟨w.heap.size + 1, 0, none⟩) (Nat.le_succ _) (.int .i64 t.st)).setCell (p := ⟨w.heap.size + 1, 1, none⟩) (Nat.le_succ _) (.slice A9 t.ps.length c9)).setCell (p := ⟨w.heap.size + 1, 2, none⟩) (Nat.le_succ _) (.slice B9 os9.length d9)
                rw [HTT.out]
                exact bodyPost_ret (results_ct Tryz.results14 _ _ (w.heap.size + 1) 25 #[.int .i64 t.st, .slice A9 t.ps.length c9, .slice B9 os9.length d9] (0, 0) _ rfl hq Tryz.underlying25 rfl Tryz.sizeTree) rfl
                  ⟨t.st, A9, t.ps.length, c9, B9, os9.length, d9, rfl, ⟨A9, c9, B9, d9, os9, rfl, hpo, OwnN.reads hno9, HOW.out.2⟩, hbf⟩
end Go.Proofs.YtmlhkbgifnifdaaGreatDoor
