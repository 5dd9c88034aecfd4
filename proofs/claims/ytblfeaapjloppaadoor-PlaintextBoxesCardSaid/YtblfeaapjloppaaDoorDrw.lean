/-
  plaintext.Draw. No condition.
-/
import Derived.Test.YtblfeaapjloppaaDoorDraw
import Derived.Laws.Externs
namespace Go.Proofs.YtblfeaapjloppaaDoor
open Go.RowKit
set_option maxRecDepth 100000
set_option linter.unusedVariables false
set_option linter.unusedSimpArgs false

/-- block G holds the bytes g, free to be written -/
def BytesAt (w : World) (G : Nat) (g : List UInt8) : Prop := G < w.heap.size ∧ ∀ i (h : i < g.length), w.cell? ⟨G, i, none⟩ = some (.int .u8 g[i].toNat) ∧ w.frozen? ⟨G, i, none⟩ = false
theorem BytesAt.ext {w w' : World} {G : Nat} {g : List UInt8} (h : BytesAt w G g) (hb : Below w.heap.size w w') : BytesAt w' G g :=
  ⟨Nat.lt_of_lt_of_le h.1 hb.size, fun i hi => by
    have hh := hb.block G h.1
    obtain ⟨h1, h2⟩ := h.2 i hi
    refine ⟨(hb.cell (p := ⟨G, i, none⟩) h.1).trans h1, ?_⟩
    unfold World.frozen? at h2 ⊢
    rw [hh]
    exact h2⟩
theorem BytesAt.drew {w : World} {G : Nat} {g : List UInt8} (h : BytesAt w G g) : BytesAt w.drew G g := h
theorem BytesAt.set {w : World} {G : Nat} {g : List UInt8} (h : BytesAt w G g) (i : Nat) (hi : i < g.length) (c : UInt8) : BytesAt (w.setCell ⟨G, i, none⟩ (.int .u8 c.toNat)) G (g.set i c) := by
  refine ⟨by rw [World.size_setCell]; exact h.1, fun j hj => ?_⟩
  rw [List.length_set] at hj
  obtain ⟨h1, h2⟩ := h.2 j hj
  refine ⟨?_, by rw [World.frozen?_setCell]; exact h2⟩
  by_cases e : i = j
  · subst e
    rw [List.getElem_set_self]
    exact World.cell?_setCell_same' _ _ _ (by rw [h1]; rfl)
  · rw [List.getElem_set_ne e, World.cell?_setCell_other w ⟨G, i, none⟩ ⟨G, j, none⟩ _ (fun h => e (by injection h))]
    exact h1
/-- what []byte(s) makes -/
theorem bytes_conv (s : ByteArray) (w : World) : ∃ cap W, (convert 9 54 (.string s)).run Tryd.prog w = .ok (.slice (some ⟨w.heap.size, 0, none⟩) s.data.toList.length cap) W ∧ Below w.heap.size w W ∧ BytesAt W w.heap.size s.data.toList := by
  have hr := run_bytes_of_string (P := Tryd.prog) w 9 54 5 s Tryd.underlying9 Tryd.underlying54 Tryd.underlying5
  refine ⟨_, _, hr, ?_, ?_, ?_⟩
  · exact ((Below.refl w.heap.size w).drew).alloc (Nat.le_refl _) _
  · simp
  · intro i h
    have hl : i < s.size := by simpa using h
    have hh := heap_alloc_new w.drew (.cells (bytesRow s (grownCap w s.size 0 5)) 5 ((bytesRow s (grownCap w s.size 0 5)).size, (bytesRow s (grownCap w s.size 0 5)).size + 1))
    have hc := cell_of_row (w.drew.alloc (.cells (bytesRow s (grownCap w s.size 0 5)) 5 ((bytesRow s (grownCap w s.size 0 5)).size, (bytesRow s (grownCap w s.size 0 5)).size + 1))) w.heap.size i _ _ _ hh
    have hsz : i < (bytesRow s (grownCap w s.size 0 5)).size := by
      unfold bytesRow
      rw [Array.size_append, Array.size_map]
      have : s.data.size = s.size := rfl
      omega
    refine ⟨?_, ?_⟩
    · rw [hc]
      unfold bytesRow
      rw [Array.getElem?_append_left (by simpa using hl)]
      have hl2 : i < s.data.size := hl
      rw [Array.getElem?_map, Array.getElem?_eq_getElem hl2]
      simp
    · have hh' : (w.drew.alloc (.cells (bytesRow s (grownCap w s.size 0 5)) 5 ((bytesRow s (grownCap w s.size 0 5)).size, (bytesRow s (grownCap w s.size 0 5)).size + 1))).heap[w.heap.size]? = some (.cells (bytesRow s (grownCap w s.size 0 5)) 5 ((bytesRow s (grownCap w s.size 0 5)).size, (bytesRow s (grownCap w s.size 0 5)).size + 1)) := hh
      generalize (w.drew.alloc (.cells (bytesRow s (grownCap w s.size 0 5)) 5 ((bytesRow s (grownCap w s.size 0 5)).size, (bytesRow s (grownCap w s.size 0 5)).size + 1))) = W at *
      simp only [World.frozen?, hh']
      simp
      omega
theorem back_at {w : World} {G cap : Nat} {g : List UInt8} (h : BytesAt w G g) : (convert 54 9 (.slice (some ⟨G, 0, none⟩) g.length cap)).run Tryd.prog w = .ok (.string ⟨g.toArray⟩) w := by
  refine run_convert_bytes_back w _ _ 5 ⟨G, 0, none⟩ cap g Tryd.underlying54 Tryd.underlying5 Tryd.underlying9 fun j hj => ?_
  rw [addr_add, Nat.zero_add]
  exact (h.2 j hj).1
/-- the empty drawing, a cell put in, the drawing -/
def lineG (b : Bx) : List UInt8 := List.replicate b.w.toNat 46 ++ [10]
def gridG (b : Bx) : List UInt8 := Lib.repeatL (lineG b) b.h.toNat
def putG (top : Int) (b : Bx) (g : List UInt8) (c : Cel) : List UInt8 := if inX b c.x c.y = true then g.set ((c.y - b.y) * (b.w + 1) + c.x - b.x).toNat (chB top c.s) else g
def drawG (ps : List Cel) (b : Bx) : List UInt8 := ps.foldl (putG (topC ps) b) (gridG b)
def drawT (ps : List Cel) (b : Bx) : List UInt8 × Int := if rightC ps = false ∨ rightX b = false then ([], 2) else if 65536 < (b.w + 1) * b.h then ([], 6) else (drawG ps b, 0)
theorem line_len (b : Bx) (h : 0 ≤ b.w) : ((lineG b).length : Int) = b.w + 1 := by unfold lineG; simp; omega
theorem grid_len (b : Bx) (h : 0 ≤ b.w) (h2 : 0 ≤ b.h) : ((gridG b).length : Int) = (b.w + 1) * b.h := by
  unfold gridG
  rw [Lib.repeatL_length, Int.natCast_mul, line_len b h, Int.toNat_of_nonneg h2, Int.mul_comm]
theorem put_len (top : Int) (b : Bx) (g : List UInt8) (c : Cel) : (putG top b g c).length = g.length := by
  unfold putG
  split
  · rw [List.length_set]
  · rfl
theorem puts_len (top : Int) (b : Bx) : ∀ (ps : List Cel) (g : List UInt8), (ps.foldl (putG top b) g).length = g.length
  | [], g => rfl
  | c :: ps, g => by rw [List.foldl_cons, puts_len top b ps, put_len]
theorem puts_snoc (top : Int) (b : Bx) (g : List UInt8) {ps : List Cel} {k : Nat} (hk : k < ps.length) : (ps.take (k + 1)).foldl (putG top b) g = putG top b ((ps.take k).foldl (putG top b) g) ps[k] := by
  rw [List.take_succ_eq_append_getElem hk, List.foldl_append]
  rfl
theorem inX_bd {b : Bx} {x y : Int} (h : inX b x y = true) : b.x ≤ x ∧ x < b.x + b.w ∧ b.y ≤ y ∧ y < b.y + b.h := by
  unfold inX at h
  simp only [Bool.and_eq_true, decide_eq_true_eq] at h
  exact ⟨h.1.1.1, h.1.1.2, h.1.2, h.2⟩
theorem idx_bd {b : Bx} {x y : Int} (hw : 0 ≤ b.w) (h : inX b x y = true) : 0 ≤ (y - b.y) * (b.w + 1) + x - b.x ∧ (y - b.y) * (b.w + 1) + x - b.x < (b.w + 1) * b.h := by
  obtain ⟨h1, h2, h3, h4⟩ := inX_bd h
  have e1 : 0 ≤ (y - b.y) * (b.w + 1) := Int.mul_nonneg (by omega) (by omega)
  have e2 : (y - b.y) * (b.w + 1) ≤ (b.h - 1) * (b.w + 1) := Int.mul_le_mul_of_nonneg_right (by omega) (by omega)
  have e3 : (b.h - 1) * (b.w + 1) = (b.w + 1) * b.h - (b.w + 1) := by rw [Int.sub_mul, Int.one_mul, Int.mul_comm]
  omega
theorem draw_bad {ps : List Cel} {b : Bx} (h : rightC ps = false ∨ rightX b = false) : drawT ps b = ([], 2) := by unfold drawT; rw [if_pos h]
theorem draw_far {ps : List Cel} {b : Bx} (h : rightC ps = true) (h2 : rightX b = true) (h3 : 65536 < (b.w + 1) * b.h) : drawT ps b = ([], 6) := by unfold drawT; rw [if_neg (by simp [h, h2]), if_pos h3]
theorem draw_ok {ps : List Cel} {b : Bx} (h : rightC ps = true) (h2 : rightX b = true) (h3 : ¬ 65536 < (b.w + 1) * b.h) : drawT ps b = (drawG ps b, 0) := by unfold drawT; rw [if_neg (by simp [h, h2]), if_neg h3]
theorem repeat_any (s : ByteArray) (c : Nat) (w : World) (hc1 : 1 ≤ c) (hc : c ≤ 9223372036854775807) (hlen : s.size * c ≤ 140737488355328) (h0 : 0 < s.size) (h46 : s[0] = 46) :
    Calls Tryd.prog 30 #[.string s, .int .i64 c] w fun e w' => e = .returned (.string ⟨(Lib.repeatL s.data.toList c).toArray⟩) ∧ Below w.heap.size w w' := by
  by_cases h2 : 2 ≤ c
  · exact repeat_main s c w h2 hc hlen h0 h46
  · obtain rfl : c = 1 := by omega
    refine (repeat_one s w).mono ?_
    rintro e w' ⟨rfl, rfl⟩
    exact ⟨by rw [Lib.repeatL_one], Below.refl _ _⟩
end Go.Proofs.YtblfeaapjloppaaDoor
