/-
  Slices of numbers: a slice that reads as a list of numbers; kept over what only lays new memory. No condition.
-/
import Derived.Test.YtblfeaapjloppaaDoorBase
import Derived.IntWalk
namespace Go.Proofs.YtblfeaapjloppaaDoor
open Go.RowKit

theorem addr_add (b o i : Nat) : (⟨b, o, none⟩ : Addr).add i = ⟨b, o + i, none⟩ := by
  unfold Addr.add
  split
  · subst i; rfl
  · rfl
theorem spot_none {w : World} {b o : Nat} {sp : Option Nat} {u : Value} (h : w.cell? ((⟨b, o, sp⟩ : Addr).add 0) = some u) : sp = none := by
  cases sp with
  | none => rfl
  | some x =>
    simp only [Addr.add, if_pos, World.cell?] at h
    split at h <;> simp at h
/-- the slice at A reads as the numbers xs -/
def Ints (w : World) (A : Option Addr) (xs : List Int) : Prop := Reads w w.heap.size 1 A xs.length (xs.map (Value.int .i64)) ∧ xs.length ≤ 9223372036854775807

section
variable {w w' : World} {A : Option Addr} {xs : List Int}
theorem Ints.at_ {k : Nat} (h : Ints w A xs) (hk : k < xs.length) : ∃ b o, A = some ⟨b, o, none⟩ ∧ b < w.heap.size ∧ w.cell? ⟨b, o + k, none⟩ = some (.int .i64 xs[k]) := by
  obtain ⟨ad, e, hb, hc⟩ := h.1.2 (by omega)
  have h0 := hc 0 (.int .i64 xs[0]) (by simp)
  have hk' := hc k (.int .i64 xs[k]) (by simp [List.getElem?_eq_getElem hk])
  obtain ⟨b, o, sp⟩ := ad
  obtain rfl := spot_none h0
  rw [addr_add] at hk'
  exact ⟨b, o, e, hb, hk'⟩
theorem Ints.le (h : Ints w A xs) : xs.length ≤ 9223372036854775807 := h.2
theorem Ints.ext (h : Ints w A xs) (hb : Below w.heap.size w w') : Ints w' A xs := ⟨(Reads.below h.1 hb).more hb.size, h.2⟩
theorem Ints.drewN (h : Ints w A xs) (n : Nat) : Ints (w.drewN n) A xs := h
theorem Ints.nil : Ints w A [] := ⟨Reads.none_, by simp⟩
end

/-- a point's cells -/
def ptCells (p : Int × Int) : List Value := [.int .i64 p.1, .int .i64 p.2]
/-- the slice at A reads as the points ps -/
def Pts (w : World) (A : Option Addr) (ps : List (Int × Int)) : Prop := Reads w w.heap.size 2 A ps.length (ps.flatMap ptCells) ∧ ps.length ≤ 9223372036854775807
theorem flat2 : ∀ (ps : List (Int × Int)) (k : Nat) (hk : k < ps.length), (ps.flatMap ptCells)[2 * k]? = some (.int .i64 ps[k].1) ∧ (ps.flatMap ptCells)[2 * k + 1]? = some (.int .i64 ps[k].2)
  | p :: ps, 0, _ => by simp [ptCells]
  | p :: ps, k + 1, hk => by
    have h := flat2 ps k (by simpa using hk)
    have e1 : 2 * (k + 1) = (2 * k) + 1 + 1 := by omega
    have e2 : 2 * (k + 1) + 1 = (2 * k + 1) + 1 + 1 := by omega
    simp only [List.flatMap_cons, ptCells, List.cons_append, List.nil_append, e1, List.getElem?_cons_succ, List.getElem_cons_succ]
    exact h
section
variable {w w' : World} {A : Option Addr} {ps : List (Int × Int)}
theorem Pts.at_ {k : Nat} (h : Pts w A ps) (hk : k < ps.length) : ∃ b o, A = some ⟨b, o, none⟩ ∧ b < w.heap.size ∧ w.cell? ⟨b, o + k * 2, none⟩ = some (.int .i64 ps[k].1) ∧ w.cell? ⟨b, o + k * 2 + 1, none⟩ = some (.int .i64 ps[k].2) := by
  obtain ⟨ad, e, hb, hc⟩ := h.1.2 (by omega)
  obtain ⟨f1, f2⟩ := flat2 ps k hk
  obtain ⟨f0, _⟩ := flat2 ps 0 (by omega)
  have h0 := hc _ _ f0
  obtain ⟨b, o, sp⟩ := ad
  obtain rfl := spot_none h0
  refine ⟨b, o, e, hb, ?_, ?_⟩
  · rw [Nat.mul_comm]; have := hc _ _ f1; rwa [addr_add] at this
  · rw [Nat.mul_comm]; have := hc _ _ f2; rwa [addr_add] at this
theorem Pts.le (h : Pts w A ps) : ps.length ≤ 9223372036854775807 := h.2
theorem Pts.ext (h : Pts w A ps) (hb : Below w.heap.size w w') : Pts w' A ps := ⟨(Reads.below h.1 hb).more hb.size, h.2⟩
theorem Pts.drewN (h : Pts w A ps) (n : Nat) : Pts (w.drewN n) A ps := h
theorem Pts.nil : Pts w A [] := ⟨Reads.none_, by simp⟩
end

/-- the world after reads in an open order -/
def Qt (w w' : World) : Prop := ∃ k, w' = w.drewN k
theorem Qt.refl (w : World) : Qt w w := ⟨0, rfl⟩
theorem Qt.drewN (w : World) (k : Nat) : Qt w (w.drewN k) := ⟨k, rfl⟩
theorem Qt.trans {a b c : World} (h : Qt a b) (k : Qt b c) : Qt a c := by
  obtain ⟨m, rfl⟩ := h
  obtain ⟨n, rfl⟩ := k
  exact ⟨m + n, by rw [World.drewN_drewN]⟩
theorem Qt.below {a b : World} (h : Qt a b) (B : Nat) : Below B a b := by
  obtain ⟨k, rfl⟩ := h
  exact below_drewN (Below.refl _ _) k
theorem Qt.step {a b : World} (h : Qt a b) (k : Nat) : Qt a (b.drewN k) := h.trans (Qt.drewN _ _)
theorem ret_bool {a b : Bool} (h : a = b) : Ending.returned (.bool a) = .returned (.bool b) := by rw [h]
theorem ret_int {k : IntKind} {a b : Int} (h : a = b) : Ending.returned (.int k a) = .returned (.int k b) := by rw [h]
/-- a cell of a new block, in a later world -/
theorem box_cell {w w1 : World} {cs : Array Value} {T : TypeId} (hb : Below (w.alloc (.cells cs T)).heap.size (w.alloc (.cells cs T)) w1) (i : Nat) (v : Value) (h : cs[i]? = some v) : w1.cell? ⟨w.heap.size, i, none⟩ = some v := by
  rw [hb.cell (by simp), cell_of_row _ _ _ _ _ _ (heap_alloc_new w _), h]
theorem box_free {w w1 : World} {cs : Array Value} {T : TypeId} (hb : Below (w.alloc (.cells cs T)).heap.size (w.alloc (.cells cs T)) w1) (i : Nat) : w1.frozen? ⟨w.heap.size, i, none⟩ = false := by
  rw [hb.frozen (by simp)]
  unfold World.frozen?
  rw [heap_alloc_new]
  simp
/-- two points differ; two are equal (no abbreviation: the walk leaves it whole) -/
def ptNe (a b c d : Int) : Bool := !(a == c && b == d)
def ptEq (a b c d : Int) : Bool := a == c && b == d
theorem ptNe_true {p q : Int × Int} (h : ptNe p.1 p.2 q.1 q.2 = true) : ¬ p = q := by
  rintro rfl
  simp [ptNe] at h
theorem ptNe_false {p q : Int × Int} (h : ptNe p.1 p.2 q.1 q.2 = false) : p = q := by
  simp [ptNe] at h
  exact Prod.ext h.1 h.2
theorem ptEq_true {p q : Int × Int} (h : ptEq p.1 p.2 q.1 q.2 = true) : p = q := by
  simp [ptEq] at h
  exact Prod.ext h.1 h.2
theorem ptEq_false {p q : Int × Int} (h : ptEq p.1 p.2 q.1 q.2 = false) : ¬ p = q := by
  rintro rfl
  simp [ptEq] at h
/-- a slice's memory lies from block B on -/
def NewA (B : Nat) (A : Option Addr) : Prop := ∀ ad, A = some ad → B ≤ ad.block
theorem NewA.none_ (B : Nat) : NewA B none := by intro ad h; cases h
theorem NewA.mono {B B' : Nat} {A : Option Addr} (h : NewA B A) (hB : B' ≤ B) : NewA B' A := fun ad e => Nat.le_trans hB (h ad e)
theorem Reads.set_ne {w : World} {B size n : Nat} {A : Option Addr} {xs : List Value} (h : Reads w B size A n xs) {p : Addr} (hne : ∀ ad, A = some ad → ad.block ≠ p.block) (u : Value) : Reads (w.setCell p u) B size A n xs :=
  ⟨h.1, fun hn => by
    obtain ⟨ad, e, hb, hc⟩ := h.2 hn
    refine ⟨ad, e, hb, fun j v hv => ?_⟩
    rw [World.cell?_setCell_other w p (ad.add j) u (fun e2 => hne ad e (by rw [e2, block_of_add]))]
    exact hc j v hv⟩
theorem Reads.size_set {w : World} {size n : Nat} {A : Option Addr} {xs : List Value} {p : Addr} {u : Value} (h : Reads (w.setCell p u) w.heap.size size A n xs) : Reads (w.setCell p u) (w.setCell p u).heap.size size A n xs := h.more (by simp [World.setCell])
section
variable {w w0 : World} {A : Option Addr} {ps : List (Int × Int)} {zs : List Int} {p : Addr}
/-- behind a store into a block that was there before the slice was made -/
theorem Pts.set_new (h : Pts w A ps) {B : Nat} (hn : NewA B A) (hp : p.block < B) (u : Value) : Pts (w.setCell p u) A ps :=
  ⟨(h.1.set_ne (fun ad e => by have := hn ad e; omega) u).size_set, h.2⟩
theorem Ints.set_new (h : Ints w A zs) {B : Nat} (hn : NewA B A) (hp : p.block < B) (u : Value) : Ints (w.setCell p u) A zs :=
  ⟨(h.1.set_ne (fun ad e => by have := hn ad e; omega) u).size_set, h.2⟩
/-- behind a store into a block that was made behind the slice -/
theorem Pts.set_old (h : Pts w A ps) (h0 : Pts w0 A ps) (hp : w0.heap.size ≤ p.block) (u : Value) : Pts (w.setCell p u) A ps := by
  refine ⟨⟨h.1.1, fun hn => ?_⟩, h.2⟩
  obtain ⟨ad, e, hb, hc⟩ := h.1.2 hn
  obtain ⟨ad', e', hb', _⟩ := h0.1.2 hn
  obtain rfl : ad = ad' := by rw [e] at e'; injection e'
  refine ⟨ad, e, by simpa [World.setCell] using hb, fun j v hv => ?_⟩
  rw [World.cell?_setCell_other w p (ad.add j) u (fun e2 => by have := block_of_add ad j; rw [← e2] at this; omega)]
  exact hc j v hv
theorem Ints.set_old (h : Ints w A zs) (h0 : Ints w0 A zs) (hp : w0.heap.size ≤ p.block) (u : Value) : Ints (w.setCell p u) A zs := by
  refine ⟨⟨h.1.1, fun hn => ?_⟩, h.2⟩
  obtain ⟨ad, e, hb, hc⟩ := h.1.2 hn
  obtain ⟨ad', e', hb', _⟩ := h0.1.2 hn
  obtain rfl : ad = ad' := by rw [e] at e'; injection e'
  refine ⟨ad, e, by simpa [World.setCell] using hb, fun j v hv => ?_⟩
  rw [World.cell?_setCell_other w p (ad.add j) u (fun e2 => by have := block_of_add ad j; rw [← e2] at this; omega)]
  exact hc j v hv
end
/-- it hands back a slice that reads as ps; nothing that was there has turned -/
def RetPts (ps : List (Int × Int)) (w : World) (e : Ending) (w' : World) : Prop := ∃ A c, e = .returned (.slice A ps.length c) ∧ Pts w' A ps ∧ NewA w.heap.size A ∧ Below w.heap.size w w'
def RetInts (zs : List Int) (w : World) (e : Ending) (w' : World) : Prop := ∃ A c, e = .returned (.slice A zs.length c) ∧ Ints w' A zs ∧ NewA w.heap.size A ∧ Below w.heap.size w w'
/-- .. beside a bool -/
def RetIntsB (zs : List Int) (b : Bool) (w : World) (e : Ending) (w' : World) : Prop := ∃ A c, e = .returned (.tuple #[.slice A zs.length c, .bool b]) ∧ Ints w' A zs ∧ NewA w.heap.size A ∧ Below w.heap.size w w'
theorem below_set4 {B b : Nat} {a w : World} (h : Below B a w) (hb : B ≤ b) (v0 v1 v2 v3 : Value) : Below B a ((((w.setCell ⟨b, 0, none⟩ v0).setCell ⟨b, 1, none⟩ v1).setCell ⟨b, 2, none⟩ v2).setCell ⟨b, 3, none⟩ v3) :=
  (((h.setCell (p := ⟨b, 0, none⟩) hb v0).setCell (p := ⟨b, 1, none⟩) hb v1).setCell (p := ⟨b, 2, none⟩) hb v2).setCell (p := ⟨b, 3, none⟩) hb v3
theorem Blk.cell_ {w : World} {g : Nat} {t : TypeId} {cs : Array Value} (h : Blk w g t cs) (i : Nat) (v : Value) (hv : cs[i]? = some v) : w.cell? ⟨g, i, none⟩ = some v := (h.cell i).trans hv
end Go.Proofs.YtblfeaapjloppaaDoor
