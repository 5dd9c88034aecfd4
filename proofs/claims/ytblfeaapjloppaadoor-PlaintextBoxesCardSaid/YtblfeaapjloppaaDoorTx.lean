/-
  plaintext.Text. No condition.
-/
import Derived.Test.YtblfeaapjloppaaDoorTx0
import Derived.Test.YtblfeaapjloppaaDoorPars
import Derived.Laws.IdiomStrings
namespace Go.Proofs.YtblfeaapjloppaaDoor
open Go.RowKit
set_option maxRecDepth 100000
set_option linter.unusedVariables false
set_option linter.unusedSimpArgs false

theorem Tryd.infoByte2 : (Tryd.prog.info? 5).map (fun i => (i.zero, i.size, i.bytes)) = some (some (.int .u8 0), 1, 1) := by kernel_rfl
/-- v holds the bytes l, in memory from base on -/
def OwnB (w : World) (base : Nat) (v : Value) (l : List UInt8) : Prop := w.ownsRow base 5 1 v l.length (Lib.byteCells l)
theorem OwnB.nil (w : World) (base : Nat) : OwnB w base (.slice none 0 0) [] := World.ownsRow_nil _ _ _ _
theorem OwnB.ext {w w' : World} {base : Nat} {v : Value} {l : List UInt8} (h : OwnB w base v l) (hb : Below w.heap.size w w') : OwnB w' base v l := own_below h hb
theorem OwnB.form {w : World} {base : Nat} {v : Value} {l : List UInt8} (h : OwnB w base v l) : ∃ A c, v = .slice A l.length c := by
  obtain ⟨A, c, h1, -, -⟩ := own_form h
  exact ⟨A, c, h1⟩
theorem wpList_pushB {wr : World} {ops : Array Oper} {rest : List Oper} {o : Oper} {a : Act} {Q : Exit → Act → World → Prop} (hgd : o.guard = none) (s x : Operand)
    (ho : o.op = .call { callee := .builtin .append, args := #[s, x], argTypes := #[54, 54] })
    (base : Nat) (v : Value) (l : List UInt8) (hs : a.eval s = v) (hown : OwnB wr base v l)
    (c : UInt8) (z : Int) (hz : z = (c.toNat : Int)) (hx : a.eval x = .slice (some ⟨wr.heap.size, 0, none⟩) 1 1)
    (hn : l.length < 4294967296) (hbase : base ≤ wr.heap.size)
    (h : ∀ v' w', OwnB w' base v' (l ++ [c]) → Below base wr w' → (∀ g t' cs, 5 ≠ t' → Blk wr g t' cs → Blk w' g t' cs) → wpList Tryd.prog ops Q rest (a.put o.dst v') w') :
    wpList Tryd.prog ops Q (o :: rest) a (wr.alloc (.cells #[.int .u8 z] 5)) := by
  subst hz
  obtain ⟨i0, hi0, hz0, hz1, hz2⟩ := info_parts Tryd.infoByte2
  refine wpList_append_own _ hgd s x _ ho base 5 i0 _ 1 1 Tryd.underlying54 hi0 hz0 hz1 hz2 rfl (by decide) v l.length (Lib.byteCells l) hs (World.ownsRow.alloc hown _) ⟨wr.heap.size, 0, none⟩ 1 1 [.int .u8 c.toNat] hx rfl ?_ (by simp [Value.oneCell']) (by unfold maxLen; omega) (by omega) (by simp; omega) ?_
  · intro j u hu
    rw [addr_add]
    have : (wr.alloc (.cells #[.int .u8 c.toNat] 5)).cell? ⟨wr.heap.size, 0 + j, none⟩ = (#[.int .u8 c.toNat] : Array Value)[0 + j]? := cell_of_row _ _ _ _ _ _ (heap_alloc_new wr _)
    rw [this]
    simpa using hu
  · intro v' w' hown' hg _
    have hrow : ∀ k, v.ownBlock = some k → base ≤ k ∧ ∃ cur, wr.heap[k]? = some (.cells cur 5 (0, 0)) := by
      intro k hk
      rcases hown.2 with ⟨rfl, _⟩ | ⟨g, cap, cur, rfl, h4, h5, _⟩
      · simp [Value.ownBlock] at hk
      · simp [Value.ownBlock] at hk
        subst hk
        exact ⟨h4, cur, h5⟩
    refine h v' w' (by unfold OwnB Lib.byteCells; rw [List.length_append, List.map_append]; exact hown') ?_ ?_
    · exact ((Below.refl base wr).alloc hbase _).grown hg (by simp; omega) (fun k hk => (hrow k hk).1)
    · intro g t' cs hne hb
      exact (hb.alloc _).grown hg (fun e' => by
        obtain ⟨-, cur, hc⟩ := hrow g e'.symm
        unfold Blk at hb
        rw [hb] at hc
        injection hc with hc
        injection hc with _ hc
        exact hne hc.symm)
theorem back_nil (w : World) (c : Nat) : (convert 54 9 (.slice none 0 c)).run Tryd.prog w = .ok (.string ⟨#[]⟩) w := by
  rw [run_convert_bytes_string w _ _ 5 none 0 c Tryd.underlying54 Tryd.underlying5 Tryd.underlying9]
  simp [Conv.bytesToString]
  rfl
theorem back_any {w : World} {base : Nat} {A : Option Addr} {c : Nat} {l : List UInt8} (h : OwnB w base (.slice A l.length c) l) :
    (convert 54 9 (.slice A l.length c)).run Tryd.prog w = .ok (.string ⟨l.toArray⟩) w := by
  rcases h.2 with ⟨h1, h2⟩ | ⟨g, cap, cur, hv, -⟩
  · obtain rfl := List.eq_nil_of_length_eq_zero h2
    injection h1 with h1 _ h3
    subst h1 h3
    exact back_nil w 0
  · injection hv with h1 h2 h3
    subst h1
    refine run_convert_bytes_back w _ _ 5 ⟨g, 0, none⟩ c l Tryd.underlying54 Tryd.underlying5 Tryd.underlying9 fun j hj => ?_
    have h4 := World.ownsRow.cells h rfl j (.int .u8 (l[j].toNat : Int)) (by simp [Lib.byteCells, hj])
    simpa using h4
def ofB (top : Int) : ByteArray := if 1 < top then ⟨#[46, 49, 50, 51, 52, 53, 54, 55]⟩ else ⟨#[46, 79]⟩
set_option maxHeartbeats 1000000 in
theorem chars_any (A : Option Addr) (c : Nat) (ps : List Cel) (w : World) (ha : Cls w A ps) :
    Calls Tryd.prog 26 #[.slice A ps.length c] w fun e w' => e = .returned (.string (ofB (topC ps))) ∧ w' = w := by
  have hT := top_any A c ps w ha
  unfold ofB
  generalize topC ps = t at *
  by_cases h : 1 < t
  · have d : decide (1 < t) = true := decide_eq_true h
    rw [if_pos h]
    go_enter Tryd.func26, Tryd.ntmps26
    go_wp2_with (go_at_call 44; refine hT.mono ?_; rintro e w' ⟨rfl, rfl⟩)
    go_ret
    exact ⟨rfl, rfl⟩
  · have d : decide (1 < t) = false := decide_eq_false h
    rw [if_neg h]
    go_enter Tryd.func26, Tryd.ntmps26
    go_wp2_with (go_at_call 44; refine hT.mono ?_; rintro e w' ⟨rfl, rfl⟩)
    go_ret
    exact ⟨rfl, rfl⟩
theorem of_size {top s : Int} (h1 : 1 ≤ s) (h2 : s ≤ top) (h3 : top ≤ 7) : s < (ofB top).size := by
  unfold ofB
  split
  · show s < ((8 : Nat) : Int); omega
  · show s < ((2 : Nat) : Int); omega
theorem of_get {top s : Int} (h1 : 1 ≤ s) (h2 : s ≤ top) (h3 : top ≤ 7) (h : s.toNat < (ofB top).size) : (ofB top)[s.toNat] = chB top s := by
  have key : top = 1 ∨ top = 2 ∨ top = 3 ∨ top = 4 ∨ top = 5 ∨ top = 6 ∨ top = 7 := by omega
  have key2 : s = 1 ∨ s = 2 ∨ s = 3 ∨ s = 4 ∨ s = 5 ∨ s = 6 ∨ s = 7 := by omega
  rcases key with rfl | rfl | rfl | rfl | rfl | rfl | rfl <;> rcases key2 with rfl | rfl | rfl | rfl | rfl | rfl | rfl <;> first | omega | rfl
end Go.Proofs.YtblfeaapjloppaaDoor
