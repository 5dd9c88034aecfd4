/-
  strings.SplitSeq at a line feed: the iterator hands out the lines one by one. At most 70000 bytes.
-/
import Derived.Test.YtblfeaapjloppaaDoorRows
import Derived.Test.YtblfeaapjloppaaDoorSeq
import Derived.Test.YtblfeaapjloppaaDoorPl31
import Derived.RangeFuncLeaves
import Derived.TacticsInMore
import Derived.LoopIn
import Derived.LoopNIn
import Derived.OwnWalkIn
import Derived.Lib.Bytealg
import Derived.Lib.Walk
import Derived.Lib.Strings
import Derived.Lib.Slices
import Derived.Laws.Externs
namespace Go.Proofs.YtblfeaapjloppaaDoor
open Go.RowKit
set_option maxRecDepth 100000
set_option linter.unusedVariables false
set_option linter.unusedSimpArgs false
attribute [local go_sem] Oper.semAt_some

theorem splits : ∀ l : List UInt8, ∃ ls, ls ≠ [] ∧ (∀ x ∈ ls, ∀ c ∈ x, c ≠ 10) ∧ joinN ls = l
  | [] => ⟨[[]], by simp, by simp, rfl⟩
  | c :: l => by
    obtain ⟨ls, h1, h2, h3⟩ := splits l
    cases ls with
    | nil => exact absurd rfl h1
    | cons a ls =>
      by_cases hc : c = 10
      · refine ⟨[] :: a :: ls, by simp, ?_, ?_⟩
        · intro x hx
          rcases List.mem_cons.1 hx with rfl | hx
          · intro c hc; cases hc
          · exact h2 x hx
        · show [] ++ 10 :: joinN (a :: ls) = _
          rw [h3, hc]; rfl
      · refine ⟨(c :: a) :: ls, by simp, ?_, ?_⟩
        · intro x hx
          rcases List.mem_cons.1 hx with rfl | hx
          · intro d hd
            rcases List.mem_cons.1 hd with rfl | hd
            · exact hc
            · exact h2 a List.mem_cons_self d hd
          · exact h2 x (List.mem_cons_of_mem _ hx)
        · cases ls with
          | nil => show c :: a = _; rw [← h3]; rfl
          | cons b ls => show (c :: a) ++ 10 :: joinN (b :: ls) = _; rw [← h3]; rfl
theorem join_app (r : List (List UInt8)) (hr : r ≠ []) : ∀ pre : List (List UInt8), joinN (pre ++ r) = pre.flatMap (· ++ [10]) ++ joinN r
  | [] => rfl
  | [a] => by
    cases r with
    | nil => exact absurd rfl hr
    | cons b r => show a ++ 10 :: joinN (b :: r) = _; simp
  | a :: b :: pre => by
    have ih := join_app r hr (b :: pre)
    show a ++ 10 :: joinN (b :: pre ++ r) = _
    rw [ih]
    simp only [List.flatMap_cons, List.append_assoc, List.cons_append, List.nil_append]
theorem ix_cases : ∀ (l : List UInt8) (c : UInt8), (Lib.indexByte l c = -1 ∧ c ∉ l) ∨ ∃ k : Nat, Lib.indexByte l c = k ∧ k < l.length ∧ l = l.take k ++ c :: l.drop (k + 1) ∧ c ∉ l.take k
  | [], c => .inl ⟨rfl, by simp⟩
  | b :: l, c => by
    unfold Lib.indexByte
    by_cases hb : b = c
    · subst hb
      refine .inr ⟨0, by simp, by simp, by simp, by simp⟩
    · rw [if_neg (by simpa using hb)]
      rcases ix_cases l c with ⟨h1, h2⟩ | ⟨k, h1, h2, h3, h4⟩
      · rw [h1]
        exact .inl ⟨rfl, fun h => (List.mem_cons.1 h).elim (fun h => hb h.symm) h2⟩
      · rw [h1, if_neg (by simp only [beq_iff_eq]; omega)]
        refine .inr ⟨k + 1, by simp, by simpa using h2, ?_, ?_⟩
        · simpa using h3
        · intro h
          rw [List.take_succ_cons] at h
          exact (List.mem_cons.1 h).elim (fun h => hb h.symm) h4
/-- what has come, and what is still to come, is the string -/
def Come (s : ByteArray) (pre : List ByteArray) (r : ByteArray) : Prop := s.data.toList = (pre.map (·.data.toList)).flatMap (· ++ [10]) ++ r.data.toList ∧ ∀ x ∈ pre, ∀ c ∈ x.data.toList, c ≠ 10
/-- the lines of a string -/
def Lines (s : ByteArray) (xs : List ByteArray) : Prop := xs ≠ [] ∧ (∀ x ∈ xs, ∀ c ∈ x.data.toList, c ≠ 10) ∧ joinN (xs.map (·.data.toList)) = s.data.toList
/-- a line is no longer than what is left -/
def Fits (s : ByteArray) (pre : List ByteArray) (x : ByteArray) : Prop := pre.length + (pre.map ByteArray.size).sum + x.size ≤ s.size
theorem size_toList (s : ByteArray) : s.data.toList.length = s.size := rfl
theorem come_len : ∀ pre : List ByteArray, ((pre.map (·.data.toList)).flatMap (· ++ [10])).length = pre.length + (pre.map ByteArray.size).sum
  | [] => rfl
  | x :: pre => by
    have ih := come_len pre
    simp only [List.map_cons, List.flatMap_cons, List.length_append, List.length_cons, List.length_nil, List.sum_cons] at ih ⊢
    rw [ih, size_toList]
    omega
theorem Come.fits {s r : ByteArray} {pre : List ByteArray} (h : Come s pre r) : pre.length + (pre.map ByteArray.size).sum + r.size = s.size := by
  have h1 := congrArg List.length h.1
  rw [List.length_append, come_len, size_toList, size_toList] at h1
  omega
theorem Come.start (s : ByteArray) : Come s [] s := ⟨by simp, by simp⟩
theorem Come.last {s r : ByteArray} {pre : List ByteArray} (h : Come s pre r) (hr : ∀ c ∈ r.data.toList, c ≠ 10) : Lines s (pre ++ [r]) := by
  refine ⟨by simp, ?_, ?_⟩
  · intro x hx
    rcases List.mem_append.1 hx with hx | hx
    · exact h.2 x hx
    · rw [List.mem_singleton.1 hx]; exact hr
  · rw [List.map_append, join_app _ (by simp), h.1]
    rfl
theorem Come.some_ {s r : ByteArray} {pre : List ByteArray} (h : Come s pre r) : ∃ rest, Lines s (pre ++ rest) := by
  obtain ⟨ls, h1, h2, h3⟩ := splits r.data.toList
  refine ⟨ls.map (fun l => ⟨l.toArray⟩), by simp [h1], ?_, ?_⟩
  · intro x hx
    rcases List.mem_append.1 hx with hx | hx
    · exact h.2 x hx
    · obtain ⟨l, hl, rfl⟩ := List.mem_map.1 hx
      exact h2 l hl
  · rw [List.map_append, List.map_map]
    have e : List.map ((fun x : ByteArray => x.data.toList) ∘ fun l => (⟨l.toArray⟩ : ByteArray)) ls = ls := by
      rw [show ((fun x : ByteArray => x.data.toList) ∘ fun l => (⟨l.toArray⟩ : ByteArray)) = id from rfl, List.map_id]
    rw [e, join_app _ h1, h3, h.1]
theorem Come.next {s r x q : ByteArray} {pre : List ByteArray} (h : Come s pre r) (he : r.data.toList = x.data.toList ++ 10 :: q.data.toList) (hx : ∀ c ∈ x.data.toList, c ≠ 10) : Come s (pre ++ [x]) q := by
  refine ⟨?_, ?_⟩
  · rw [h.1, he]
    simp
  · intro y hy
    rcases List.mem_append.1 hy with hy | hy
    · exact h.2 y hy
    · rw [List.mem_singleton.1 hy]; exact hx
set_option maxHeartbeats 1000000 in
theorem indexByte_any (s : ByteArray) (c : Int) (w : World) : Calls Tryd.prog 67 #[.string s, .int .u8 c] w fun e w' => e = .returned (.int .i64 (Lib.indexByte s.data.toList c.toNat.toUInt8)) ∧ w' = w := by
  go_enter Tryd.func67, Tryd.ntmps67
  go_wp2
  rw [run_callFunc_extern Tryd.func72 (by kernel_rfl) (by kernel_rfl) (by kernel_rfl) (e := Extern.BytealgIndexByte.indexByte) (by kernel_rfl), Lib.run_indexByteString]
  simp only [Result.andThen]
  rw [Oper.upon_value]
  go_wp2
  go_ret
  exact ⟨rfl, rfl⟩
set_option maxHeartbeats 2000000 in
theorem indexL_any (s : ByteArray) (w : World) : Calls Tryd.prog 62 #[.string s, .string ⟨#[10]⟩] w fun e w' => e = .returned (.int .i64 (Lib.indexByte s.data.toList 10)) ∧ w' = w := by
  by_cases hs : ([10] : List UInt8) = s.toList
  · have he : (([10] : List UInt8) == s.toList) = true := by rw [beq_iff_eq]; exact hs
    have hv : Lib.indexByte s.data.toList 10 = 0 := by rw [← ByteArray.toList_eq, ← hs]; rfl
    rw [hv]
    clear hs hv
    go_enter Tryd.func62, Tryd.ntmps62
    go_wp2
    go_ret
    exact ⟨rfl, rfl⟩
  · have he : (([10] : List UInt8) == s.toList) = false := by rw [beq_eq_false_iff_ne]; exact hs
    clear hs
    go_enter Tryd.func62, Tryd.ntmps62
    go_wp2_with (go_at_call 67; refine (indexByte_any s _ _).mono ?_; rintro e w' ⟨rfl, rfl⟩)
    go_ret
    exact ⟨rfl, rfl⟩
set_option maxHeartbeats 1000000 in
theorem index_any (s : ByteArray) (w : World) : Calls Tryd.prog 54 #[.string s, .string ⟨#[10]⟩] w fun e w' => e = .returned (.int .i64 (Lib.indexByte s.data.toList 10)) ∧ w' = w := by
  go_enter Tryd.func54, Tryd.ntmps54
  go_wp2_with (go_at_call 62; refine (indexL_any s _).mono ?_; rintro e w' ⟨rfl, rfl⟩)
  go_ret
  exact ⟨rfl, rfl⟩
/-- the three boxes of the iterator -/
def boxes (s : ByteArray) (w : World) : World := ((w.alloc (.cells #[.string s] 9)).alloc (.cells #[.string ⟨#[10]⟩] 9)).alloc (.cells #[.int .i64 0] 3)
def seqAt (B : Nat) : Value := .func (.func 52) #[] #[.pointer (some ⟨B + 1, 0, none⟩), .pointer (some ⟨B, 0, none⟩), .pointer (some ⟨B + 2, 0, none⟩)]
set_option maxHeartbeats 1000000 in
theorem splitSeq_any (s : ByteArray) (w : World) : Calls Tryd.prog 39 #[.string s, .string ⟨#[10]⟩, .int .i64 0] w fun e w' => e = .returned (seqAt w.heap.size) ∧ w' = boxes s w := by
  go_enter Tryd.func39, Tryd.ntmps39
  go_wp2
  go_ret
  exact ⟨rfl, rfl⟩
set_option maxHeartbeats 1000000 in
theorem SplitSeq_any (s : ByteArray) (w : World) : Calls Tryd.prog 19 #[.string s, .string ⟨#[10]⟩] w fun e w' => e = .returned (seqAt w.heap.size) ∧ w' = boxes s w := by
  go_enter Tryd.func19, Tryd.ntmps19
  go_wp2_with (go_at_call 39; refine (splitSeq_any s _).mono ?_; rintro e w' ⟨rfl, rfl⟩)
  go_ret
  exact ⟨rfl, rfl⟩
end Go.Proofs.YtblfeaapjloppaaDoor
