/-
  strings.splitSeq's closure hands out the lines of a string one by one. At most 70000 bytes.
-/
import Derived.Test.YtblfeaapjloppaaDoorIter
namespace Go.Proofs.YtblfeaapjloppaaDoor
open Go.RowKit
set_option maxRecDepth 100000
set_option linter.unusedVariables false
set_option linter.unusedSimpArgs false
attribute [local go_sem] Oper.semAt_some

/-- how long the string in the box is -/
def strAt (w : World) (b : Nat) : Nat := match w.cell? ⟨b, 0, none⟩ with | some (.string s) => s.size | _ => 0
theorem strAt_of {w : World} {b : Nat} {s : ByteArray} (h : w.cell? ⟨b, 0, none⟩ = some (.string s)) : strAt w b = s.size := by unfold strAt; rw [h]
theorem held_blk {lo hi g : Nat} {w w' : World} {t : TypeId} {cs : Array Value} (h : Held lo hi w w') (hb : Blk w g t cs) (h1 : lo ≤ g) (h2 : g < hi) : Blk w' g t cs := (h g h1 h2).trans hb
theorem take_data (r : ByteArray) (k : Nat) : (r.extract 0 k).data.toList = r.data.toList.take k := by
  have h := Lib.extract_data r 0 k
  rw [h]
  simp
theorem drop_data (r : ByteArray) (k : Nat) : (r.extract k r.size).data.toList = r.data.toList.drop k := by
  have h := Lib.extract_data r k r.size
  rw [h, List.take_of_length_le]
  rw [List.length_drop, size_toList]
  omega
set_option maxHeartbeats 4000000 in
theorem lines_any (s : ByteArray) (hs : s.size ≤ 70000) (B : Nat) (w0 : World) (h1 : Blk w0 B 9 #[.string s]) (h2 : Blk w0 (B + 1) 9 #[.string ⟨#[10]⟩]) (h3 : Blk w0 (B + 2) 3 #[.int .i64 0]) :
    SeqBox Tryd.prog 52 #[.pointer (some ⟨B + 1, 0, none⟩), .pointer (some ⟨B, 0, none⟩), .pointer (some ⟨B + 2, 0, none⟩)] B B (B + 3) (Fits s) (Lines s) w0 := by
  intro n l J Jx W hW hJ hY h0
  have b1 := h1.below hW h1.lt
  have b2 := h2.below hW h2.lt
  have b3 := h3.below hW h3.lt
  have c1 := b2.cell 0
  refine callsIn_of_wp Tryd.func52 rfl trivial ?_ rfl
  simp only [Tryd.ntmps52, List.size_toArray, List.length_cons, List.length_nil, Nat.reduceAdd, Nat.reduceSub, Array.replicate_succ, Array.replicate_zero, List.push_toArray, List.append_toArray, List.nil_append, List.cons_append]
  gi_wp2
  gi_loopw [7, 8] (fun _ _ wr => ∃ (pre : List ByteArray) (r : ByteArray), Blk wr B 9 #[.string r] ∧ Blk wr (B + 1) 9 #[.string ⟨#[10]⟩] ∧ Blk wr (B + 2) 3 #[.int .i64 0] ∧ Hid (Come s pre r) ∧ Hid (J pre wr)) (fun _ _ wr => strAt wr B)
  case atStart => exact ⟨[], s, b1, b2, b3, Lib.hid (Come.start s), Lib.hid h0⟩
  case round =>
    clear b1 b2 b3 c1 h1 h2 h3
    obtain ⟨pre, r, b1, b2, b3, HC, HJ⟩ := hrel
    have c1 := b1.cell 0
    have f1 := b1.frozen 0
    have c2 := b2.cell 0
    have c3 := b3.cell 0
    have hst := strAt_of c1
    have HS := HC.out.fits
    have hrs : r.size ≤ 70000 := by omega
    rcases ix_cases r.data.toList 10 with ⟨hi, hno⟩ | ⟨k, hi, hk, hsp, hno⟩
    · have hX := index_any r wr
      rw [hi] at hX
      have hX' := callsIn_wide (n := n - 1) |>.2 hX
      obtain ⟨fn, tmps, assign, body, hy, hR⟩ := hY pre r wr HJ.out (by unfold Fits; omega)
      have HL := Lib.hid (HC.out.last (fun c hc h => hno (h ▸ hc)))
      clear hno hX
      gi_wp2
      refine wide_call (hX'.mono ?_)
      rintro e w' ⟨rfl, rfl⟩
      gi_wp2
      refine wide_round (hR.mono ?_)
      rintro e W' (⟨rfl, hJ', hk⟩ | ⟨rfl, hJx'⟩)
      · gi_wp2
        go_end0
        exact ⟨⟨_, rfl⟩, .inl ⟨_, HL.out, hJ'⟩⟩
      · gi_wp2
        go_end0
        exact ⟨⟨_, rfl⟩, .inr ⟨_, [], by rw [List.append_nil]; exact HL.out, hJx'⟩⟩
    · have hX := index_any r wr
      rw [hi] at hX
      have hX' := callsIn_wide (n := n - 1) |>.2 hX
      have hkr : k < r.size := hk
      have hd0 : decide ((k : Int) < 0) = false := decide_eq_false (by omega)
      have hw0 : wrap64 ((k : Int) + 0) = (k : Int) := by unfold wrap64; omega
      have hw1 : wrap64 ((k : Int) + 1) = (k : Int) + 1 := by unfold wrap64; omega
      have hxs : (r.extract 0 k).size = k := by
        have h := congrArg List.length (take_data r k)
        rw [size_toList, List.length_take, size_toList] at h
        omega
      have hqs : (r.extract (k + 1) r.size).size = r.size - (k + 1) := by
        have h := congrArg List.length (drop_data r (k + 1))
        rw [size_toList, List.length_drop, size_toList] at h
        omega
      have HN : Hid (Come s (pre ++ [r.extract 0 k]) (r.extract (k + 1) r.size)) := Lib.hid (HC.out.next (by rw [take_data, drop_data]; exact hsp) (fun c hc h => hno (by rw [take_data] at hc; rw [← h]; exact hc)))
      have HL : Hid (∃ rest, Lines s (pre ++ [r.extract 0 k] ++ rest)) := Lib.hid HN.out.some_
      obtain ⟨fn, tmps, assign, body, hy, hR⟩ := hY pre (r.extract 0 k) wr HJ.out (by unfold Fits; omega)
      clear hsp hno hX hi hk
      gi_wp2
      refine wide_call (hX'.mono ?_)
      rintro e w' ⟨rfl, rfl⟩
      gi_wp2
      refine wide_round (hR.mono ?_)
      rintro e W' (⟨rfl, hJ', hk⟩ | ⟨rfl, hJx'⟩)
      · clear c1 f1 c2 c3
        have d1 := held_blk hk b1 (Nat.le_refl _) (by omega)
        have d2 := held_blk hk b2 (by omega) (by omega)
        have d3 := held_blk hk b3 (by omega) (by omega)
        have c1 := d1.cell 0
        have f1 := d1.frozen 0
        have c2 := d2.cell 0
        have e1 := d1.set_ 0 (.string (r.extract (k + 1) r.size))
        have e2 := d2.far (p := ⟨B, 0, none⟩) (by simp) (.string (r.extract (k + 1) r.size))
        have e3 := d3.far (p := ⟨B, 0, none⟩) (by simp) (.string (r.extract (k + 1) r.size))
        have HJ2 := Lib.hid (hJ _ _ (.string (r.extract (k + 1) r.size)) hJ')
        have hst2 : strAt (W'.setCell ⟨B, 0, none⟩ (.string (r.extract (k + 1) r.size))) B = r.size - (k + 1) := by rw [← hqs]; exact strAt_of (e1.cell 0)
        clear hJ'
        gi_wp2
        go_roundw
        case rel => exact ⟨pre ++ [r.extract 0 k], r.extract (k + 1) r.size, e1, e2, e3, HN, HJ2⟩
        case measure => rw [hst2, hst]; omega
      · obtain ⟨rest, hrest⟩ := HL.out
        gi_wp2
        refine bodyPost_ret (results_none rfl _ _ _) rfl ?_
        exact ⟨⟨_, rfl⟩, .inr ⟨_, rest, hrest, hJx'⟩⟩
end Go.Proofs.YtblfeaapjloppaaDoor
