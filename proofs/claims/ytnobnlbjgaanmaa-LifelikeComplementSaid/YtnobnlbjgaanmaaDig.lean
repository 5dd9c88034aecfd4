/-
  lifelike.digits: strictly ascending digits of a text. At most 2^31 bytes.
-/
import Derived.Test.YtnobnlbjgaanmaaSame
import Derived.Test.YtnobnlbjgaanmaaBuilder
import Derived.Test.YtnobnlbjgaanmaaShelf
namespace Go.Proofs.Ytnobnlbjgaanmaa
open Go.RowKit
set_option linter.unusedVariables false

def isDig (c : UInt8) : Bool := decide (48 ≤ (c.toNat : Int)) && decide ((c.toNat : Int) ≤ 57)
def digOf (c : UInt8) : Int := (c.toNat : Int) - 48
/-- digits as numbers; nothing, where there is another letter -/
def digL (l : List UInt8) : List Int × Bool := if l.all isDig then (l.map digOf, asc (-1) 9 (l.map digOf)) else ([], false)
theorem digL_take_bad {l : List UInt8} {k : Nat} (hk : k < l.length) (hb : isDig l[k] = false) : digL l = ([], false) := by
  unfold digL
  rw [if_neg]
  intro h
  rw [List.all_eq_true] at h
  have := h _ (List.getElem_mem hk)
  rw [hb] at this
  cases this
theorem all_take_succ {l : List UInt8} {k : Nat} (hk : k < l.length) (h : (l.take k).all isDig = true) (hb : isDig l[k] = true) : (l.take (k + 1)).all isDig = true := by
  rw [List.take_succ_eq_append_getElem hk, List.all_append, h]
  simp [hb]
theorem map_take_succ {α β : Type} (f : α → β) {l : List α} {k : Nat} (hk : k < l.length) : (l.take (k + 1)).map f = (l.take k).map f ++ [f l[k]] := by
  rw [List.take_succ_eq_append_getElem hk, List.map_append]; rfl
/-- what []byte(s) makes -/
theorem bytes_conv (s : ByteArray) (w : World) : ∃ cap W, (convert 9 54 (.string s)).run Try.prog w = .ok (.slice (some ⟨w.heap.size, 0, none⟩) s.data.toList.length cap) W ∧ Below w.heap.size w W ∧ w.heap.size < W.heap.size ∧
    ∀ i (h : i < s.data.toList.length), W.cell? ⟨w.heap.size, i, none⟩ = some (.int .u8 s.data.toList[i].toNat) := by
  have hr := run_bytes_of_string (P := Try.prog) w 9 54 5 s Try.underlying9 Try.underlying54 Try.underlying5
  refine ⟨_, _, hr, ?_, ?_, ?_⟩
  · exact ((Below.refl w.heap.size w).drew).alloc (Nat.le_refl _) _
  · simp
  · intro i h
    have hl : i < s.size := by simpa using h
    have hc := cell_of_row (w.drew.alloc (.cells (bytesRow s (grownCap w s.size 0 5)) 5 ((bytesRow s (grownCap w s.size 0 5)).size, (bytesRow s (grownCap w s.size 0 5)).size + 1))) w.heap.size i _ _ _ (heap_alloc_new w.drew _)
    rw [hc]
    unfold bytesRow
    rw [Array.getElem?_append_left (by simpa using hl)]
    have hl2 : i < s.data.size := hl
    rw [Array.getElem?_map, Array.getElem?_eq_getElem hl2]
    simp
set_option maxHeartbeats 400000 in
theorem digits_any (s : ByteArray) (w : World) (hs : s.data.toList.length ≤ 2147483648) :
    Calls Try.prog 34 #[.string s] w (RetIntsB (digL s.data.toList).1 (digL s.data.toList).2 w) := by
  obtain ⟨cap, W, hcv, hbW, hsz, hcells⟩ := bytes_conv s w
  generalize s.data.toList = l at *
  obtain ⟨zs, hzs⟩ : ∃ zs, zs = l.map digOf := ⟨_, rfl⟩
  have hzl : zs.length = l.length := by rw [hzs, List.length_map]
  have hza : ∀ k (h : k < l.length), zs.take (k + 1) = zs.take k ++ [(l[k].toNat : Int) - 48] := by
    intro k h
    rw [hzs, ← List.map_take, map_take_succ digOf h, List.map_take]; rfl
  have HZ := Lib.hid (And.intro hzs (And.intro hzl hza))
  have HC := Lib.hid hcells
  clear hcells hzs hzl hza
  go_enter Try.func34, Try.ntmps34
  go_wp2
  go_loopw [4, 10] (fun v i wr => ∃ k : Nat, k ≤ l.length ∧ i = .int .i64 k ∧ OwnI 3 wr W.heap.size v (zs.take k) ∧ Below W.heap.size W wr ∧ Hid ((l.take k).all isDig = true)) (fun _ i _ => l.length - (intOf i).toNat)
  case atStart => exact ⟨0, Nat.zero_le _, rfl, OwnI.nil _ _ _, Below.refl _ _, Lib.hid rfl⟩
  case round =>
    obtain ⟨k, hk, rfl, hown, hb, HT⟩ := hrel
    have hbw := hbW.trans (hb.mono hbW.size)
    by_cases hlt : k < l.length
    · have hc := (hb.cell (p := ⟨w.heap.size, k, none⟩) hsz).trans (HC.out k hlt)
      have hc0 : (l[k].toNat : Int) ≤ 255 := by have := l[k].toNat_lt; omega
      cases hd : isDig l[k]
      · have hbad := Lib.hid (digL_take_bad hlt hd)
        by_cases h1 : (l[k].toNat : Int) < 48
        · clear hd
          go_wp2
          go_ret2
          rw [hbad.out]
          exact ⟨none, 0, rfl, Ints.nil, NewA.none_ _, hbw⟩
        · have h2 : (57 : Int) < l[k].toNat := by
            unfold isDig at hd
            rw [decide_eq_true (by omega)] at hd
            simpa using hd
          clear hd
          go_wp2
          go_ret2
          rw [hbad.out]
          exact ⟨none, 0, rfl, Ints.nil, NewA.none_ _, hbw⟩
      · have hall := Lib.hid (all_take_succ hlt HT.out hd)
        have hmap := Lib.hid (HZ.out.2.2 k hlt)
        obtain ⟨h1, h2⟩ : 48 ≤ (l[k].toNat : Int) ∧ (l[k].toNat : Int) ≤ 57 := by simpa [isDig] using hd
        have hlen : (zs.take k).length < 4294967296 := by rw [List.length_take]; omega
        clear hd
        go_wp2_with (at_builtin; refine wpList_pushI rfl _ _ _ rfl W.heap.size 3 Try.underlying23 Try.infoInt _ _ rfl hown _ rfl hlen hb.size ?_)
        intro v' w1 hown2 hb2
        have hb3 := hb.trans hb2
        go_wp2
        go_roundw
        case rel => exact ⟨k + 1, by omega, by go_num, by rw [hmap.out]; exact hown2, hb3, hall⟩
        case measure => simp [intOf]; omega
    · obtain rfl : k = l.length := by omega
      have hfin : digL l = (zs, asc (-1) 9 zs) := by
        have := HT.out
        rw [List.take_length] at this
        unfold digL
        rw [if_pos this, HZ.out.1]
      rw [← HZ.out.2.1, List.take_length] at hown
      have HF := Lib.hid hfin
      clear hfin
      obtain ⟨A, c, hv, hi, hnew⟩ := hown.ints
      subst hv
      have R := Lib.hid (ascends_any A zs c 9 wr hi)
      go_wp2_with fail
      refine R.out.mono ?_
      rintro e w' ⟨rfl, rfl⟩
      go_wp2
      go_ret2
      rw [HF.out]
      exact ⟨A, c, rfl, hi, hnew.mono hbW.size, hbw⟩
end Go.Proofs.Ytnobnlbjgaanmaa
