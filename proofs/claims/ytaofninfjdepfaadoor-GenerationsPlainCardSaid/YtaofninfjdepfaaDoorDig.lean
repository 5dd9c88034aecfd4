/-
  generations.digits: strictly ascending digits of a text. At most 2^31 bytes.
-/
import Derived.Test.YtaofninfjdepfaaDoorNext
import Derived.Test.YtaofninfjdepfaaDoorBuilder
import Derived.Test.YtaofninfjdepfaaDoorShelf
namespace Go.Proofs.YtaofninfjdepfaaDoor
open Go.RowKit
set_option maxRecDepth 100000
set_option linter.unusedVariables false
set_option linter.unusedSimpArgs false

def isDig (c : UInt8) : Bool := decide (48 ≤ (c.toNat : Int)) && decide ((c.toNat : Int) ≤ 57)
def digOf (c : UInt8) : Int := (c.toNat : Int) - 48
/-- what []byte(s) makes -/
theorem bytes_conv (s : ByteArray) (w : World) : ∃ cap W, (convert 9 39 (.string s)).run Tryd.prog w = .ok (.slice (some ⟨w.heap.size, 0, none⟩) s.data.toList.length cap) W ∧ Below w.heap.size w W ∧ w.heap.size < W.heap.size ∧
    ∀ i (h : i < s.data.toList.length), W.cell? ⟨w.heap.size, i, none⟩ = some (.int .u8 s.data.toList[i].toNat) := by
  have hr := run_bytes_of_string (P := Tryd.prog) w 9 39 5 s Tryd.underlying9 Tryd.underlying39 Tryd.underlying5
  refine ⟨_, _, hr, ?_, ?_, ?_⟩
  · exact ((Below.refl w.heap.size w).drew).alloc (Nat.le_refl _) _
  · simp
  · intro i h
    have hl : i < s.size := by simpa using h
    have hc := cell_of_row (w.drew.alloc (.cells (bytesRow s (grownCap w s.size 0 5)) 5 ((bytesRow s (grownCap w s.size 0 5)).size, (bytesRow s (grownCap w s.size 0 5)).size + 1))) w.heap.size i _ _ _ (heap_alloc_new w.drew _)
    rw [hc]
    unfold bytesRow
    rw [Array.getElem?_append_left (by simpa using hl)]
    have hl2 : i < s.data.size := hl
    rw [Array.getElem?_map, Array.getElem?_eq_getElem hl2]
    simp
def RetIntsN (zs : List Int) (n : Int) (w : World) (e : Ending) (w' : World) : Prop := ∃ A c, e = .returned (.tuple #[.slice A zs.length c, .int .i64 n]) ∧ Ints w' A zs ∧ NewA w.heap.size A ∧ Below w.heap.size w w'
theorem ret_pair {v : Value} {a b : Int} (h : a = b) : Ending.returned (.tuple #[v, .int .i64 a]) = .returned (.tuple #[v, .int .i64 b]) := by rw [h]
/-- the digits that ascend from above last -/
def digAsc (last : Int) : List UInt8 → List Int
  | [] => []
  | c :: l => if isDig c && decide (last < digOf c) then digOf c :: digAsc (digOf c) l else []
def lastZ (zs : List Int) : Int := zs.getLast?.getD (-1)
theorem lastZ_snoc (zs : List Int) (z : Int) : lastZ (zs ++ [z]) = z := by simp [lastZ]
theorem lastZ_at {zs : List Int} (h : zs ≠ []) : lastZ zs = zs[zs.length - 1]'(by have := List.length_pos_iff.2 h; omega) := by
  unfold lastZ
  rw [List.getLast?_eq_some_getLast h, List.getLast_eq_getElem]
  rfl
theorem digAsc_yes {last : Int} {l : List UInt8} {j : Nat} (h : j < l.length) (hd : isDig l[j] = true) (hl : last < digOf l[j]) : digAsc last (l.drop j) = digOf l[j] :: digAsc (digOf l[j]) (l.drop (j + 1)) := by
  rw [List.drop_eq_getElem_cons h]
  simp [digAsc, hd, hl]
theorem digAsc_no {last : Int} {l : List UInt8} {j : Nat} (h : j < l.length) (hd : isDig l[j] = false ∨ ¬ last < digOf l[j]) : digAsc last (l.drop j) = [] := by
  rw [List.drop_eq_getElem_cons h]
  rcases hd with hd | hd <;> simp [digAsc, hd]
theorem get_byte (s : ByteArray) (j : Nat) (h : j < s.size) (h' : j < s.data.toList.length) : s.data.toList[j] = s[j] := by
  rfl
def digG (l : List UInt8) : List Int × Bool := if (digAsc (-1) l).length = l.length then (digAsc (-1) l, true) else ([], false)
theorem digG_no {l : List UInt8} {zs : List Int} (h : digAsc (-1) l = zs) (hl : zs.length < l.length) : digG l = ([], false) := by
  unfold digG
  rw [if_neg (by rw [h]; omega)]
set_option maxHeartbeats 1000000 in
theorem digits_any (s : ByteArray) (w : World) (hs : s.data.toList.length ≤ 2147483648) :
    Calls Tryd.prog 29 #[.string s] w (RetIntsB (digG s.data.toList).1 (digG s.data.toList).2 w) := by
  obtain ⟨cap, W, hcv, hbW, hsz, hcells⟩ := bytes_conv s w
  generalize s.data.toList = l at *
  have HC := Lib.hid hcells
  clear hcells
  go_enter Tryd.func29, Tryd.ntmps29
  go_wp2
  go_loopw [4, 11] (fun v i wr => ∃ zs : List Int, zs.length ≤ l.length ∧ i = .int .i64 zs.length ∧ OwnI 3 wr W.heap.size v zs ∧ Below W.heap.size W wr ∧ Hid (digAsc (-1) l = zs ++ digAsc (lastZ zs) (l.drop zs.length))) (fun _ i _ => l.length - (intOf i).toNat)
  case atStart => exact ⟨[], Nat.zero_le _, rfl, OwnI.nil _ _ _, Below.refl _ _, Lib.hid rfl⟩
  case round =>
    obtain ⟨zs, hk, rfl, hown, hb, HT⟩ := hrel
    obtain ⟨A, c, hv, hi, hnew⟩ := hown.ints
    subst hv
    have hbw := hbW.trans (hb.mono hbW.size)
    by_cases hlt : zs.length < l.length
    · have hc := (hb.cell (p := ⟨w.heap.size, zs.length, none⟩) hsz).trans (HC.out zs.length hlt)
      have hc0 : (l[zs.length].toNat : Int) ≤ 255 := by have := l[zs.length].toNat_lt; omega
      have hdg : isDig l[zs.length] = (decide ((48 : Int) ≤ l[zs.length].toNat) && decide ((l[zs.length].toNat : Int) ≤ 57)) := rfl
      have hdo : digOf l[zs.length] = (l[zs.length].toNat : Int) - 48 := rfl
      have HD := Lib.hid (And.intro hdg hdo)
      clear hdg hdo
      by_cases h1 : (l[zs.length].toNat : Int) < 48
      · have hno := Lib.hid (digG_no (zs := zs) (by rw [HT.out, digAsc_no hlt (.inl (by rw [HD.out.1, decide_eq_false (by omega)]; rfl)), List.append_nil]) hlt)
        go_wp2
        go_ret2
        rw [hno.out]
        exact ⟨none, 0, rfl, Ints.nil, NewA.none_ _, hbw⟩
      · by_cases h2 : (57 : Int) < l[zs.length].toNat
        · have hno := Lib.hid (digG_no (zs := zs) (by rw [HT.out, digAsc_no hlt (.inl (by rw [HD.out.1, decide_eq_false (p := (l[zs.length].toNat : Int) ≤ 57) (by omega), Bool.and_false])), List.append_nil]) hlt)
          go_wp2
          go_ret2
          rw [hno.out]
          exact ⟨none, 0, rfl, Ints.nil, NewA.none_ _, hbw⟩
        · have hdig : isDig l[zs.length] = true := by rw [HD.out.1, decide_eq_true (by omega), decide_eq_true (by omega)]; rfl
          by_cases h3 : zs.length = 0
          · obtain rfl : zs = [] := List.eq_nil_of_length_eq_zero h3
            have g0 : 0 < l.length := hlt
            have gc : wr.cell? ⟨w.heap.size, 0, none⟩ = some (.int .u8 l[0].toNat) := hc
            have g1 : ¬ (l[0].toNat : Int) < 48 := h1
            have g2 : ¬ (57 : Int) < l[0].toNat := h2
            have g3 : (l[0].toNat : Int) ≤ 255 := hc0
            have hnx : digAsc (-1) l = [(l[0].toNat : Int) - 48] ++ digAsc (lastZ [(l[0].toNat : Int) - 48]) (l.drop 1) := by
              conv => lhs; rw [HT.out]
              rw [digAsc_yes hlt hdig (by rw [HD.out.2]; show (-1 : Int) < _; omega), HD.out.2]; rfl
            have HN := Lib.hid hnx
            clear hnx hdig h3 hc h1 h2 hc0 HD
            go_wp2_with (at_builtin; refine wpList_pushI rfl _ _ _ rfl W.heap.size 3 Tryd.underlying24 Tryd.infoInt _ [] rfl hown _ rfl (by simp) hb.size ?_)
            intro v' w1 hown2 hb2
            have hb3 := hb.trans hb2
            go_wp2
            go_roundw
            case rel => exact ⟨[(l[0].toNat : Int) - 48], g0, by go_num, hown2, hb3, HN⟩
            case measure => simp [intOf]; omega
          · have hpos : 0 < zs.length := by omega
            obtain ⟨b1, o1, hA, -, hcl⟩ := hi.at_ (k := zs.length - 1) (by omega)
            subst hA
            have hlz : lastZ zs = zs[zs.length - 1] := lastZ_at (by rintro rfl; simp at h3)
            have HL := Lib.hid hlz
            have d2 : ((zs.length : Int) == 0) = false := by simp; intro h; subst h; simp at h3
            have hidx : ((zs.length : Int) - 1).toNat = zs.length - 1 := by omega
            clear hlz
            by_cases h4 : (l[zs.length].toNat : Int) - 48 ≤ zs[zs.length - 1]
            · have hno := Lib.hid (digG_no (zs := zs) (by rw [HT.out, digAsc_no hlt (.inr (by rw [HD.out.2, HL.out]; omega)), List.append_nil]) hlt)
              clear hdig h3
              go_wp2
              go_ret2
              rw [hno.out]
              exact ⟨none, 0, rfl, Ints.nil, NewA.none_ _, hbw⟩
            · have hnx : digAsc (-1) l = (zs ++ [(l[zs.length].toNat : Int) - 48]) ++ digAsc (lastZ (zs ++ [(l[zs.length].toNat : Int) - 48])) (l.drop (zs.length + 1)) := by
                rw [lastZ_snoc]
                conv => lhs; rw [HT.out]
                rw [digAsc_yes hlt hdig (by rw [HD.out.2, HL.out]; omega), HD.out.2, List.append_assoc]; rfl
              have HN := Lib.hid hnx
              have hlen4 : zs.length < 4294967296 := by omega
              clear hnx hdig h3
              go_wp2_with (at_builtin; refine wpList_pushI rfl _ _ _ rfl W.heap.size 3 Tryd.underlying24 Tryd.infoInt _ _ rfl hown _ rfl hlen4 hb.size ?_)
              intro v' w1 hown2 hb2
              have hb3 := hb.trans hb2
              go_wp2
              go_roundw
              case rel => exact ⟨zs ++ [(l[zs.length].toNat : Int) - 48], by rw [List.length_append]; simp; omega, by rw [List.length_append]; go_num, hown2, hb3, by rw [List.length_append]; exact HN⟩
              case measure => simp [intOf]; omega
    · have hle : zs.length = l.length := by omega
      have hfin : digG l = (zs, true) := by
        have h := HT.out
        rw [hle, List.drop_length] at h
        have h2 : digAsc (-1) l = zs := by rw [h]; simp [digAsc]
        unfold digG
        rw [h2, if_pos hle]
      have HF := Lib.hid hfin
      clear hfin hle
      go_wp2
      go_ret2
      rw [HF.out]
      exact ⟨A, c, rfl, hi, hnew.mono hbW.size, hbw⟩
end Go.Proofs.YtaofninfjdepfaaDoor
