/-
  rle.header and the reference's header. At most 2^31 bytes.
-/
import Derived.Test.YtekmldneinnmoaaDoorHdrP
import Derived.Test.YtekmldneinnmoaaDoorShelf
import Derived.Test.YtekmldneinnmoaaDoorJ
namespace Go.Proofs.YtekmldneinnmoaaDoor
open Go.RowKit
set_option maxRecDepth 100000
set_option linter.unusedVariables false
set_option linter.unusedSimpArgs false

theorem cut_len (a sep : List UInt8) : (Lib.cut a sep).1.length ≤ a.length ∧ (Lib.cut a sep).2.1.length ≤ a.length := by
  unfold Lib.cut
  split
  · refine ⟨?_, ?_⟩
    · show (a.take _).length ≤ _
      rw [List.length_take]; omega
    · show (a.drop _).length ≤ _
      rw [List.length_drop]; omega
  · exact ⟨Nat.le_refl _, Nat.zero_le _⟩
theorem trim_len (a p : List UInt8) : (Lib.trimPrefix a p).length ≤ a.length := by
  unfold Lib.trimPrefix
  split
  · rw [List.length_drop]; omega
  · exact Nat.le_refl _
/-- the library's cell -/
def GCell (w : World) : Prop := ∃ m, w.cell? ⟨0, 0, none⟩ = some (.int .i64 m)
theorem GCell.ext {w w' : World} (h : GCell w) (hb : Below w.heap.size w w') : GCell w' := by
  obtain ⟨m, hm⟩ := h
  exact ⟨m, by rw [hb.cell (World.block_lt_of_cell? _ _ hm)]; exact hm⟩
theorem cut_any (l sep : List UInt8) (w : World) (hg : GCell w) (hs : l.length < 4294967281) : Calls Tryd.prog 34 #[.string ⟨l.toArray⟩, .string ⟨sep.toArray⟩] w fun e w' => e = .returned (.tuple #[.string ⟨(Lib.cut l sep).1.toArray⟩, .string ⟨(Lib.cut l sep).2.1.toArray⟩, .bool (Lib.cut l sep).2.2]) ∧ Below w.heap.size w w' := by
  obtain ⟨m, hm⟩ := hg
  refine (Tryd.strings_Cut ⟨l.toArray⟩ ⟨sep.toArray⟩ m w (by show l.toArray.size < _; simpa using hs) hm).mono ?_
  rintro e w' ⟨rfl, n, rfl⟩
  exact ⟨rfl, ⟨rfl, rfl, rfl, Nat.le_refl _, fun _ _ => rfl⟩⟩
theorem num_any (l : List UInt8) (d : Nat) (w : World) (hd : d ≤ 9) (hs : l.length ≤ 2147483648) : Calls Tryd.prog 51 #[.string ⟨l.toArray⟩, .int .i64 d] w fun e w' => e = .returned (.tuple #[.int .i64 (numT d l).1, .bool (numT d l).2]) ∧ Below w.heap.size w w' :=
  number_any ⟨l.toArray⟩ d w hd (by show l.toArray.size ≤ _; simpa using hs)
set_option maxHeartbeats 2000000 in
theorem header_any (l : List UInt8) (w : World) (hg : GCell w) (hs : l.length ≤ 65536) :
    Calls Tryd.prog 35 #[.string ⟨l.toArray⟩] w fun e w' => e = .returned (.tuple #[.int .i64 (hdrT l).1, .int .i64 (hdrT l).2.1, .string ⟨(hdrT l).2.2.1.toArray⟩, .bool (hdrT l).2.2.2]) ∧ Below w.heap.size w w' := by
  have HP : Hid (Calls Tryd.prog 50 #[.string ⟨l.toArray⟩, .string ⟨#[120, 32, 61, 32]⟩] w fun e w' => e = .returned (.tuple #[.string ⟨(Lib.trimPrefix l tx).toArray⟩, .bool (Lib.hasPrefix l tx)]) ∧ w' = w) := Lib.hid (Tryd.strings_CutPrefix ⟨l.toArray⟩ ⟨tx.toArray⟩ w)
  have h1 := trim_len l tx
  obtain ⟨a, ha⟩ : ∃ a, a = Lib.trimPrefix l tx := ⟨_, rfl⟩
  rw [← ha] at h1 HP
  cases hp : Lib.hasPrefix l tx
  · have HN : Hid (hdrT l = (0, 0, [], false)) := Lib.hid (by unfold hdrT; rw [if_pos hp])
    rw [hp] at HP
    clear hp
    go_enter Tryd.func35, Tryd.ntmps35
    go_wp2_with fail
    refine HP.out.mono ?_
    rintro e w1 ⟨rfl, hw1⟩
    subst hw1
    go_wp2
    refine bodyPost_ret (v := .tuple #[.int .i64 0, .int .i64 0, .string ⟨#[]⟩, .bool false]) (by simp [results, Tryd.results35, go_sem]) rfl ?_
    rw [HN.out]
    exact ⟨rfl, Below.refl _ _⟩
  have HPT := Lib.hid hp
  rw [hp] at HP
  have HC : Hid (Calls Tryd.prog 34 #[.string ⟨a.toArray⟩, .string ⟨#[44, 32, 121, 32, 61, 32]⟩] w fun e w' => e = .returned (.tuple #[.string ⟨(Lib.cut a ty).1.toArray⟩, .string ⟨(Lib.cut a ty).2.1.toArray⟩, .bool (Lib.cut a ty).2.2]) ∧ Below w.heap.size w w') := Lib.hid (cut_any a ty w hg (by omega))
  have h2 := cut_len a ty
  have HT : Hid (hdrT l = if (Lib.cut a ty).2.2 = false then (0, 0, [], false) else ((numT 9 (Lib.cut a ty).1).1, (numT 9 (Lib.cut (Lib.cut a ty).2.1 tr).1).1, (Lib.cut (Lib.cut a ty).2.1 tr).2.1, (Lib.cut (Lib.cut a ty).2.1 tr).2.2 && (numT 9 (Lib.cut a ty).1).2 && (numT 9 (Lib.cut (Lib.cut a ty).2.1 tr).1).2)) := Lib.hid (by
    unfold hdrT
    rw [if_neg (by rw [HPT.out]; simp), ← ha])
  clear hp ha
  obtain ⟨c1, hc1⟩ : ∃ c, c = Lib.cut a ty := ⟨_, rfl⟩
  rw [← hc1] at HC HT h2
  clear hc1
  obtain ⟨u, v, ok⟩ := c1
  dsimp only at HC HT h2
  cases ok
  · have HN : Hid (hdrT l = (0, 0, [], false)) := Lib.hid (by rw [HT.out, if_pos rfl])
    go_enter Tryd.func35, Tryd.ntmps35
    go_wp2_with fail
    refine HP.out.mono ?_
    rintro e w1 ⟨rfl, hw1⟩
    have hw2 := hw1.symm
    clear hw1
    subst hw2
    go_wp2_with fail
    refine HC.out.mono ?_
    rintro e w1 ⟨rfl, hb1⟩
    have HB := Lib.hid hb1
    clear hb1
    go_wp2
    refine bodyPost_ret (v := .tuple #[.int .i64 0, .int .i64 0, .string ⟨#[]⟩, .bool false]) (by simp [results, Tryd.results35, go_sem]) rfl ?_
    rw [HN.out]
    exact ⟨rfl, HB.out⟩
  rw [if_neg (by simp)] at HT
  have HC2 : Hid (∀ w', Below w.heap.size w w' → Calls Tryd.prog 34 #[.string ⟨v.toArray⟩, .string ⟨#[44, 32, 114, 117, 108, 101, 32, 61, 32]⟩] w' fun e w'' => e = .returned (.tuple #[.string ⟨(Lib.cut v tr).1.toArray⟩, .string ⟨(Lib.cut v tr).2.1.toArray⟩, .bool (Lib.cut v tr).2.2]) ∧ Below w'.heap.size w' w'') := Lib.hid (fun w' hb => cut_any v tr w' (hg.ext hb) (by omega))
  have h3 := cut_len v tr
  obtain ⟨c2, hc2⟩ : ∃ c, c = Lib.cut v tr := ⟨_, rfl⟩
  rw [← hc2] at HC2 HT h3
  clear hc2
  obtain ⟨x, r, ok⟩ := c2
  dsimp only at HC2 HT h3
  have HN1 := Lib.hid (fun w' => num_any u 9 w' (by omega) (by omega))
  have HN2 := Lib.hid (fun w' => num_any x 9 w' (by omega) (by omega))
  obtain ⟨n1, hn1⟩ : ∃ n, n = numT 9 u := ⟨_, rfl⟩
  obtain ⟨n2, hn2⟩ : ∃ n, n = numT 9 x := ⟨_, rfl⟩
  rw [← hn1] at HN1 HT
  rw [← hn2] at HN2 HT
  clear hn1 hn2 h1 h2 h3
  obtain ⟨n1, b1⟩ := n1
  obtain ⟨n2, b2⟩ := n2
  dsimp only at HN1 HN2 HT
  go_enter Tryd.func35, Tryd.ntmps35
  go_wp2_with fail
  refine HP.out.mono ?_
  rintro e w1 ⟨rfl, hw1⟩
  have hw2 := hw1.symm
  clear hw1
  subst hw2
  go_wp2_with fail
  refine HC.out.mono ?_
  rintro e w1 ⟨rfl, hb1⟩
  have HB1 := Lib.hid hb1
  clear hb1
  have HD2 := Lib.hid (HC2.out w1 HB1.out)
  go_wp2_with fail
  refine HD2.out.mono ?_
  rintro e w2 ⟨rfl, hb2⟩
  have HB2 := Lib.hid (HB1.out.trans (hb2.mono HB1.out.size))
  clear hb2
  have HD3 : Hid (Calls Tryd.prog 51 #[.string ⟨u.toArray⟩, .int .i64 9] w2 fun e w' => e = .returned (.tuple #[.int .i64 n1, .bool b1]) ∧ Below w2.heap.size w2 w') := Lib.hid (HN1.out w2)
  go_wp2_with fail
  refine HD3.out.mono ?_
  rintro e w3 ⟨rfl, hb3⟩
  have HB3 := Lib.hid (HB2.out.trans (hb3.mono HB2.out.size))
  clear hb3
  have HD4 : Hid (Calls Tryd.prog 51 #[.string ⟨x.toArray⟩, .int .i64 9] w3 fun e w' => e = .returned (.tuple #[.int .i64 n2, .bool b2]) ∧ Below w3.heap.size w3 w') := Lib.hid (HN2.out w3)
  go_wp2_with fail
  refine HD4.out.mono ?_
  rintro e w4 ⟨rfl, hb4⟩
  have HB4 := Lib.hid (HB3.out.trans (hb4.mono HB3.out.size))
  clear hb4
  cases ok <;> cases b1 <;> cases b2
  · go_wp2
    refine bodyPost_ret (v := .tuple #[.int .i64 n1, .int .i64 n2, .string ⟨r.toArray⟩, .bool false]) (by simp [results, Tryd.results35, go_sem]) rfl ?_
    rw [HT.out]
    exact ⟨rfl, HB4.out⟩
  · go_wp2
    refine bodyPost_ret (v := .tuple #[.int .i64 n1, .int .i64 n2, .string ⟨r.toArray⟩, .bool false]) (by simp [results, Tryd.results35, go_sem]) rfl ?_
    rw [HT.out]
    exact ⟨rfl, HB4.out⟩
  · go_wp2
    refine bodyPost_ret (v := .tuple #[.int .i64 n1, .int .i64 n2, .string ⟨r.toArray⟩, .bool false]) (by simp [results, Tryd.results35, go_sem]) rfl ?_
    rw [HT.out]
    exact ⟨rfl, HB4.out⟩
  · go_wp2
    refine bodyPost_ret (v := .tuple #[.int .i64 n1, .int .i64 n2, .string ⟨r.toArray⟩, .bool false]) (by simp [results, Tryd.results35, go_sem]) rfl ?_
    rw [HT.out]
    exact ⟨rfl, HB4.out⟩
  · go_wp2
    refine bodyPost_ret (v := .tuple #[.int .i64 n1, .int .i64 n2, .string ⟨r.toArray⟩, .bool false]) (by simp [results, Tryd.results35, go_sem]) rfl ?_
    rw [HT.out]
    exact ⟨rfl, HB4.out⟩
  · go_wp2
    refine bodyPost_ret (v := .tuple #[.int .i64 n1, .int .i64 n2, .string ⟨r.toArray⟩, .bool false]) (by simp [results, Tryd.results35, go_sem]) rfl ?_
    rw [HT.out]
    exact ⟨rfl, HB4.out⟩
  · go_wp2
    refine bodyPost_ret (v := .tuple #[.int .i64 n1, .int .i64 n2, .string ⟨r.toArray⟩, .bool false]) (by simp [results, Tryd.results35, go_sem]) rfl ?_
    rw [HT.out]
    exact ⟨rfl, HB4.out⟩
  · go_wp2
    refine bodyPost_ret (v := .tuple #[.int .i64 n1, .int .i64 n2, .string ⟨r.toArray⟩, .bool true]) (by simp [results, Tryd.results35, go_sem]) rfl ?_
    rw [HT.out]
    exact ⟨rfl, HB4.out⟩
theorem afterL_bd (l t : List UInt8) (p : Int) : -1 ≤ afterL l p t ∧ afterL l p t ≤ l.length := by
  unfold afterL
  split <;> omega
theorem numQ_bd {l : List UInt8} {p m : Nat} (hp : p ≤ l.length) (hm : m ≤ 9) : 0 ≤ (numQ m l p).2 ∧ (numQ m l p).2 ≤ l.length ∧ -1 ≤ (numQ m l p).1 ∧ (numQ m l p).1 < 10000000000 := by
  unfold numQ
  have h := digRun_le (l.drop p)
  rw [List.length_drop] at h
  split
  · rename_i ho
    unfold okN at ho
    simp only [Bool.and_eq_true, decide_eq_true_eq] at ho
    have := numL_bd (digRun_all (l.drop p)) (by omega)
    dsimp only
    omega
  · dsimp only
    omega
theorem lineOf_yes {l : List UInt8} {j : Nat} (h : j < l.length) (hd : ¬ l[j] = 10) : lineOf (l.drop j) = l[j] :: lineOf (l.drop (j + 1)) := by
  rw [List.drop_eq_getElem_cons h]
  unfold lineOf
  rw [List.takeWhile_cons, if_pos (by simpa using hd)]
theorem lineOf_no {l : List UInt8} {j : Nat} (h : j < l.length) (hd : l[j] = 10) : lineOf (l.drop j) = [] := by
  rw [List.drop_eq_getElem_cons h]
  unfold lineOf
  rw [List.takeWhile_cons, if_neg (by rw [hd]; decide)]
theorem extract_line {s : ByteArray} {l : List UInt8} (hl : l = s.data.toList) {c e : Nat} (h : (lineOf (l.drop c)).length = e - c) : s.extract c e = ⟨(lineOf (l.drop c)).toArray⟩ := by
  have h1 : (s.extract c e).data.toList = lineOf (l.drop c) := by
    have h2 := Lib.extract_toList s c e
    rw [ByteArray.toList_eq] at h2
    rw [h2, ← hl, ← h]
    have h3 := line_split (l.drop c)
    have h4 : (l.drop c).take (lineOf (l.drop c)).length = (lineOf (l.drop c) ++ (l.drop c).drop (lineOf (l.drop c)).length).take (lineOf (l.drop c)).length := by rw [← h3]
    rw [h4, List.take_left]
  have h5 : s.extract c e = ⟨⟨(s.extract c e).data.toList⟩⟩ := rfl
  rw [h5, h1]
structure RhJ (w0 : World) (wv : Int) (hv : Int) (s : ByteArray) (cp : Nat) (ep : Nat) (r : List UInt8) (q : Int) (b0 b1 b2 b3 b4 b5 b6 b7 b8 b9 b10 b11 b12 b13 b14 : Bool) (v61 v62 v63 v64 v65 v66 v67 v68 v69 v70 v71 v4 v5 v6 v7 : Value) (w : World) : Prop where
  below : Below w0.heap.size w0 w
  h0 : b0 = true → v61 = .int .i64 wv
  h1 : b1 = true → v62 = .int .i64 hv
  h2 : b2 = true → v63 = .string s
  h3 : b3 = true → v64 = .int .i64 cp
  h4 : b4 = true → v65 = .int .i64 ep
  h5 : b5 = true → v66 = .string ⟨r.toArray⟩
  h6 : b6 = true → v67 = .int .i64 ep
  h7 : b7 = true → v68 = .int .i64 ((ep : Int) + 1)
  h8 : b8 = true → v69 = .string s
  h9 : b9 = true → v70 = .int .i64 s.size
  h10 : b10 = true → v71 = .int .i64 q
  h11 : b11 = true → v4 = .int .i64 wv
  h12 : b12 = true → v5 = .int .i64 hv
  h13 : b13 = true → v6 = .string ⟨r.toArray⟩
  h14 : b14 = true → v7 = .int .i64 q
section
variable {w0 : World} {wv : Int} {hv : Int} {s : ByteArray} {cp : Nat} {ep : Nat} {r : List UInt8} {q : Int} {b0 b1 b2 b3 b4 b5 b6 b7 b8 b9 b10 b11 b12 b13 b14 : Bool} {v61 v62 v63 v64 v65 v66 v67 v68 v69 v70 v71 v4 v5 v6 v7 : Value} {w w' : World}
theorem RhJ.world (H : RhJ w0 wv hv s cp ep r q b0 b1 b2 b3 b4 b5 b6 b7 b8 b9 b10 b11 b12 b13 b14 v61 v62 v63 v64 v65 v66 v67 v68 v69 v70 v71 v4 v5 v6 v7 w) (hb : Below w.heap.size w w') : RhJ w0 wv hv s cp ep r q b0 b1 b2 b3 b4 b5 b6 b7 b8 b9 b10 b11 b12 b13 b14 v61 v62 v63 v64 v65 v66 v67 v68 v69 v70 v71 v4 v5 v6 v7 w' :=
  ⟨H.below.trans (hb.mono H.below.size), H.h0, H.h1, H.h2, H.h3, H.h4, H.h5, H.h6, H.h7, H.h8, H.h9, H.h10, H.h11, H.h12, H.h13, H.h14⟩
end
set_option maxHeartbeats 8000000 in
theorem rheader_any (s : ByteArray) (p : Nat) (w : World) (hp : p ≤ s.size) (hs : s.size ≤ 2147483647) :
    Calls Tryd.prog 37 #[.string s, .int .i64 p] w fun e w' => e = .returned (.tuple #[.int .i64 (hdrQ s.data.toList p).1, .int .i64 (hdrQ s.data.toList p).2.1, .string ⟨(hdrQ s.data.toList p).2.2.1.toArray⟩, .int .i64 (hdrQ s.data.toList p).2.2.2]) ∧ Below w.heap.size w w' := by
  have H1 : Hid (Calls Tryd.prog 53 #[.string s, .int .i64 p, .string ⟨#[120, 32, 61, 32]⟩] w fun e w' => e = .returned (.int .i64 (afterL s.data.toList p tx)) ∧ w' = w) := Lib.hid (after_any s ⟨tx.toArray⟩ p w (by omega) (by decide) (by omega) (by omega))
  obtain ⟨l, hl⟩ : ∃ l, l = s.data.toList := ⟨_, rfl⟩
  have hlen : l.length = s.size := by rw [hl]; rfl
  have hgb : ∀ j (h : j < s.size) (h' : j < l.length), l[j] = s[j] := by subst hl; exact get_byte s
  have HG := Lib.hid (And.intro hlen hgb)
  have HL := Lib.hid hl
  clear hgb
  rw [← hl] at H1
  rw [← hl]
  have hb1 := afterL_bd l tx p
  have HT : Hid (hdrQ l p = if afterL l p tx < 0 then (0, 0, [], -1)
    else if (numQ 9 l (afterL l p tx).toNat).1 < 0 ∨ afterL l (numQ 9 l (afterL l p tx).toNat).2 ty < 0 then (0, 0, [], -1)
    else if (numQ 9 l (afterL l (numQ 9 l (afterL l p tx).toNat).2 ty).toNat).1 < 0 ∨ afterL l (numQ 9 l (afterL l (numQ 9 l (afterL l p tx).toNat).2 ty).toNat).2 tr < 0 then (0, 0, [], -1)
    else ((numQ 9 l (afterL l p tx).toNat).1, (numQ 9 l (afterL l (numQ 9 l (afterL l p tx).toNat).2 ty).toNat).1,
      lineOf (l.drop (afterL l (numQ 9 l (afterL l (numQ 9 l (afterL l p tx).toNat).2 ty).toNat).2 tr).toNat),
      min (afterL l (numQ 9 l (afterL l (numQ 9 l (afterL l p tx).toNat).2 ty).toNat).2 tr + (lineOf (l.drop (afterL l (numQ 9 l (afterL l (numQ 9 l (afterL l p tx).toNat).2 ty).toNat).2 tr).toNat)).length + 1) l.length)) := Lib.hid (by rw [hdrQ])
  clear hl
  obtain ⟨a1, ha1⟩ : ∃ a, a = afterL l p tx := ⟨_, rfl⟩
  rw [← ha1] at H1 hb1 HT
  clear ha1
  have ENTER : True := trivial
  by_cases h1 : a1 < 0
  · have HN : Hid (hdrQ l p = (0, 0, [], -1)) := Lib.hid (by rw [HT.out, if_pos h1])
    have d1 : decide (a1 < 0) = true := decide_eq_true h1
    go_enter Tryd.func37, Tryd.ntmps37
    go_wp2_with fail
    refine H1.out.mono ?_
    rintro e w1 ⟨rfl, hw1⟩
    have hw2 := hw1.symm
    clear hw1
    subst hw2
    go_wp2
    refine bodyPost_ret (v := .tuple #[.int .i64 0, .int .i64 0, .string ⟨#[]⟩, .int .i64 (-1)]) (by simp [results, Tryd.results37, go_sem]) rfl ?_
    rw [HN.out]
    exact ⟨rfl, Below.refl _ _⟩
  rw [if_neg h1] at HT
  have d1 : decide (a1 < 0) = false := decide_eq_false h1
  obtain ⟨p1, rfl⟩ : ∃ n : Nat, a1 = (n : Int) := ⟨a1.toNat, by omega⟩
  rw [Int.toNat_natCast] at HT
  have HN1 : Hid (Calls Tryd.prog 38 #[.string s, .int .i64 p1, .int .i64 9] w fun e w' => e = .returned (.tuple #[.int .i64 (numQ 9 l p1).1, .int .i64 (numQ 9 l p1).2]) ∧ w' = w) := Lib.hid (by rw [HL.out]; exact numQ_any s p1 9 w (by omega) (by omega) (by omega))
  have hn1 := numQ_bd (l := l) (p := p1) (m := 9) (by omega) (by omega)
  obtain ⟨n1, hq1⟩ : ∃ n, n = numQ 9 l p1 := ⟨_, rfl⟩
  rw [← hq1] at HN1 HT hn1
  clear hq1
  obtain ⟨v1, q1⟩ := n1
  dsimp only at HN1 HT hn1
  have H2 : Hid (Calls Tryd.prog 53 #[.string s, .int .i64 q1, .string ⟨#[44, 32, 121, 32, 61, 32]⟩] w fun e w' => e = .returned (.int .i64 (afterL l q1 ty)) ∧ w' = w) := Lib.hid (by rw [HL.out]; exact after_any s ⟨ty.toArray⟩ q1 w (by omega) (by decide) (by omega) (by omega))
  have hb2 := afterL_bd l ty q1
  obtain ⟨a2, ha2⟩ : ∃ a, a = afterL l q1 ty := ⟨_, rfl⟩
  rw [← ha2] at H2 hb2 HT
  clear ha2
  by_cases h2 : v1 < 0
  · have HN : Hid (hdrQ l p = (0, 0, [], -1)) := Lib.hid (by rw [HT.out, if_pos (.inl h2)])
    have d2 : decide (v1 < 0) = true := decide_eq_true h2
    go_enter Tryd.func37, Tryd.ntmps37
    go_wp2_with fail
    refine H1.out.mono ?_
    rintro e w1 ⟨rfl, hw1⟩
    have hw2 := hw1.symm
    clear hw1
    subst hw2
    go_wp2_with fail
    refine HN1.out.mono ?_
    rintro e w1 ⟨rfl, hw1⟩
    have hw2 := hw1.symm
    clear hw1
    subst hw2
    go_wp2_with fail
    refine H2.out.mono ?_
    rintro e w1 ⟨rfl, hw1⟩
    have hw2 := hw1.symm
    clear hw1
    subst hw2
    go_wp2
    refine bodyPost_ret (v := .tuple #[.int .i64 0, .int .i64 0, .string ⟨#[]⟩, .int .i64 (-1)]) (by simp [results, Tryd.results37, go_sem]) rfl ?_
    rw [HN.out]
    exact ⟨rfl, Below.refl _ _⟩
  have d2 : decide (v1 < 0) = false := decide_eq_false h2
  by_cases h3 : a2 < 0
  · have HN : Hid (hdrQ l p = (0, 0, [], -1)) := Lib.hid (by rw [HT.out, if_pos (.inr h3)])
    have d3 : decide (a2 < 0) = true := decide_eq_true h3
    go_enter Tryd.func37, Tryd.ntmps37
    go_wp2_with fail
    refine H1.out.mono ?_
    rintro e w1 ⟨rfl, hw1⟩
    have hw2 := hw1.symm
    clear hw1
    subst hw2
    go_wp2_with fail
    refine HN1.out.mono ?_
    rintro e w1 ⟨rfl, hw1⟩
    have hw2 := hw1.symm
    clear hw1
    subst hw2
    go_wp2_with fail
    refine H2.out.mono ?_
    rintro e w1 ⟨rfl, hw1⟩
    have hw2 := hw1.symm
    clear hw1
    subst hw2
    go_wp2
    refine bodyPost_ret (v := .tuple #[.int .i64 0, .int .i64 0, .string ⟨#[]⟩, .int .i64 (-1)]) (by simp [results, Tryd.results37, go_sem]) rfl ?_
    rw [HN.out]
    exact ⟨rfl, Below.refl _ _⟩
  have d3 : decide (a2 < 0) = false := decide_eq_false h3
  rw [if_neg (by omega)] at HT
  obtain ⟨p2, rfl⟩ : ∃ n : Nat, a2 = (n : Int) := ⟨a2.toNat, by omega⟩
  rw [Int.toNat_natCast] at HT
  have HN2 : Hid (Calls Tryd.prog 38 #[.string s, .int .i64 p2, .int .i64 9] w fun e w' => e = .returned (.tuple #[.int .i64 (numQ 9 l p2).1, .int .i64 (numQ 9 l p2).2]) ∧ w' = w) := Lib.hid (by rw [HL.out]; exact numQ_any s p2 9 w (by omega) (by omega) (by omega))
  have hn2 := numQ_bd (l := l) (p := p2) (m := 9) (by omega) (by omega)
  obtain ⟨n2, hq2⟩ : ∃ n, n = numQ 9 l p2 := ⟨_, rfl⟩
  rw [← hq2] at HN2 HT hn2
  clear hq2
  obtain ⟨v2, q2⟩ := n2
  dsimp only at HN2 HT hn2
  have H3 : Hid (Calls Tryd.prog 53 #[.string s, .int .i64 q2, .string ⟨#[44, 32, 114, 117, 108, 101, 32, 61, 32]⟩] w fun e w' => e = .returned (.int .i64 (afterL l q2 tr)) ∧ w' = w) := Lib.hid (by rw [HL.out]; exact after_any s ⟨tr.toArray⟩ q2 w (by omega) (by decide) (by omega) (by omega))
  have hb3 := afterL_bd l tr q2
  obtain ⟨a3, ha3⟩ : ∃ a, a = afterL l q2 tr := ⟨_, rfl⟩
  rw [← ha3] at H3 hb3 HT
  clear ha3
  by_cases h4 : v2 < 0
  · have HN : Hid (hdrQ l p = (0, 0, [], -1)) := Lib.hid (by rw [HT.out, if_pos (.inl h4)])
    have d4 : decide (v2 < 0) = true := decide_eq_true h4
    go_enter Tryd.func37, Tryd.ntmps37
    go_wp2_with fail
    refine H1.out.mono ?_
    rintro e w1 ⟨rfl, hw1⟩
    have hw2 := hw1.symm
    clear hw1
    subst hw2
    go_wp2_with fail
    refine HN1.out.mono ?_
    rintro e w1 ⟨rfl, hw1⟩
    have hw2 := hw1.symm
    clear hw1
    subst hw2
    go_wp2_with fail
    refine H2.out.mono ?_
    rintro e w1 ⟨rfl, hw1⟩
    have hw2 := hw1.symm
    clear hw1
    subst hw2
    go_wp2_with fail
    refine HN2.out.mono ?_
    rintro e w1 ⟨rfl, hw1⟩
    have hw2 := hw1.symm
    clear hw1
    subst hw2
    go_wp2_with fail
    refine H3.out.mono ?_
    rintro e w1 ⟨rfl, hw1⟩
    have hw2 := hw1.symm
    clear hw1
    subst hw2
    go_wp2
    refine bodyPost_ret (v := .tuple #[.int .i64 0, .int .i64 0, .string ⟨#[]⟩, .int .i64 (-1)]) (by simp [results, Tryd.results37, go_sem]) rfl ?_
    rw [HN.out]
    exact ⟨rfl, Below.refl _ _⟩
  have d4 : decide (v2 < 0) = false := decide_eq_false h4
  by_cases h5 : a3 < 0
  · have HN : Hid (hdrQ l p = (0, 0, [], -1)) := Lib.hid (by rw [HT.out, if_pos (.inr h5)])
    have d5 : decide (a3 < 0) = true := decide_eq_true h5
    go_enter Tryd.func37, Tryd.ntmps37
    go_wp2_with fail
    refine H1.out.mono ?_
    rintro e w1 ⟨rfl, hw1⟩
    have hw2 := hw1.symm
    clear hw1
    subst hw2
    go_wp2_with fail
    refine HN1.out.mono ?_
    rintro e w1 ⟨rfl, hw1⟩
    have hw2 := hw1.symm
    clear hw1
    subst hw2
    go_wp2_with fail
    refine H2.out.mono ?_
    rintro e w1 ⟨rfl, hw1⟩
    have hw2 := hw1.symm
    clear hw1
    subst hw2
    go_wp2_with fail
    refine HN2.out.mono ?_
    rintro e w1 ⟨rfl, hw1⟩
    have hw2 := hw1.symm
    clear hw1
    subst hw2
    go_wp2_with fail
    refine H3.out.mono ?_
    rintro e w1 ⟨rfl, hw1⟩
    have hw2 := hw1.symm
    clear hw1
    subst hw2
    go_wp2
    refine bodyPost_ret (v := .tuple #[.int .i64 0, .int .i64 0, .string ⟨#[]⟩, .int .i64 (-1)]) (by simp [results, Tryd.results37, go_sem]) rfl ?_
    rw [HN.out]
    exact ⟨rfl, Below.refl _ _⟩
  have d5 : decide (a3 < 0) = false := decide_eq_false h5
  rw [if_neg (by omega)] at HT
  obtain ⟨p3, rfl⟩ : ∃ n : Nat, a3 = (n : Int) := ⟨a3.toNat, by omega⟩
  rw [Int.toNat_natCast] at HT
  have hp3 : p3 ≤ s.size := by omega
  clear hb1 hb2 hb3 hn1 hn2 h1 h2 h3 h4 h5
  go_enter Tryd.func37, Tryd.ntmps37
  go_wp2_with fail
  refine H1.out.mono ?_
  rintro e w1 ⟨rfl, hw1⟩
  have hw2 := hw1.symm
  clear hw1
  subst hw2
  go_wp2_with fail
  refine HN1.out.mono ?_
  rintro e w1 ⟨rfl, hw1⟩
  have hw2 := hw1.symm
  clear hw1
  subst hw2
  go_wp2_with fail
  refine H2.out.mono ?_
  rintro e w1 ⟨rfl, hw1⟩
  have hw2 := hw1.symm
  clear hw1
  subst hw2
  go_wp2_with fail
  refine HN2.out.mono ?_
  rintro e w1 ⟨rfl, hw1⟩
  have hw2 := hw1.symm
  clear hw1
  subst hw2
  go_wp2_with fail
  refine H3.out.mono ?_
  rintro e w1 ⟨rfl, hw1⟩
  have hw2 := hw1.symm
  clear hw1
  subst hw2
  go_wp2
  go_loopw [12] (fun e wr => ∃ (k : Nat) (xs : List UInt8), p3 ≤ k ∧ k ≤ s.size ∧ e = .int .i64 k ∧ wr = w ∧ xs.length + p3 = k ∧ Hid (lineOf (l.drop p3) = xs ++ lineOf (l.drop k))) (fun e _ => s.size - (intOf e).toNat)
  case atStart => exact ⟨p3, [], Nat.le_refl _, hp3, rfl, rfl, by simp, Lib.hid rfl⟩
  case round =>
    obtain ⟨k, xs, hk0, hk, rfl, hw, hxk, HX0⟩ := hrel
    have hw2 := hw.symm
    clear hw
    subst hw2
    by_cases hlt : k < s.size
    · have hlt' : k < l.length := by rw [HG.out.1]; exact hlt
      by_cases hc : s[k] = 10
      · have e1 : ((s[k].toNat : Int) != 10) = false := by rw [hc]; rfl
        have HX1 : Hid (lineOf (l.drop p3) = xs) := Lib.hid (by rw [HX0.out, lineOf_no hlt' (by rw [HG.out.2 k hlt hlt']; exact hc), List.append_nil])
        clear hc
        have HX : Hid (s.extract p3 k = ⟨(lineOf (l.drop p3)).toArray⟩) := Lib.hid (extract_line HL.out (by rw [HX1.out]; omega))
        have HB : Hid (p3 ≤ k ∧ k ≤ s.size ∧ s.size ≤ 2147483647) := Lib.hid ⟨hk0, hk, hs⟩
        have HT2 : Hid (hdrQ l p = (v1, v2, lineOf (l.drop p3), min ((k : Int) + 1) (s.size : Int))) := Lib.hid (by
          rw [HT.out, HG.out.1]
          refine Prod.ext rfl (Prod.ext rfl (Prod.ext rfl ?_))
          show min ((p3 : Int) + ((lineOf (l.drop p3)).length : Int) + 1) _ = _
          rw [HX1.out, show (p3 : Int) + (xs.length : Int) = k by omega])
        obtain ⟨r, hr⟩ : ∃ r, r = lineOf (l.drop p3) := ⟨_, rfl⟩
        obtain ⟨q, hq⟩ : ∃ q, q = min ((k : Int) + 1) (s.size : Int) := ⟨_, rfl⟩
        rw [← hr, ← hq] at HT2
        rw [← hr] at HX
        have HQ := Lib.hid hq.symm
        clear hr hq
        go_upto_region 15 with fail
        refine wp_region_J (by kernel_rfl) (fun listed act w' => ∃ b0 b1 b2 b3 b4 b5 b6 b7 b8 b9 b10 b11 b12 b13 b14 v61 v62 v63 v64 v65 v66 v67 v68 v69 v70 v71 v4 v5 v6 v7, listed = #[b0, b1, b2, b3, b4, b5, b6, b7, b8, b9, b10, b11, b12, b13, b14] ∧ act = Act.mk #[.string s, .int .i64 p1, undef, undef, v4, v5, v6, v7, .int .i64 v1, .int .i64 p2, .int .i64 v2, .int .i64 p3, .int .i64 k, .string s, .int .i64 p, .int .i64 p1, .int .i64 p1, .bool false, .tuple #[.int .i64 v1, .int .i64 q1], .string s, .int .i64 p1, .tuple #[.int .i64 v1, .int .i64 q1], .int .i64 v1, .int .i64 q1, .string s, .int .i64 q1, .int .i64 p2, .int .i64 v1, .bool false, .bool false, .int .i64 p2, .bool false, .bool false, .tuple #[.int .i64 v2, .int .i64 q2], .string s, .int .i64 p2, .tuple #[.int .i64 v2, .int .i64 q2], .int .i64 v2, .int .i64 q2, .string s, .int .i64 q2, .int .i64 p3, .int .i64 v2, .bool false, .bool false, .int .i64 p3, .bool false, .bool false, .int .i64 p3, .int .i64 k, .string s, .int .i64 s.size, .bool true, .bool true, .string s, .int .i64 k, .int .u8 s[k].toNat, .bool false, .bool false, u59, u60, v61, v62, v63, v64, v65, v66, v67, v68, v69, v70, v71] [] ∧ RhJ w v1 v2 s p3 k r q b0 b1 b2 b3 b4 b5 b6 b7 b8 b9 b10 b11 b12 b13 b14 v61 v62 v63 v64 v65 v66 v67 v68 v69 v70 v71 v4 v5 v6 v7 w') ?_ ?_ ?_
        · exact ⟨_, _, _, _, _, _, _, _, _, _, _, _, _, _, _, _, _, _, _, _, _, _, _, _, _, _, _, _, _, _, rfl, rfl, ⟨(Below.refl _ w).drew, (by simp), (by simp), (by simp), (by simp), (by simp), (by simp), (by simp), (by simp), (by simp), (by simp), (by simp), (by simp), (by simp), (by simp), (by simp)⟩⟩
        · rintro i listed act w' hi ⟨b0, b1, b2, b3, b4, b5, b6, b7, b8, b9, b10, b11, b12, b13, b14, v61, v62, v63, v64, v65, v66, v67, v68, v69, v70, v71, v4, v5, v6, v7, rfl, rfl, H⟩
          have hi16 : i < 15 := by
            obtain ⟨-, o, ho, -⟩ := mem_ready.1 hi
            exact (Array.getElem?_eq_some_iff.1 ho).1
          obtain rfl | rfl | rfl | rfl | rfl | rfl | rfl | rfl | rfl | rfl | rfl | rfl | rfl | rfl | rfl : i = 0 ∨ i = 1 ∨ i = 2 ∨ i = 3 ∨ i = 4 ∨ i = 5 ∨ i = 6 ∨ i = 7 ∨ i = 8 ∨ i = 9 ∨ i = 10 ∨ i = 11 ∨ i = 12 ∨ i = 13 ∨ i = 14 := by omega
          all_goals simp [mem_ready, Region.binds] at hi
          · refine wpOp_hidden rfl fun K hK => ?_
            go_wp2
            refine OnlyN.mk (hK.out _ _ ⟨true, _, _, _, _, _, _, _, _, _, _, _, _, _, _, .int .i64 v1, _, _, _, _, _, _, _, _, _, _, _, _, _, _, rfl, rfl, ⟨H.below, fun _ => rfl, H.h1, H.h2, H.h3, H.h4, H.h5, H.h6, H.h7, H.h8, H.h9, H.h10, H.h11, H.h12, H.h13, H.h14⟩⟩)
          · refine wpOp_hidden rfl fun K hK => ?_
            go_wp2
            refine OnlyN.mk (hK.out _ _ ⟨_, true, _, _, _, _, _, _, _, _, _, _, _, _, _, _, .int .i64 v2, _, _, _, _, _, _, _, _, _, _, _, _, _, rfl, rfl, ⟨H.below, H.h0, fun _ => rfl, H.h2, H.h3, H.h4, H.h5, H.h6, H.h7, H.h8, H.h9, H.h10, H.h11, H.h12, H.h13, H.h14⟩⟩)
          · refine wpOp_hidden rfl fun K hK => ?_
            go_wp2
            refine OnlyN.mk (hK.out _ _ ⟨_, _, true, _, _, _, _, _, _, _, _, _, _, _, _, _, _, .string s, _, _, _, _, _, _, _, _, _, _, _, _, rfl, rfl, ⟨H.below, H.h0, H.h1, fun _ => rfl, H.h3, H.h4, H.h5, H.h6, H.h7, H.h8, H.h9, H.h10, H.h11, H.h12, H.h13, H.h14⟩⟩)
          · refine wpOp_hidden rfl fun K hK => ?_
            go_wp2
            refine OnlyN.mk (hK.out _ _ ⟨_, _, _, true, _, _, _, _, _, _, _, _, _, _, _, _, _, _, .int .i64 p3, _, _, _, _, _, _, _, _, _, _, _, rfl, rfl, ⟨H.below, H.h0, H.h1, H.h2, fun _ => rfl, H.h4, H.h5, H.h6, H.h7, H.h8, H.h9, H.h10, H.h11, H.h12, H.h13, H.h14⟩⟩)
          · refine wpOp_hidden rfl fun K hK => ?_
            go_wp2
            refine OnlyN.mk (hK.out _ _ ⟨_, _, _, _, true, _, _, _, _, _, _, _, _, _, _, _, _, _, _, .int .i64 k, _, _, _, _, _, _, _, _, _, _, rfl, rfl, ⟨H.below, H.h0, H.h1, H.h2, H.h3, fun _ => rfl, H.h5, H.h6, H.h7, H.h8, H.h9, H.h10, H.h11, H.h12, H.h13, H.h14⟩⟩)
          · obtain rfl := H.h2 (by simp [hi])
            obtain rfl := H.h3 (by simp [hi])
            obtain rfl := H.h4 (by simp [hi])
            have hz1 : p3 ≤ k := HB.out.1
            have hz2 : k ≤ s.size := HB.out.2.1
            refine wpOp_hidden rfl fun K hK => ?_
            go_wp2
            refine OnlyN.mk (hK.out _ _ ⟨_, _, _, _, _, true, _, _, _, _, _, _, _, _, _, _, _, _, _, _, .string (s.extract p3 k), _, _, _, _, _, _, _, _, _, rfl, rfl, ⟨H.below, H.h0, H.h1, H.h2, H.h3, H.h4, fun _ => by rw [HX.out], H.h6, H.h7, H.h8, H.h9, H.h10, H.h11, H.h12, H.h13, H.h14⟩⟩)
          · refine wpOp_hidden rfl fun K hK => ?_
            go_wp2
            refine OnlyN.mk (hK.out _ _ ⟨_, _, _, _, _, _, true, _, _, _, _, _, _, _, _, _, _, _, _, _, _, .int .i64 k, _, _, _, _, _, _, _, _, rfl, rfl, ⟨H.below, H.h0, H.h1, H.h2, H.h3, H.h4, H.h5, fun _ => rfl, H.h7, H.h8, H.h9, H.h10, H.h11, H.h12, H.h13, H.h14⟩⟩)
          · obtain rfl := H.h6 (by simp [hi])
            have hwk : wrap64 ((k : Int) + 1) = (k : Int) + 1 := by have := HB.out; unfold wrap64; omega
            refine wpOp_hidden rfl fun K hK => ?_
            go_wp2
            refine OnlyN.mk (hK.out _ _ ⟨_, _, _, _, _, _, _, true, _, _, _, _, _, _, _, _, _, _, _, _, _, _, .int .i64 ((k : Int) + 1), _, _, _, _, _, _, _, rfl, rfl, ⟨H.below, H.h0, H.h1, H.h2, H.h3, H.h4, H.h5, H.h6, fun _ => rfl, H.h8, H.h9, H.h10, H.h11, H.h12, H.h13, H.h14⟩⟩)
          · refine wpOp_hidden rfl fun K hK => ?_
            go_wp2
            refine OnlyN.mk (hK.out _ _ ⟨_, _, _, _, _, _, _, _, true, _, _, _, _, _, _, _, _, _, _, _, _, _, _, .string s, _, _, _, _, _, _, rfl, rfl, ⟨H.below, H.h0, H.h1, H.h2, H.h3, H.h4, H.h5, H.h6, H.h7, fun _ => rfl, H.h9, H.h10, H.h11, H.h12, H.h13, H.h14⟩⟩)
          · obtain rfl := H.h8 (by simp [hi])
            refine wpOp_hidden rfl fun K hK => ?_
            go_wp2
            refine OnlyN.mk (hK.out _ _ ⟨_, _, _, _, _, _, _, _, _, true, _, _, _, _, _, _, _, _, _, _, _, _, _, _, .int .i64 s.size, _, _, _, _, _, rfl, rfl, ⟨H.below, H.h0, H.h1, H.h2, H.h3, H.h4, H.h5, H.h6, H.h7, H.h8, fun _ => rfl, H.h10, H.h11, H.h12, H.h13, H.h14⟩⟩)
          · obtain rfl := H.h7 (by simp [hi])
            obtain rfl := H.h9 (by simp [hi])
            refine wpOp_hidden rfl fun K hK => ?_
            go_wp2
            refine OnlyN.mk (hK.out _ _ ⟨_, _, _, _, _, _, _, _, _, _, true, _, _, _, _, _, _, _, _, _, _, _, _, _, _, .int .i64 (min ((k : Int) + 1) (s.size : Int)), _, _, _, _, rfl, rfl, ⟨H.below, H.h0, H.h1, H.h2, H.h3, H.h4, H.h5, H.h6, H.h7, H.h8, H.h9, fun _ => by rw [HQ.out], H.h11, H.h12, H.h13, H.h14⟩⟩)
          · obtain rfl := H.h0 (by simp [hi])
            refine wpOp_hidden rfl fun K hK => ?_
            go_wp2
            refine OnlyN.mk (hK.out _ _ ⟨_, _, _, _, _, _, _, _, _, _, _, true, _, _, _, _, _, _, _, _, _, _, _, _, _, _, .int .i64 v1, _, _, _, rfl, rfl, ⟨H.below, H.h0, H.h1, H.h2, H.h3, H.h4, H.h5, H.h6, H.h7, H.h8, H.h9, H.h10, fun _ => rfl, H.h12, H.h13, H.h14⟩⟩)
          · obtain rfl := H.h1 (by simp [hi])
            refine wpOp_hidden rfl fun K hK => ?_
            go_wp2
            refine OnlyN.mk (hK.out _ _ ⟨_, _, _, _, _, _, _, _, _, _, _, _, true, _, _, _, _, _, _, _, _, _, _, _, _, _, _, .int .i64 v2, _, _, rfl, rfl, ⟨H.below, H.h0, H.h1, H.h2, H.h3, H.h4, H.h5, H.h6, H.h7, H.h8, H.h9, H.h10, H.h11, fun _ => rfl, H.h13, H.h14⟩⟩)
          · obtain rfl := H.h5 (by simp [hi])
            refine wpOp_hidden rfl fun K hK => ?_
            go_wp2
            refine OnlyN.mk (hK.out _ _ ⟨_, _, _, _, _, _, _, _, _, _, _, _, _, true, _, _, _, _, _, _, _, _, _, _, _, _, _, _, .string ⟨r.toArray⟩, _, rfl, rfl, ⟨H.below, H.h0, H.h1, H.h2, H.h3, H.h4, H.h5, H.h6, H.h7, H.h8, H.h9, H.h10, H.h11, H.h12, fun _ => rfl, H.h14⟩⟩)
          · obtain rfl := H.h10 (by simp [hi])
            refine wpOp_hidden rfl fun K hK => ?_
            go_wp2
            refine OnlyN.mk (hK.out _ _ ⟨_, _, _, _, _, _, _, _, _, _, _, _, _, _, true, _, _, _, _, _, _, _, _, _, _, _, _, _, _, .int .i64 q, rfl, rfl, ⟨H.below, H.h0, H.h1, H.h2, H.h3, H.h4, H.h5, H.h6, H.h7, H.h8, H.h9, H.h10, H.h11, H.h12, H.h13, fun _ => rfl⟩⟩)
        · rintro listed act w' hr ⟨b0, b1, b2, b3, b4, b5, b6, b7, b8, b9, b10, b11, b12, b13, b14, v61, v62, v63, v64, v65, v66, v67, v68, v69, v70, v71, v4, v5, v6, v7, rfl, rfl, H⟩
          have hn := List.eq_nil_iff_forall_not_mem.1 hr
          have r0 := hn 0
          simp [mem_ready, Region.binds] at r0
          subst r0
          have r1 := hn 1
          simp [mem_ready, Region.binds] at r1
          subst r1
          have r2 := hn 2
          simp [mem_ready, Region.binds] at r2
          subst r2
          have r3 := hn 3
          simp [mem_ready, Region.binds] at r3
          subst r3
          have r4 := hn 4
          simp [mem_ready, Region.binds] at r4
          subst r4
          have r5 := hn 5
          simp [mem_ready, Region.binds] at r5
          subst r5
          have r6 := hn 6
          simp [mem_ready, Region.binds] at r6
          subst r6
          have r7 := hn 7
          simp [mem_ready, Region.binds] at r7
          subst r7
          have r8 := hn 8
          simp [mem_ready, Region.binds] at r8
          subst r8
          have r9 := hn 9
          simp [mem_ready, Region.binds] at r9
          subst r9
          have r10 := hn 10
          simp [mem_ready, Region.binds] at r10
          subst r10
          have r11 := hn 11
          simp [mem_ready, Region.binds] at r11
          subst r11
          have r12 := hn 12
          simp [mem_ready, Region.binds] at r12
          subst r12
          have r13 := hn 13
          simp [mem_ready, Region.binds] at r13
          subst r13
          have r14 := hn 14
          simp [mem_ready, Region.binds] at r14
          subst r14
          obtain rfl := H.h11 rfl
          obtain rfl := H.h12 rfl
          obtain rfl := H.h13 rfl
          obtain rfl := H.h14 rfl
          go_wp2
          refine bodyPost_ret (v := .tuple #[.int .i64 v1, .int .i64 v2, .string ⟨r.toArray⟩, .int .i64 q]) (by simp [results, Tryd.results37, go_sem]) rfl ?_
          rw [HT2.out]
          exact ⟨rfl, H.below⟩
      · have e1 : ((s[k].toNat : Int) != 10) = true := by
          simp only [bne_iff_ne, ne_eq]
          intro h
          exact hc (UInt8.toNat_inj.1 (by have : (10 : UInt8).toNat = 10 := rfl; omega))
        have HN : Hid (lineOf (l.drop p3) = (xs ++ [l[k]]) ++ lineOf (l.drop (k + 1))) := Lib.hid (by
          rw [HX0.out, lineOf_yes hlt' (by rw [HG.out.2 k hlt hlt']; exact hc), List.append_assoc]
          rfl)
        clear hc
        go_wp2
        go_roundw
        case rel => exact ⟨k + 1, xs ++ [l[k]], by omega, by omega, by go_num, (by first | rfl | trivial), by simp; omega, HN⟩
        case measure => simp [intOf]; omega
    · have HX1 : Hid (lineOf (l.drop p3) = xs) := Lib.hid (by
        rw [HX0.out, List.drop_of_length_le (by rw [HG.out.1]; omega)]
        simp [lineOf])
      have HX : Hid (s.extract p3 k = ⟨(lineOf (l.drop p3)).toArray⟩) := Lib.hid (extract_line HL.out (by rw [HX1.out]; omega))
      have HB : Hid (p3 ≤ k ∧ k ≤ s.size ∧ s.size ≤ 2147483647) := Lib.hid ⟨hk0, hk, hs⟩
      have HT2 : Hid (hdrQ l p = (v1, v2, lineOf (l.drop p3), min ((k : Int) + 1) (s.size : Int))) := Lib.hid (by
        rw [HT.out, HG.out.1]
        refine Prod.ext rfl (Prod.ext rfl (Prod.ext rfl ?_))
        show min ((p3 : Int) + ((lineOf (l.drop p3)).length : Int) + 1) _ = _
        rw [HX1.out, show (p3 : Int) + (xs.length : Int) = k by omega])
      obtain ⟨r, hr⟩ : ∃ r, r = lineOf (l.drop p3) := ⟨_, rfl⟩
      obtain ⟨q, hq⟩ : ∃ q, q = min ((k : Int) + 1) (s.size : Int) := ⟨_, rfl⟩
      rw [← hr, ← hq] at HT2
      rw [← hr] at HX
      have HQ := Lib.hid hq.symm
      clear hr hq
      go_upto_region 15 with fail
      refine wp_region_J (by kernel_rfl) (fun listed act w' => ∃ b0 b1 b2 b3 b4 b5 b6 b7 b8 b9 b10 b11 b12 b13 b14 v61 v62 v63 v64 v65 v66 v67 v68 v69 v70 v71 v4 v5 v6 v7, listed = #[b0, b1, b2, b3, b4, b5, b6, b7, b8, b9, b10, b11, b12, b13, b14] ∧ act = Act.mk #[.string s, .int .i64 p1, undef, undef, v4, v5, v6, v7, .int .i64 v1, .int .i64 p2, .int .i64 v2, .int .i64 p3, .int .i64 k, .string s, .int .i64 p, .int .i64 p1, .int .i64 p1, .bool false, .tuple #[.int .i64 v1, .int .i64 q1], .string s, .int .i64 p1, .tuple #[.int .i64 v1, .int .i64 q1], .int .i64 v1, .int .i64 q1, .string s, .int .i64 q1, .int .i64 p2, .int .i64 v1, .bool false, .bool false, .int .i64 p2, .bool false, .bool false, .tuple #[.int .i64 v2, .int .i64 q2], .string s, .int .i64 p2, .tuple #[.int .i64 v2, .int .i64 q2], .int .i64 v2, .int .i64 q2, .string s, .int .i64 q2, .int .i64 p3, .int .i64 v2, .bool false, .bool false, .int .i64 p3, .bool false, .bool false, .int .i64 p3, .int .i64 k, .string s, .int .i64 s.size, .bool false, .bool false, undef, undef, undef, undef, .bool false, u59, u60, v61, v62, v63, v64, v65, v66, v67, v68, v69, v70, v71] [] ∧ RhJ w v1 v2 s p3 k r q b0 b1 b2 b3 b4 b5 b6 b7 b8 b9 b10 b11 b12 b13 b14 v61 v62 v63 v64 v65 v66 v67 v68 v69 v70 v71 v4 v5 v6 v7 w') ?_ ?_ ?_
      · exact ⟨_, _, _, _, _, _, _, _, _, _, _, _, _, _, _, _, _, _, _, _, _, _, _, _, _, _, _, _, _, _, rfl, rfl, ⟨(Below.refl _ w).drew, (by simp), (by simp), (by simp), (by simp), (by simp), (by simp), (by simp), (by simp), (by simp), (by simp), (by simp), (by simp), (by simp), (by simp), (by simp)⟩⟩
      · rintro i listed act w' hi ⟨b0, b1, b2, b3, b4, b5, b6, b7, b8, b9, b10, b11, b12, b13, b14, v61, v62, v63, v64, v65, v66, v67, v68, v69, v70, v71, v4, v5, v6, v7, rfl, rfl, H⟩
        have hi16 : i < 15 := by
          obtain ⟨-, o, ho, -⟩ := mem_ready.1 hi
          exact (Array.getElem?_eq_some_iff.1 ho).1
        obtain rfl | rfl | rfl | rfl | rfl | rfl | rfl | rfl | rfl | rfl | rfl | rfl | rfl | rfl | rfl : i = 0 ∨ i = 1 ∨ i = 2 ∨ i = 3 ∨ i = 4 ∨ i = 5 ∨ i = 6 ∨ i = 7 ∨ i = 8 ∨ i = 9 ∨ i = 10 ∨ i = 11 ∨ i = 12 ∨ i = 13 ∨ i = 14 := by omega
        all_goals simp [mem_ready, Region.binds] at hi
        · refine wpOp_hidden rfl fun K hK => ?_
          go_wp2
          refine OnlyN.mk (hK.out _ _ ⟨true, _, _, _, _, _, _, _, _, _, _, _, _, _, _, .int .i64 v1, _, _, _, _, _, _, _, _, _, _, _, _, _, _, rfl, rfl, ⟨H.below, fun _ => rfl, H.h1, H.h2, H.h3, H.h4, H.h5, H.h6, H.h7, H.h8, H.h9, H.h10, H.h11, H.h12, H.h13, H.h14⟩⟩)
        · refine wpOp_hidden rfl fun K hK => ?_
          go_wp2
          refine OnlyN.mk (hK.out _ _ ⟨_, true, _, _, _, _, _, _, _, _, _, _, _, _, _, _, .int .i64 v2, _, _, _, _, _, _, _, _, _, _, _, _, _, rfl, rfl, ⟨H.below, H.h0, fun _ => rfl, H.h2, H.h3, H.h4, H.h5, H.h6, H.h7, H.h8, H.h9, H.h10, H.h11, H.h12, H.h13, H.h14⟩⟩)
        · refine wpOp_hidden rfl fun K hK => ?_
          go_wp2
          refine OnlyN.mk (hK.out _ _ ⟨_, _, true, _, _, _, _, _, _, _, _, _, _, _, _, _, _, .string s, _, _, _, _, _, _, _, _, _, _, _, _, rfl, rfl, ⟨H.below, H.h0, H.h1, fun _ => rfl, H.h3, H.h4, H.h5, H.h6, H.h7, H.h8, H.h9, H.h10, H.h11, H.h12, H.h13, H.h14⟩⟩)
        · refine wpOp_hidden rfl fun K hK => ?_
          go_wp2
          refine OnlyN.mk (hK.out _ _ ⟨_, _, _, true, _, _, _, _, _, _, _, _, _, _, _, _, _, _, .int .i64 p3, _, _, _, _, _, _, _, _, _, _, _, rfl, rfl, ⟨H.below, H.h0, H.h1, H.h2, fun _ => rfl, H.h4, H.h5, H.h6, H.h7, H.h8, H.h9, H.h10, H.h11, H.h12, H.h13, H.h14⟩⟩)
        · refine wpOp_hidden rfl fun K hK => ?_
          go_wp2
          refine OnlyN.mk (hK.out _ _ ⟨_, _, _, _, true, _, _, _, _, _, _, _, _, _, _, _, _, _, _, .int .i64 k, _, _, _, _, _, _, _, _, _, _, rfl, rfl, ⟨H.below, H.h0, H.h1, H.h2, H.h3, fun _ => rfl, H.h5, H.h6, H.h7, H.h8, H.h9, H.h10, H.h11, H.h12, H.h13, H.h14⟩⟩)
        · obtain rfl := H.h2 (by simp [hi])
          obtain rfl := H.h3 (by simp [hi])
          obtain rfl := H.h4 (by simp [hi])
          have hz1 : p3 ≤ k := HB.out.1
          have hz2 : k ≤ s.size := HB.out.2.1
          refine wpOp_hidden rfl fun K hK => ?_
          go_wp2
          refine OnlyN.mk (hK.out _ _ ⟨_, _, _, _, _, true, _, _, _, _, _, _, _, _, _, _, _, _, _, _, .string (s.extract p3 k), _, _, _, _, _, _, _, _, _, rfl, rfl, ⟨H.below, H.h0, H.h1, H.h2, H.h3, H.h4, fun _ => by rw [HX.out], H.h6, H.h7, H.h8, H.h9, H.h10, H.h11, H.h12, H.h13, H.h14⟩⟩)
        · refine wpOp_hidden rfl fun K hK => ?_
          go_wp2
          refine OnlyN.mk (hK.out _ _ ⟨_, _, _, _, _, _, true, _, _, _, _, _, _, _, _, _, _, _, _, _, _, .int .i64 k, _, _, _, _, _, _, _, _, rfl, rfl, ⟨H.below, H.h0, H.h1, H.h2, H.h3, H.h4, H.h5, fun _ => rfl, H.h7, H.h8, H.h9, H.h10, H.h11, H.h12, H.h13, H.h14⟩⟩)
        · obtain rfl := H.h6 (by simp [hi])
          have hwk : wrap64 ((k : Int) + 1) = (k : Int) + 1 := by have := HB.out; unfold wrap64; omega
          refine wpOp_hidden rfl fun K hK => ?_
          go_wp2
          refine OnlyN.mk (hK.out _ _ ⟨_, _, _, _, _, _, _, true, _, _, _, _, _, _, _, _, _, _, _, _, _, _, .int .i64 ((k : Int) + 1), _, _, _, _, _, _, _, rfl, rfl, ⟨H.below, H.h0, H.h1, H.h2, H.h3, H.h4, H.h5, H.h6, fun _ => rfl, H.h8, H.h9, H.h10, H.h11, H.h12, H.h13, H.h14⟩⟩)
        · refine wpOp_hidden rfl fun K hK => ?_
          go_wp2
          refine OnlyN.mk (hK.out _ _ ⟨_, _, _, _, _, _, _, _, true, _, _, _, _, _, _, _, _, _, _, _, _, _, _, .string s, _, _, _, _, _, _, rfl, rfl, ⟨H.below, H.h0, H.h1, H.h2, H.h3, H.h4, H.h5, H.h6, H.h7, fun _ => rfl, H.h9, H.h10, H.h11, H.h12, H.h13, H.h14⟩⟩)
        · obtain rfl := H.h8 (by simp [hi])
          refine wpOp_hidden rfl fun K hK => ?_
          go_wp2
          refine OnlyN.mk (hK.out _ _ ⟨_, _, _, _, _, _, _, _, _, true, _, _, _, _, _, _, _, _, _, _, _, _, _, _, .int .i64 s.size, _, _, _, _, _, rfl, rfl, ⟨H.below, H.h0, H.h1, H.h2, H.h3, H.h4, H.h5, H.h6, H.h7, H.h8, fun _ => rfl, H.h10, H.h11, H.h12, H.h13, H.h14⟩⟩)
        · obtain rfl := H.h7 (by simp [hi])
          obtain rfl := H.h9 (by simp [hi])
          refine wpOp_hidden rfl fun K hK => ?_
          go_wp2
          refine OnlyN.mk (hK.out _ _ ⟨_, _, _, _, _, _, _, _, _, _, true, _, _, _, _, _, _, _, _, _, _, _, _, _, _, .int .i64 (min ((k : Int) + 1) (s.size : Int)), _, _, _, _, rfl, rfl, ⟨H.below, H.h0, H.h1, H.h2, H.h3, H.h4, H.h5, H.h6, H.h7, H.h8, H.h9, fun _ => by rw [HQ.out], H.h11, H.h12, H.h13, H.h14⟩⟩)
        · obtain rfl := H.h0 (by simp [hi])
          refine wpOp_hidden rfl fun K hK => ?_
          go_wp2
          refine OnlyN.mk (hK.out _ _ ⟨_, _, _, _, _, _, _, _, _, _, _, true, _, _, _, _, _, _, _, _, _, _, _, _, _, _, .int .i64 v1, _, _, _, rfl, rfl, ⟨H.below, H.h0, H.h1, H.h2, H.h3, H.h4, H.h5, H.h6, H.h7, H.h8, H.h9, H.h10, fun _ => rfl, H.h12, H.h13, H.h14⟩⟩)
        · obtain rfl := H.h1 (by simp [hi])
          refine wpOp_hidden rfl fun K hK => ?_
          go_wp2
          refine OnlyN.mk (hK.out _ _ ⟨_, _, _, _, _, _, _, _, _, _, _, _, true, _, _, _, _, _, _, _, _, _, _, _, _, _, _, .int .i64 v2, _, _, rfl, rfl, ⟨H.below, H.h0, H.h1, H.h2, H.h3, H.h4, H.h5, H.h6, H.h7, H.h8, H.h9, H.h10, H.h11, fun _ => rfl, H.h13, H.h14⟩⟩)
        · obtain rfl := H.h5 (by simp [hi])
          refine wpOp_hidden rfl fun K hK => ?_
          go_wp2
          refine OnlyN.mk (hK.out _ _ ⟨_, _, _, _, _, _, _, _, _, _, _, _, _, true, _, _, _, _, _, _, _, _, _, _, _, _, _, _, .string ⟨r.toArray⟩, _, rfl, rfl, ⟨H.below, H.h0, H.h1, H.h2, H.h3, H.h4, H.h5, H.h6, H.h7, H.h8, H.h9, H.h10, H.h11, H.h12, fun _ => rfl, H.h14⟩⟩)
        · obtain rfl := H.h10 (by simp [hi])
          refine wpOp_hidden rfl fun K hK => ?_
          go_wp2
          refine OnlyN.mk (hK.out _ _ ⟨_, _, _, _, _, _, _, _, _, _, _, _, _, _, true, _, _, _, _, _, _, _, _, _, _, _, _, _, _, .int .i64 q, rfl, rfl, ⟨H.below, H.h0, H.h1, H.h2, H.h3, H.h4, H.h5, H.h6, H.h7, H.h8, H.h9, H.h10, H.h11, H.h12, H.h13, fun _ => rfl⟩⟩)
      · rintro listed act w' hr ⟨b0, b1, b2, b3, b4, b5, b6, b7, b8, b9, b10, b11, b12, b13, b14, v61, v62, v63, v64, v65, v66, v67, v68, v69, v70, v71, v4, v5, v6, v7, rfl, rfl, H⟩
        have hn := List.eq_nil_iff_forall_not_mem.1 hr
        have r0 := hn 0
        simp [mem_ready, Region.binds] at r0
        subst r0
        have r1 := hn 1
        simp [mem_ready, Region.binds] at r1
        subst r1
        have r2 := hn 2
        simp [mem_ready, Region.binds] at r2
        subst r2
        have r3 := hn 3
        simp [mem_ready, Region.binds] at r3
        subst r3
        have r4 := hn 4
        simp [mem_ready, Region.binds] at r4
        subst r4
        have r5 := hn 5
        simp [mem_ready, Region.binds] at r5
        subst r5
        have r6 := hn 6
        simp [mem_ready, Region.binds] at r6
        subst r6
        have r7 := hn 7
        simp [mem_ready, Region.binds] at r7
        subst r7
        have r8 := hn 8
        simp [mem_ready, Region.binds] at r8
        subst r8
        have r9 := hn 9
        simp [mem_ready, Region.binds] at r9
        subst r9
        have r10 := hn 10
        simp [mem_ready, Region.binds] at r10
        subst r10
        have r11 := hn 11
        simp [mem_ready, Region.binds] at r11
        subst r11
        have r12 := hn 12
        simp [mem_ready, Region.binds] at r12
        subst r12
        have r13 := hn 13
        simp [mem_ready, Region.binds] at r13
        subst r13
        have r14 := hn 14
        simp [mem_ready, Region.binds] at r14
        subst r14
        obtain rfl := H.h11 rfl
        obtain rfl := H.h12 rfl
        obtain rfl := H.h13 rfl
        obtain rfl := H.h14 rfl
        go_wp2
        refine bodyPost_ret (v := .tuple #[.int .i64 v1, .int .i64 v2, .string ⟨r.toArray⟩, .int .i64 q]) (by simp [results, Tryd.results37, go_sem]) rfl ?_
        rw [HT2.out]
        exact ⟨rfl, H.below⟩
end Go.Proofs.YtekmldneinnmoaaDoor
