/-
  rle.Parse. Any text of at most 2^31 bytes.
-/
import Derived.Test.YtekmldneinnmoaaDoorRead
namespace Go.Proofs.YtekmldneinnmoaaDoor
open Go.RowKit
set_option maxRecDepth 100000
set_option linter.unusedVariables false
set_option linter.unusedSimpArgs false

theorem line_all {l : List UInt8} (h : ∀ c ∈ l, c ≠ 10) : lineOf l = l := by
  induction l with
  | nil => rfl
  | cons a l ih =>
    have ha : (a != 10) = true := by simpa using h a List.mem_cons_self
    unfold lineOf at *
    rw [List.takeWhile_cons, if_pos ha, ih (fun c hc => h c (List.mem_cons_of_mem _ hc))]
theorem line_at : ∀ {l : List UInt8}, (lineOf l).length < l.length → l[(lineOf l).length]? = some 10
  | [], h => by simp at h
  | a :: l, h => by
    by_cases ha : a = 10
    · subst ha
      have : lineOf ((10 : UInt8) :: l) = [] := by unfold lineOf; rw [List.takeWhile_cons, if_neg (by decide)]
      rw [this]
      rfl
    · have e : lineOf (a :: l) = a :: lineOf l := by unfold lineOf; rw [List.takeWhile_cons, if_pos (by simpa using ha)]
      rw [e] at h ⊢
      simp only [List.length_cons, List.getElem?_cons_succ] at h ⊢
      exact line_at (by omega)
theorem cut_nl (l : List UInt8) : (Lib.cut l [10]).1 = lineOf l ∧ (Lib.cut l [10]).2.1 = afterLine l := by
  have hsp := line_split l
  have hno : ∀ j, j < (lineOf l).length → Lib.occAt l [10] j = false := by
    intro j hj
    cases ho : Lib.occAt l [10] j
    · rfl
    · have h1 := Lib.occAt_head rfl ho
      rw [hsp, List.getElem?_append_left hj, List.getElem?_eq_getElem hj] at h1
      exact absurd (Option.some.inj h1) (line_no l _ (List.getElem_mem hj))
  by_cases h : (lineOf l).length < l.length
  · have h10 := line_at h
    have ho : Lib.occAt l [10] (lineOf l).length = true := by
      unfold Lib.occAt
      rw [List.drop_eq_getElem_cons h]
      have : l[(lineOf l).length] = 10 := by rw [List.getElem?_eq_getElem h] at h10; exact Option.some.inj h10
      rw [this]
      simp [List.isPrefixOf]
    have hi := Lib.index_first (Nat.le_of_lt h) ho hno
    unfold Lib.cut
    rw [hi, if_pos (by omega)]
    refine ⟨?_, ?_⟩
    · show l.take _ = lineOf l
      rw [Int.toNat_natCast]
      have h4 : l.take (lineOf l).length = (lineOf l ++ l.drop (lineOf l).length).take (lineOf l).length := by rw [← hsp]
      rw [h4, List.take_left]
    · show l.drop _ = afterLine l
      rw [Int.toNat_natCast]
      rfl
  · have hle : l.length ≤ (lineOf l).length := by omega
    have hi : Lib.index l [10] = -1 := by
      refine Lib.index_none fun j hj => ?_
      by_cases hj2 : j < (lineOf l).length
      · exact hno j hj2
      · unfold Lib.occAt
        rw [List.drop_of_length_le (by omega)]
        rfl
    unfold Lib.cut
    rw [hi, if_neg (by omega)]
    refine ⟨?_, ?_⟩
    · show l = lineOf l
      rw [List.drop_of_length_le hle, List.append_nil] at hsp
      exact hsp
    · show [] = afterLine l
      unfold afterLine
      rw [List.drop_of_length_le (by omega)]
theorem pre_hash (l : List UInt8) : Lib.hasPrefix l [35] = true ↔ l.head? = some 35 := by
  unfold Lib.hasPrefix
  cases l with
  | nil => simp [List.isPrefixOf]
  | cons a l =>
    simp only [List.isPrefixOf, Bool.and_true, beq_iff_eq, List.head?_cons, Option.some.injEq]
    exact eq_comm
theorem hdrL_bd {l r : List UInt8} {w h : Int} (hh : hdrL l = some (w, h, r)) : 0 ≤ w ∧ w < 1000000000 ∧ 0 ≤ h ∧ h < 1000000000 ∧ r.length ≤ l.length := by
  have h1 := hdrT_some hh
  have hr : r = (Lib.cut (Lib.cut (Lib.trimPrefix l tx) ty).2.1 tr).2.1 := by
    unfold hdrT at h1
    split at h1
    · injection h1 with _ h1; injection h1 with _ h1; injection h1 with _ h1; cases h1
    · split at h1
      · injection h1 with _ h1; injection h1 with _ h1; injection h1 with _ h1; cases h1
      · injection h1 with _ h1; injection h1 with _ h1; injection h1 with h1 _; exact h1.symm
  have hw : ∀ (a : List UInt8), (numT 9 a).2 = true → 0 ≤ (numT 9 a).1 ∧ (numT 9 a).1 < 1000000000 := by
    intro a ha
    unfold numT at ha ⊢
    split at ha
    · rename_i hc
      rw [if_pos hc]
      have h9 : a.length ≤ 9 := by
        have := hc.1
        unfold okN at this
        simp only [Bool.and_eq_true, decide_eq_true_eq] at this
        exact this.1.2
      exact numL_bd9 (List.all_eq_true.1 hc.2) h9
    · cases ha
  have hl : r.length ≤ l.length := by
    rw [hr]
    exact Nat.le_trans (cut_len _ _).2 (Nat.le_trans (cut_len _ _).2 (trim_len _ _))
  unfold hdrT at h1
  split at h1
  · injection h1 with _ h1; injection h1 with _ h1; injection h1 with _ h1; cases h1
  · split at h1
    · injection h1 with _ h1; injection h1 with _ h1; injection h1 with _ h1; cases h1
    · injection h1 with e1 h1
      injection h1 with e2 h1
      injection h1 with e3 e4
      simp only [Bool.and_eq_true] at e4
      have k1 := hw _ e4.1.2
      have k2 := hw _ e4.2
      rw [e1] at k1
      rw [e2] at k2
      exact ⟨k1.1, k1.2, k2.1, k2.2, hl⟩
def RetParse (r : List Cel × List UInt8 × Int) (w : World) (e : Ending) (w' : World) : Prop := ∃ A c, e = .returned (.tuple #[.slice A r.1.length c, .string ⟨r.2.1.toArray⟩, .int .i64 r.2.2]) ∧ Cls w' A r.1 ∧ Below w.heap.size w w'
theorem RetParse.bad {r : List Cel × List UInt8 × Int} {k : Int} {w w' : World} (h : r = ([], [], k)) (hb : Below w.heap.size w w') : RetParse r w (.returned (.tuple #[.slice none 0 0, .string ⟨#[]⟩, .int .i64 k])) w' := by
  subst h
  exact ⟨none, 0, rfl, Cls.nil, hb⟩
theorem RetParse.good {r : List Cel × List UInt8 × Int} {cs : List Cel} {rule : List UInt8} {w w' : World} {A : Option Addr} {c : Nat} (h : r = (cs, rule, 0)) (hc : Cls w' A cs) (hb : Below w.heap.size w w') : RetParse r w (.returned (.tuple #[.slice A cs.length c, .string ⟨rule.toArray⟩, .int .i64 0])) w' := by
  subst h
  exact ⟨A, c, rfl, hc, hb⟩
def strLen : Value → Nat
  | .string b => b.size
  | _ => 0
theorem cutnl_any (l : List UInt8) (w : World) (hg : GCell w) (hs : l.length < 4294967281) : Calls Tryd.prog 34 #[.string ⟨l.toArray⟩, .string ⟨#[10]⟩] w fun e w' => ∃ b, e = .returned (.tuple #[.string ⟨(lineOf l).toArray⟩, .string ⟨(afterLine l).toArray⟩, .bool b]) ∧ Below w.heap.size w w' := by
  refine (cut_any l [10] w hg hs).mono ?_
  rintro e w' ⟨rfl, hb⟩
  rw [(cut_nl l).1, (cut_nl l).2]
  exact ⟨_, rfl, hb⟩
theorem rd_any (l : List UInt8) (wd ht : Int) (w : World) (hs : l.length ≤ 65536) (hw0 : 0 ≤ wd) (hw1 : wd ≤ 1000000000) (hh0 : 0 ≤ ht) (hh1 : ht ≤ 1000000000) :
    Calls Tryd.prog 36 #[.string ⟨l.toArray⟩, .int .i64 wd, .int .i64 ht] w (RetRead (readM wd ht l [] ps0) w) :=
  read_any ⟨l.toArray⟩ wd ht w (by show l.toArray.size ≤ _; simpa using hs) hw0 hw1 hh0 hh1
theorem strLen_lt {m n : List UInt8} (h : m.length < n.length) : strLen (.string ⟨m.toArray⟩) < strLen (.string ⟨n.toArray⟩) := by
  show m.toArray.size < n.toArray.size
  simpa using h
set_option maxHeartbeats 4000000 in
theorem parse_any (l : List UInt8) (w : World) (hg : GCell w) (hs : l.length ≤ 2147483647) :
    Calls Tryd.prog 12 #[.string ⟨l.toArray⟩] w (RetParse (parseL l) w) := by
  by_cases h6 : 65536 < l.length
  · have HN : Hid (parseL l = ([], [], 6)) := Lib.hid (by unfold parseL; rw [if_pos h6])
    have h6' : (65536 : Int) < (l.length : Int) := by omega
    clear h6
    go_enter Tryd.func12, Tryd.ntmps12
    go_wp2
    go_ret3
    exact RetParse.bad HN.out (Below.refl _ _)
  have HT : Hid (parseL l = match hdrL (lineOf (skipC l)) with
    | none => ([], [], 15)
    | some (w, h, rule) =>
      if nameB rule = false then ([], [], 7)
      else if 1048577 < w ∨ 1048577 < h then ([], [], 5)
      else if (readM w h (afterLine (skipC l)) [] ps0).2 ≠ 0 then ([], [], (readM w h (afterLine (skipC l)) [] ps0).2)
      else ((readM w h (afterLine (skipC l)) [] ps0).1, rule, 0)) := Lib.hid (by unfold parseL; rw [if_neg h6]; rfl)
  have h6' : (l.length : Int) ≤ 65536 := by omega
  have HL6 : Hid (l.length ≤ 65536) := Lib.hid (by omega)
  clear h6
  go_enter Tryd.func12, Tryd.ntmps12
  go_wp2_with fail
  go_loopw [0] (fun sv wr => ∃ m : List UInt8, sv = .string ⟨m.toArray⟩ ∧ Hid (m.length ≤ l.length ∧ skipC l = skipC m) ∧ Hid (Below w.heap.size w wr)) (fun sv _ => strLen sv)
  case atStart => exact ⟨l, rfl, Lib.hid ⟨Nat.le_refl _, rfl⟩, Lib.hid (Below.refl _ _)⟩
  case round =>
    obtain ⟨m, rfl, HM, HB⟩ := hrel
    have HP : Hid (Calls Tryd.prog 33 #[.string ⟨m.toArray⟩, .string ⟨#[35]⟩] wr fun e w' => e = .returned (.bool (Lib.hasPrefix m [35])) ∧ w' = wr) := Lib.hid (Tryd.strings_HasPrefix ⟨m.toArray⟩ ⟨#[35]⟩ wr)
    have HC := Lib.hid (cutnl_any m wr (hg.ext HB.out) (by have := HM.out.1; have := HL6.out; omega))
    cases hp : Lib.hasPrefix m [35]
    · have hne : ¬ m.head? = some 35 := fun h => by rw [(pre_hash m).2 h] at hp; cases hp
      have HSK : Hid (skipC l = m) := Lib.hid (by rw [HM.out.2, skipC_no hne])
      rw [hp] at HP
      rw [HSK.out] at HT
      clear hp hne
      have hal := afterLine_len m
      have hll : (lineOf m).length ≤ m.length := by
        have := congrArg List.length (line_split m)
        rw [List.length_append] at this
        omega
      have HH := Lib.hid (fun w' (hb : Below w.heap.size w w') => header_any (lineOf m) w' (hg.ext hb) (by have := HM.out.1; have := HL6.out; omega))
      obtain ⟨ln, hln⟩ : ∃ ln, ln = lineOf m := ⟨_, rfl⟩
      obtain ⟨af, haf⟩ : ∃ af, af = afterLine m := ⟨_, rfl⟩
      rw [← hln, ← haf] at HT HC
      rw [← hln] at HH hll
      rw [← haf] at hal
      clear hln haf
      cases hd : hdrL ln with
      | none =>
        rw [hd] at HT
        dsimp only at HT
        have hf := hdrT_none hd
        obtain ⟨q, hq⟩ : ∃ q, q = hdrT ln := ⟨_, rfl⟩
        rw [← hq] at HH hf
        clear hq hd
        obtain ⟨q1, q2, q3, q4⟩ := q
        dsimp only at HH hf
        subst hf
        go_wp2_with fail
        refine HP.out.mono ?_
        rintro e w1 ⟨rfl, hw1⟩
        have hw2 := hw1.symm
        clear hw1
        subst hw2
        go_wp2_with fail
        refine HC.out.mono ?_
        rintro e w1 ⟨b, rfl, hb1⟩
        have HB1 := Lib.hid (HB.out.trans (hb1.mono HB.out.size))
        clear hb1
        have HH1 := Lib.hid (HH.out w1 HB1.out)
        go_wp2_with fail
        refine HH1.out.mono ?_
        rintro e w2 ⟨rfl, hb2⟩
        have HB2 := Lib.hid (HB1.out.trans (hb2.mono HB1.out.size))
        clear hb2
        go_wp2
        go_ret3
        exact RetParse.bad HT.out HB2.out
      | some q =>
        obtain ⟨wv, hv, rule⟩ := q
        rw [hd] at HT
        dsimp only at HT
        have hbd := hdrL_bd hd
        rw [hdrT_some hd] at HH
        dsimp only at HH
        clear hd
        have hrl : rule.length ≤ 65536 := by have := HM.out.1; have := HL6.out; omega
        have hafl : af.length ≤ 65536 := by have := HM.out.1; have := HL6.out; omega
        have HR := Lib.hid (fun w' => ruleName_any ⟨rule.toArray⟩ w' (by show rule.toArray.size ≤ _; simp; omega))
        have HRD := Lib.hid (fun w' => rd_any af wv hv w' hafl hbd.1 (by omega) hbd.2.2.1 (by omega))
        clear hbd hrl hafl hal hll
        cases hn : nameB rule
        · rw [hn] at HR
          rw [hn, if_pos rfl] at HT
          clear hn
          go_wp2_with fail
          refine HP.out.mono ?_
          rintro e w1 ⟨rfl, hw1⟩
          have hw2 := hw1.symm
          clear hw1
          subst hw2
          go_wp2_with fail
          refine HC.out.mono ?_
          rintro e w1 ⟨b, rfl, hb1⟩
          have HB1 := Lib.hid (HB.out.trans (hb1.mono HB.out.size))
          clear hb1
          have HH1 := Lib.hid (HH.out w1 HB1.out)
          go_wp2_with fail
          refine HH1.out.mono ?_
          rintro e w2 ⟨rfl, hb2⟩
          have HB2 := Lib.hid (HB1.out.trans (hb2.mono HB1.out.size))
          clear hb2
          go_wp2_with fail
          refine (HR.out _).mono ?_
          rintro e w3 ⟨rfl, hw3⟩
          have hw4 := hw3.symm
          clear hw3
          subst hw4
          go_wp2
          go_ret3
          exact RetParse.bad HT.out HB2.out
        rw [hn] at HR
        rw [hn, if_neg (by simp)] at HT
        clear hn
        by_cases hw9 : 1048577 < wv
        · rw [if_pos (.inl hw9)] at HT
          have d1 : decide (1048577 < wv) = true := decide_eq_true hw9
          go_wp2_with fail
          refine HP.out.mono ?_
          rintro e w1 ⟨rfl, hw1⟩
          have hw2 := hw1.symm
          clear hw1
          subst hw2
          go_wp2_with fail
          refine HC.out.mono ?_
          rintro e w1 ⟨b, rfl, hb1⟩
          have HB1 := Lib.hid (HB.out.trans (hb1.mono HB.out.size))
          clear hb1
          have HH1 := Lib.hid (HH.out w1 HB1.out)
          go_wp2_with fail
          refine HH1.out.mono ?_
          rintro e w2 ⟨rfl, hb2⟩
          have HB2 := Lib.hid (HB1.out.trans (hb2.mono HB1.out.size))
          clear hb2
          go_wp2_with fail
          refine (HR.out _).mono ?_
          rintro e w3 ⟨rfl, hw3⟩
          have hw4 := hw3.symm
          clear hw3
          subst hw4
          go_wp2
          go_ret3
          exact RetParse.bad HT.out HB2.out
        have d1 : decide (1048577 < wv) = false := decide_eq_false hw9
        by_cases hh9 : 1048577 < hv
        · rw [if_pos (.inr hh9)] at HT
          have d2 : decide (1048577 < hv) = true := decide_eq_true hh9
          go_wp2_with fail
          refine HP.out.mono ?_
          rintro e w1 ⟨rfl, hw1⟩
          have hw2 := hw1.symm
          clear hw1
          subst hw2
          go_wp2_with fail
          refine HC.out.mono ?_
          rintro e w1 ⟨b, rfl, hb1⟩
          have HB1 := Lib.hid (HB.out.trans (hb1.mono HB.out.size))
          clear hb1
          have HH1 := Lib.hid (HH.out w1 HB1.out)
          go_wp2_with fail
          refine HH1.out.mono ?_
          rintro e w2 ⟨rfl, hb2⟩
          have HB2 := Lib.hid (HB1.out.trans (hb2.mono HB1.out.size))
          clear hb2
          go_wp2_with fail
          refine (HR.out _).mono ?_
          rintro e w3 ⟨rfl, hw3⟩
          have hw4 := hw3.symm
          clear hw3
          subst hw4
          go_wp2
          go_ret3
          exact RetParse.bad HT.out HB2.out
        have d2 : decide (1048577 < hv) = false := decide_eq_false hh9
        rw [if_neg (by omega)] at HT
        obtain ⟨r, hr⟩ : ∃ r, r = readM wv hv af [] ps0 := ⟨_, rfl⟩
        rw [← hr] at HRD HT
        clear hr hw9 hh9
        obtain ⟨cs, er⟩ := r
        dsimp only at HT
        go_wp2_with fail
        refine HP.out.mono ?_
        rintro e w1 ⟨rfl, hw1⟩
        have hw2 := hw1.symm
        clear hw1
        subst hw2
        go_wp2_with fail
        refine HC.out.mono ?_
        rintro e w1 ⟨b, rfl, hb1⟩
        have HB1 := Lib.hid (HB.out.trans (hb1.mono HB.out.size))
        clear hb1
        have HH1 := Lib.hid (HH.out w1 HB1.out)
        go_wp2_with fail
        refine HH1.out.mono ?_
        rintro e w2 ⟨rfl, hb2⟩
        have HB2 := Lib.hid (HB1.out.trans (hb2.mono HB1.out.size))
        clear hb2
        go_wp2_with fail
        refine (HR.out _).mono ?_
        rintro e w3 ⟨rfl, hw3⟩
        have hw4 := hw3.symm
        clear hw3
        subst hw4
        have HRD1 := Lib.hid (HRD.out w2)
        unfold RetRead at HRD1
        dsimp only at HRD1
        go_wp2_with fail
        refine HRD1.out.mono ?_
        rintro e w4 ⟨A, c, rfl, hcl, hb4⟩
        have HB4 := Lib.hid (HB2.out.trans (hb4.mono HB2.out.size))
        have HCL := Lib.hid hcl
        clear hb4 hcl
        by_cases he : er = 0
        · subst he
          rw [if_neg (by simp)] at HT
          go_wp2
          go_ret3
          exact RetParse.good HT.out HCL.out HB4.out
        · have de : (er == 0) = false := by simpa using he
          have de2 : (er != 0) = true := by simpa using he
          rw [if_pos he] at HT
          go_wp2
          go_ret3
          exact RetParse.bad HT.out HB4.out
    · have HH := (pre_hash m).1 hp
      have HSK : Hid ((afterLine m).length ≤ l.length ∧ skipC l = skipC (afterLine m)) := Lib.hid ⟨by have := afterLine_len m; have := HM.out.1; omega, by rw [HM.out.2, skipC_yes HH]⟩
      have HLT : Hid ((afterLine m).length < m.length) := Lib.hid (by
        have h1 := afterLine_len m
        cases m with
        | nil => cases HH
        | cons a m => rw [List.length_cons] at *; omega)
      rw [hp] at HP
      clear hp HH
      obtain ⟨af, haf⟩ : ∃ af, af = afterLine m := ⟨_, rfl⟩
      rw [← haf] at HSK HLT HC
      clear haf
      go_wp2_with fail
      refine HP.out.mono ?_
      rintro e w1 ⟨rfl, hw1⟩
      have hw2 := hw1.symm
      clear hw1
      subst hw2
      go_wp2_with fail
      refine HC.out.mono ?_
      rintro e w1 ⟨b, rfl, hb1⟩
      have HB1 := Lib.hid (HB.out.trans (hb1.mono HB.out.size))
      clear hb1
      go_wp2
      go_roundw
      case rel => exact ⟨af, rfl, HSK, HB1⟩
      case measure => exact strLen_lt HLT.out
end Go.Proofs.YtekmldneinnmoaaDoor
