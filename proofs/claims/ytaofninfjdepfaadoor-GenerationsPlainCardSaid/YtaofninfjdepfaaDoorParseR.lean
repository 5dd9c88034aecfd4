/-
  cellularref09.Parse. At most 2^31 bytes.
-/
import Derived.Test.YtaofninfjdepfaaDoorCnt
namespace Go.Proofs.YtaofninfjdepfaaDoor
open Go.RowKit
set_option maxRecDepth 100000
set_option linter.unusedVariables false
set_option linter.unusedSimpArgs false

/-- it hands back a rule and an error -/
def RetTot (r : TotL × Int) (w : World) (e : Ending) (w' : World) : Prop :=
  ∃ A a B b C c, e = .returned (.tuple #[totV A a B b C c r.1, .int .i64 r.2]) ∧ TotR w' A B C r.1 ∧ Below w.heap.size w w'
theorem TotR.set4 {w : World} {A B C : Option Addr} {t : TotL} {b : Nat} (h : TotR w A B C t) (ha : NewA (b + 1) A) (hb : NewA (b + 1) B) (hc : NewA (b + 1) C) (v0 v1 v2 v3 : Value) :
    TotR ((((w.setCell ⟨b, 0, none⟩ v0).setCell ⟨b, 1, none⟩ v1).setCell ⟨b, 2, none⟩ v2).setCell ⟨b, 3, none⟩ v3) A B C t :=
  ⟨(((h.hood.set_new ha (by simp) _).set_new ha (by simp) _).set_new ha (by simp) _).set_new ha (by simp) _,
    (((h.birth.set_new hb (by simp) _).set_new hb (by simp) _).set_new hb (by simp) _).set_new hb (by simp) _,
    (((h.survive.set_new hc (by simp) _).set_new hc (by simp) _).set_new hc (by simp) _).set_new hc (by simp) _⟩
def fin9 (b s : List Int) (n : Int) (h : List (Int × Int)) : TotL × Int :=
  if 3 ≤ n ∧ n ≤ 8 ∧ fitsL b h.length = true ∧ fitsL s h.length = true then (⟨h, n, b, s⟩, 0) else (zeroT, 5)
def tail9 (b s : List Int) (n : Int) (y : List UInt8) : TotL × Int :=
  if y = [] then fin9 b s n (mooreL 1) else if y = [86] then fin9 b s n (neumL 1) else if y = [72] then fin9 b s n hexL else (zeroT, 15)
def rparseL (l : List UInt8) : TotL × Int :=
  if (cntR l).2.2 < 0 then (zeroT, 15)
  else if (numR l (cntR l).2.2.toNat).2 < 0 then (zeroT, 15)
  else tail9 (cntR l).1 (cntR l).2.1 (numR l (cntR l).2.2.toNat).1 (l.drop (numR l (cntR l).2.2.toNat).2.toNat)
theorem after_le2 (l t : List UInt8) (p : Int) : afterL l p t ≤ l.length := by
  by_cases h : afterL l p t < 0
  · omega
  · exact (after_le h).2.1
theorem cnt_le (l : List UInt8) : (cntR l).2.2 ≤ l.length := by
  unfold cntR
  split
  · split
    · show (-1 : Int) ≤ _; omega
    · exact after_le2 _ _ _
  · split
    · show (-1 : Int) ≤ _; omega
    · exact after_le2 _ _ _
theorem digRun_le : ∀ l : List UInt8, (digRun l).length ≤ l.length
  | [] => Nat.le_refl _
  | c :: l => by
    unfold digRun
    split
    · have := digRun_le l
      simp; exact this
    · simp
theorem num_le (l : List UInt8) {q : Nat} (h : q ≤ l.length) : (numR l q).2 ≤ l.length := by
  unfold numR
  split
  · show (-1 : Int) ≤ _; omega
  · have := digRun_le (l.drop q)
    rw [List.length_drop] at this
    show (q : Int) + (digRun (l.drop q)).length ≤ _
    omega
set_option maxHeartbeats 4000000 in
theorem rparse_any (s : ByteArray) (w : World) (hs : s.size ≤ 2147483648) :
    Calls Tryd.prog 11 #[.string s] w (RetTot (rparseL s.data.toList) w) := by
  have hO := below_new w (.cells #[.slice none 0 0, .int .i64 0, .slice none 0 0, .slice none 0 0] 26)
  have br0 : Blk (w.alloc (.cells #[.slice none 0 0, .int .i64 0, .slice none 0 0, .slice none 0 0] 26)) w.heap.size 26 #[.slice none 0 0, .int .i64 0, .slice none 0 0, .slice none 0 0] := Blk.new _ _ _
  have C1 := Lib.hid (cntR_any s (w.alloc (.cells #[.slice none 0 0, .int .i64 0, .slice none 0 0, .slice none 0 0] 26)) hs)
  have KN := Lib.hid (fun (p : Nat) (W : World) (hp : p ≤ s.size) => numR_any s p W hp hs)
  have hlen : s.data.toList.length = s.size := (Lib.size_eq s).symm
  obtain ⟨l, hl⟩ : ∃ l, s.data.toList = l := ⟨_, rfl⟩
  rw [hl] at C1 KN hlen ⊢
  obtain ⟨bs, ss, q, hq⟩ : ∃ bs ss q, cntR l = (bs, ss, q) := ⟨_, _, _, rfl⟩
  rw [hq] at C1
  have HB := Lib.hid (And.intro hO br0)
  have HL := Lib.hid (And.intro hl hlen)
  clear hO br0 hl hlen
  by_cases h1 : q < 0
  · have d1 : decide (q < 0) = true := decide_eq_true h1
    have HN : Hid (rparseL l = (zeroT, 15)) := Lib.hid (by unfold rparseL; rw [hq, if_pos h1])
    clear hq
    go_enter Tryd.func11, Tryd.ntmps11
    go_wp2_with fail
    refine C1.out.mono ?_
    rintro e w1 ⟨A1, a1, B1, b1, rfl, hi1, hi2, hn1, hn2, hb⟩
    have br := HB.out.2.below hb HB.out.2.lt
    have HB2 := Lib.hid (HB.out.1.trans (hb.mono HB.out.1.size))
    have r0 := br.cell_ 0 _ rfl
    have r1 := br.cell_ 1 _ rfl
    have r2 := br.cell_ 2 _ rfl
    have r3 := br.cell_ 3 _ rfl
    have g0 := br.frozen 0
    have g1 := br.frozen 1
    have g2 := br.frozen 2
    have g3 := br.frozen 3
    clear br hb hi1 hi2 hn1 hn2
    go_wp2
    refine bodyPost_ret (v := .tuple #[.agg #[.slice none 0 0, .int .i64 0, .slice none 0 0, .slice none 0 0], .int .i64 15]) (by simp [results, Tryd.results11, go_sem, r0, r1, r2, r3]) rfl ?_
    rw [HN.out]
    exact ⟨none, 0, none, 0, none, 0, rfl, TotR.zero _, below_set4 HB2.out (Nat.le_refl _) _ _ _ _⟩
  · have d1 : decide (q < 0) = false := decide_eq_false h1
    have hqs : q ≤ s.size := by have := cnt_le l; rw [hq, HL.out.2] at this; exact this
    obtain ⟨n, k, hk⟩ : ∃ n k, numR l q.toNat = (n, k) := ⟨_, _, rfl⟩
    have C2 := Lib.hid (fun W => KN.out q.toNat W (by omega))
    have eq : ((q.toNat : Nat) : Int) = q := by omega
    rw [hk, eq] at C2
    by_cases h2 : k < 0
    · have d2 : decide (k < 0) = true := decide_eq_true h2
      have HN : Hid (rparseL l = (zeroT, 15)) := Lib.hid (by unfold rparseL; rw [hq, if_neg h1, hk, if_pos h2])
      clear hq hk eq
      go_enter Tryd.func11, Tryd.ntmps11
      go_wp2_with fail
      refine C1.out.mono ?_
      rintro e w1 ⟨A1, a1, B1, b1, rfl, hi1, hi2, hn1, hn2, hb⟩
      go_wp2_with fail
      refine (C2.out _).mono ?_
      rintro e w2 ⟨rfl, hw⟩
      have hw2 := hw.symm
      clear hw
      subst hw2
      have br := HB.out.2.below hb HB.out.2.lt
      have HB2 := Lib.hid (HB.out.1.trans (hb.mono HB.out.1.size))
      have r0 := br.cell_ 0 _ rfl
      have r1 := br.cell_ 1 _ rfl
      have r2 := br.cell_ 2 _ rfl
      have r3 := br.cell_ 3 _ rfl
      have g0 := br.frozen 0
      have g1 := br.frozen 1
      have g2 := br.frozen 2
      have g3 := br.frozen 3
      clear br hb hi1 hi2 hn1 hn2
      go_wp2
      refine bodyPost_ret (v := .tuple #[.agg #[.slice none 0 0, .int .i64 0, .slice none 0 0, .slice none 0 0], .int .i64 15]) (by simp [results, Tryd.results11, go_sem, r0, r1, r2, r3]) rfl ?_
      rw [HN.out]
      exact ⟨none, 0, none, 0, none, 0, rfl, TotR.zero _, below_set4 HB2.out (Nat.le_refl _) _ _ _ _⟩
    · have d2 : decide (k < 0) = false := decide_eq_false h2
      have hks : k ≤ s.size := by have := num_le l (q := q.toNat) (by rw [HL.out.2]; omega); rw [hk, HL.out.2] at this; exact this
      have HR : Hid (rparseL l = tail9 bs ss n (l.drop k.toNat)) := Lib.hid (by unfold rparseL; rw [hq, if_neg h1, hk, if_neg h2])
      clear hq hk eq
      have ey : (s.extract k.toNat s.size).toList = l.drop k.toNat := by
        rw [Lib.extract_toList, HL.out.1, List.take_of_length_le]
        rw [List.length_drop, HL.out.2]; omega
      by_cases EY : l.drop k.toNat = []
      · have y0 : (s.extract k.toNat s.size).toList.isEmpty = true := by rw [ey, EY]; rfl
        clear ey
        have HT : Hid (tail9 bs ss n (l.drop k.toNat) = fin9 bs ss n (mooreL 1)) := Lib.hid (by unfold tail9; rw [if_pos EY])
        clear EY
        by_cases n1 : n < 3
        · have dn : decide (n < 3) = true := decide_eq_true n1
          have HN : Hid (rparseL l = (zeroT, 5)) := Lib.hid (by rw [HR.out, HT.out]; unfold fin9; rw [if_neg (by omega)])
          go_enter Tryd.func11, Tryd.ntmps11
          go_wp2_with fail
          refine C1.out.mono ?_
          rintro e w1 ⟨A1, a1, B1, b1, rfl, hi1, hi2, hn1, hn2, hb⟩
          go_wp2_with fail
          refine (C2.out _).mono ?_
          rintro e w2 ⟨rfl, hw⟩
          have hw2 := hw.symm
          clear hw
          subst hw2
          have HM := Lib.hid (rmoore_one w1)
          go_wp2_with fail
          refine HM.out.mono ?_
          rintro e w2 ⟨A3, a3, rfl, hp, hn3, hb3⟩
          have hb0 := HB.out.1.trans (hb.mono HB.out.1.size)
          have hbb := hb0.trans (hb3.mono hb0.size)
          have br := (HB.out.2.below hb HB.out.2.lt).below hb3 (HB.out.2.below hb HB.out.2.lt).lt
          have hj1 := hi1.ext hb3
          have hj2 := hi2.ext hb3
          have hm1 : NewA (w.heap.size + 1) A1 := by simpa using hn1
          have hm2 : NewA (w.heap.size + 1) B1 := by simpa using hn2
          have hm3 : NewA (w.heap.size + 1) A3 := hn3.mono (by have := hb.size; simp at this; exact this)
          clear HM hi1 hi2 hn1 hn2 hn3 hb hb3 hb0
          have r0 := br.cell_ 0 _ rfl
          have r1 := br.cell_ 1 _ rfl
          have r2 := br.cell_ 2 _ rfl
          have r3 := br.cell_ 3 _ rfl
          have g0 := br.frozen 0
          have g1 := br.frozen 1
          have g2 := br.frozen 2
          have g3 := br.frozen 3
          have HF := Lib.hid (And.intro hbb (And.intro hp (And.intro hj1 (And.intro hj2 (And.intro hm1 (And.intro hm2 hm3))))))
          clear br hbb hp hj1 hj2 hm1 hm2 hm3
          go_wp2
          refine bodyPost_ret (v := .tuple #[.agg #[.slice none 0 0, .int .i64 0, .slice none 0 0, .slice none 0 0], .int .i64 5]) (by simp [results, Tryd.results11, go_sem, r0, r1, r2, r3]) rfl ?_
          rw [HN.out]
          exact ⟨none, 0, none, 0, none, 0, rfl, TotR.zero _, below_set4 HF.out.1 (Nat.le_refl _) _ _ _ _⟩
        have dn : decide (n < 3) = false := decide_eq_false n1
        by_cases n2 : 8 < n
        · have dn2 : decide (8 < n) = true := decide_eq_true n2
          have HN : Hid (rparseL l = (zeroT, 5)) := Lib.hid (by rw [HR.out, HT.out]; unfold fin9; rw [if_neg (by omega)])
          go_enter Tryd.func11, Tryd.ntmps11
          go_wp2_with fail
          refine C1.out.mono ?_
          rintro e w1 ⟨A1, a1, B1, b1, rfl, hi1, hi2, hn1, hn2, hb⟩
          go_wp2_with fail
          refine (C2.out _).mono ?_
          rintro e w2 ⟨rfl, hw⟩
          have hw2 := hw.symm
          clear hw
          subst hw2
          have HM := Lib.hid (rmoore_one w1)
          go_wp2_with fail
          refine HM.out.mono ?_
          rintro e w2 ⟨A3, a3, rfl, hp, hn3, hb3⟩
          have hb0 := HB.out.1.trans (hb.mono HB.out.1.size)
          have hbb := hb0.trans (hb3.mono hb0.size)
          have br := (HB.out.2.below hb HB.out.2.lt).below hb3 (HB.out.2.below hb HB.out.2.lt).lt
          have hj1 := hi1.ext hb3
          have hj2 := hi2.ext hb3
          have hm1 : NewA (w.heap.size + 1) A1 := by simpa using hn1
          have hm2 : NewA (w.heap.size + 1) B1 := by simpa using hn2
          have hm3 : NewA (w.heap.size + 1) A3 := hn3.mono (by have := hb.size; simp at this; exact this)
          clear HM hi1 hi2 hn1 hn2 hn3 hb hb3 hb0
          have r0 := br.cell_ 0 _ rfl
          have r1 := br.cell_ 1 _ rfl
          have r2 := br.cell_ 2 _ rfl
          have r3 := br.cell_ 3 _ rfl
          have g0 := br.frozen 0
          have g1 := br.frozen 1
          have g2 := br.frozen 2
          have g3 := br.frozen 3
          have HF := Lib.hid (And.intro hbb (And.intro hp (And.intro hj1 (And.intro hj2 (And.intro hm1 (And.intro hm2 hm3))))))
          clear br hbb hp hj1 hj2 hm1 hm2 hm3
          go_wp2
          refine bodyPost_ret (v := .tuple #[.agg #[.slice none 0 0, .int .i64 0, .slice none 0 0, .slice none 0 0], .int .i64 5]) (by simp [results, Tryd.results11, go_sem, r0, r1, r2, r3]) rfl ?_
          rw [HN.out]
          exact ⟨none, 0, none, 0, none, 0, rfl, TotR.zero _, below_set4 HF.out.1 (Nat.le_refl _) _ _ _ _⟩
        have dn2 : decide (8 < n) = false := decide_eq_false n2
        cases f1 : fitsL bs (mooreL 1).length
        · have HN : Hid (rparseL l = (zeroT, 5)) := Lib.hid (by rw [HR.out, HT.out]; unfold fin9; rw [if_neg (by rw [f1]; simp)])
          have F1 := Lib.hid f1
          clear f1
          go_enter Tryd.func11, Tryd.ntmps11
          go_wp2_with fail
          refine C1.out.mono ?_
          rintro e w1 ⟨A1, a1, B1, b1, rfl, hi1, hi2, hn1, hn2, hb⟩
          go_wp2_with fail
          refine (C2.out _).mono ?_
          rintro e w2 ⟨rfl, hw⟩
          have hw2 := hw.symm
          clear hw
          subst hw2
          have HM := Lib.hid (rmoore_one w1)
          go_wp2_with fail
          refine HM.out.mono ?_
          rintro e w2 ⟨A3, a3, rfl, hp, hn3, hb3⟩
          have hb0 := HB.out.1.trans (hb.mono HB.out.1.size)
          have hbb := hb0.trans (hb3.mono hb0.size)
          have br := (HB.out.2.below hb HB.out.2.lt).below hb3 (HB.out.2.below hb HB.out.2.lt).lt
          have hj1 := hi1.ext hb3
          have hj2 := hi2.ext hb3
          have hm1 : NewA (w.heap.size + 1) A1 := by simpa using hn1
          have hm2 : NewA (w.heap.size + 1) B1 := by simpa using hn2
          have hm3 : NewA (w.heap.size + 1) A3 := hn3.mono (by have := hb.size; simp at this; exact this)
          clear HM hi1 hi2 hn1 hn2 hn3 hb hb3 hb0
          have r0 := br.cell_ 0 _ rfl
          have r1 := br.cell_ 1 _ rfl
          have r2 := br.cell_ 2 _ rfl
          have r3 := br.cell_ 3 _ rfl
          have g0 := br.frozen 0
          have g1 := br.frozen 1
          have g2 := br.frozen 2
          have g3 := br.frozen 3
          have HF := Lib.hid (And.intro hbb (And.intro hp (And.intro hj1 (And.intro hj2 (And.intro hm1 (And.intro hm2 hm3))))))
          clear br hbb hp hj1 hj2 hm1 hm2 hm3
          have HC := Lib.hid (fits_any A1 A3 bs a1 a3 (mooreL 1) _ HF.out.2.2.1 (by decide))
          rw [F1.out] at HC
          go_wp2_with fail
          refine HC.out.mono ?_
          rintro e w9 ⟨rfl, hw⟩
          have hw2 := hw.symm
          clear hw
          subst hw2
          clear HC
          go_wp2
          refine bodyPost_ret (v := .tuple #[.agg #[.slice none 0 0, .int .i64 0, .slice none 0 0, .slice none 0 0], .int .i64 5]) (by simp [results, Tryd.results11, go_sem, r0, r1, r2, r3]) rfl ?_
          rw [HN.out]
          exact ⟨none, 0, none, 0, none, 0, rfl, TotR.zero _, below_set4 HF.out.1 (Nat.le_refl _) _ _ _ _⟩
        have F1 := Lib.hid f1
        clear f1
        cases f2 : fitsL ss (mooreL 1).length
        · have HN : Hid (rparseL l = (zeroT, 5)) := Lib.hid (by rw [HR.out, HT.out]; unfold fin9; rw [if_neg (by rw [f2]; simp)])
          have F2 := Lib.hid f2
          clear f2
          go_enter Tryd.func11, Tryd.ntmps11
          go_wp2_with fail
          refine C1.out.mono ?_
          rintro e w1 ⟨A1, a1, B1, b1, rfl, hi1, hi2, hn1, hn2, hb⟩
          go_wp2_with fail
          refine (C2.out _).mono ?_
          rintro e w2 ⟨rfl, hw⟩
          have hw2 := hw.symm
          clear hw
          subst hw2
          have HM := Lib.hid (rmoore_one w1)
          go_wp2_with fail
          refine HM.out.mono ?_
          rintro e w2 ⟨A3, a3, rfl, hp, hn3, hb3⟩
          have hb0 := HB.out.1.trans (hb.mono HB.out.1.size)
          have hbb := hb0.trans (hb3.mono hb0.size)
          have br := (HB.out.2.below hb HB.out.2.lt).below hb3 (HB.out.2.below hb HB.out.2.lt).lt
          have hj1 := hi1.ext hb3
          have hj2 := hi2.ext hb3
          have hm1 : NewA (w.heap.size + 1) A1 := by simpa using hn1
          have hm2 : NewA (w.heap.size + 1) B1 := by simpa using hn2
          have hm3 : NewA (w.heap.size + 1) A3 := hn3.mono (by have := hb.size; simp at this; exact this)
          clear HM hi1 hi2 hn1 hn2 hn3 hb hb3 hb0
          have r0 := br.cell_ 0 _ rfl
          have r1 := br.cell_ 1 _ rfl
          have r2 := br.cell_ 2 _ rfl
          have r3 := br.cell_ 3 _ rfl
          have g0 := br.frozen 0
          have g1 := br.frozen 1
          have g2 := br.frozen 2
          have g3 := br.frozen 3
          have HF := Lib.hid (And.intro hbb (And.intro hp (And.intro hj1 (And.intro hj2 (And.intro hm1 (And.intro hm2 hm3))))))
          clear br hbb hp hj1 hj2 hm1 hm2 hm3
          have HC := Lib.hid (fits_any A1 A3 bs a1 a3 (mooreL 1) _ HF.out.2.2.1 (by decide))
          rw [F1.out] at HC
          go_wp2_with fail
          refine HC.out.mono ?_
          rintro e w9 ⟨rfl, hw⟩
          have hw2 := hw.symm
          clear hw
          subst hw2
          clear HC
          have HC := Lib.hid (fits_any B1 A3 ss b1 a3 (mooreL 1) _ HF.out.2.2.2.1 (by decide))
          rw [F2.out] at HC
          go_wp2_with fail
          refine HC.out.mono ?_
          rintro e w9 ⟨rfl, hw⟩
          have hw2 := hw.symm
          clear hw
          subst hw2
          clear HC
          go_wp2
          refine bodyPost_ret (v := .tuple #[.agg #[.slice none 0 0, .int .i64 0, .slice none 0 0, .slice none 0 0], .int .i64 5]) (by simp [results, Tryd.results11, go_sem, r0, r1, r2, r3]) rfl ?_
          rw [HN.out]
          exact ⟨none, 0, none, 0, none, 0, rfl, TotR.zero _, below_set4 HF.out.1 (Nat.le_refl _) _ _ _ _⟩
        · have HN : Hid (rparseL l = (⟨mooreL 1, n, bs, ss⟩, 0)) := Lib.hid (by rw [HR.out, HT.out]; unfold fin9; rw [if_pos ⟨by omega, by omega, F1.out, f2⟩])
          have F2 := Lib.hid f2
          clear f2
          go_enter Tryd.func11, Tryd.ntmps11
          go_wp2_with fail
          refine C1.out.mono ?_
          rintro e w1 ⟨A1, a1, B1, b1, rfl, hi1, hi2, hn1, hn2, hb⟩
          go_wp2_with fail
          refine (C2.out _).mono ?_
          rintro e w2 ⟨rfl, hw⟩
          have hw2 := hw.symm
          clear hw
          subst hw2
          have HM := Lib.hid (rmoore_one w1)
          go_wp2_with fail
          refine HM.out.mono ?_
          rintro e w2 ⟨A3, a3, rfl, hp, hn3, hb3⟩
          have hb0 := HB.out.1.trans (hb.mono HB.out.1.size)
          have hbb := hb0.trans (hb3.mono hb0.size)
          have br := (HB.out.2.below hb HB.out.2.lt).below hb3 (HB.out.2.below hb HB.out.2.lt).lt
          have hj1 := hi1.ext hb3
          have hj2 := hi2.ext hb3
          have hm1 : NewA (w.heap.size + 1) A1 := by simpa using hn1
          have hm2 : NewA (w.heap.size + 1) B1 := by simpa using hn2
          have hm3 : NewA (w.heap.size + 1) A3 := hn3.mono (by have := hb.size; simp at this; exact this)
          clear HM hi1 hi2 hn1 hn2 hn3 hb hb3 hb0
          have r0 := br.cell_ 0 _ rfl
          have r1 := br.cell_ 1 _ rfl
          have r2 := br.cell_ 2 _ rfl
          have r3 := br.cell_ 3 _ rfl
          have g0 := br.frozen 0
          have g1 := br.frozen 1
          have g2 := br.frozen 2
          have g3 := br.frozen 3
          have HF := Lib.hid (And.intro hbb (And.intro hp (And.intro hj1 (And.intro hj2 (And.intro hm1 (And.intro hm2 hm3))))))
          clear br hbb hp hj1 hj2 hm1 hm2 hm3
          have HC := Lib.hid (fits_any A1 A3 bs a1 a3 (mooreL 1) _ HF.out.2.2.1 (by decide))
          rw [F1.out] at HC
          go_wp2_with fail
          refine HC.out.mono ?_
          rintro e w9 ⟨rfl, hw⟩
          have hw2 := hw.symm
          clear hw
          subst hw2
          clear HC
          have HC := Lib.hid (fits_any B1 A3 ss b1 a3 (mooreL 1) _ HF.out.2.2.2.1 (by decide))
          rw [F2.out] at HC
          go_wp2_with fail
          refine HC.out.mono ?_
          rintro e w9 ⟨rfl, hw⟩
          have hw2 := hw.symm
          clear hw
          subst hw2
          clear HC
          go_wp2
          refine bodyPost_ret (v := .tuple #[.agg #[.slice A3 (mooreL 1).length a3, .int .i64 n, .slice A1 bs.length a1, .slice B1 ss.length b1], .int .i64 0]) (by simp [results, Tryd.results11, go_sem, r0, r1, r2, r3]) rfl ?_
          rw [HN.out]
          exact ⟨A3, a3, A1, a1, B1, b1, rfl, (TotR.mk HF.out.2.1 HF.out.2.2.1 HF.out.2.2.2.1 : TotR _ A3 A1 B1 ⟨mooreL 1, n, bs, ss⟩).set4 HF.out.2.2.2.2.2.2 HF.out.2.2.2.2.1 HF.out.2.2.2.2.2.1 _ _ _ _, below_set4 HF.out.1 (Nat.le_refl _) _ _ _ _⟩
      have y0 : (s.extract k.toNat s.size).toList.isEmpty = false := by rw [ey]; simpa using EY
      have EY0 := Lib.hid EY
      clear EY
      by_cases EY : l.drop k.toNat = [86]
      · have y1 : ((s.extract k.toNat s.size).toList == [86]) = true := by rw [ey, EY]; rfl
        clear ey
        have HT : Hid (tail9 bs ss n (l.drop k.toNat) = fin9 bs ss n (neumL 1)) := Lib.hid (by unfold tail9; rw [if_neg (by rw [EY]; simp), if_pos EY])
        clear EY
        by_cases n1 : n < 3
        · have dn : decide (n < 3) = true := decide_eq_true n1
          have HN : Hid (rparseL l = (zeroT, 5)) := Lib.hid (by rw [HR.out, HT.out]; unfold fin9; rw [if_neg (by omega)])
          go_enter Tryd.func11, Tryd.ntmps11
          go_wp2_with fail
          refine C1.out.mono ?_
          rintro e w1 ⟨A1, a1, B1, b1, rfl, hi1, hi2, hn1, hn2, hb⟩
          go_wp2_with fail
          refine (C2.out _).mono ?_
          rintro e w2 ⟨rfl, hw⟩
          have hw2 := hw.symm
          clear hw
          subst hw2
          have HM := Lib.hid (rmoore_one w1)
          go_wp2_with fail
          refine HM.out.mono ?_
          rintro e w2 ⟨A3, a3, rfl, hp, hn3, hb3⟩
          have hb0 := HB.out.1.trans (hb.mono HB.out.1.size)
          have hbb := hb0.trans (hb3.mono hb0.size)
          have br := (HB.out.2.below hb HB.out.2.lt).below hb3 (HB.out.2.below hb HB.out.2.lt).lt
          have hj1 := hi1.ext hb3
          have hj2 := hi2.ext hb3
          have hm1 : NewA (w.heap.size + 1) A1 := by simpa using hn1
          have hm2 : NewA (w.heap.size + 1) B1 := by simpa using hn2
          have hm3 : NewA (w.heap.size + 1) A3 := hn3.mono (by have := hb.size; simp at this; exact this)
          clear HM hi1 hi2 hn1 hn2 hn3 hb hb3 hb0
          have HM := Lib.hid (rneum_one w2)
          go_wp2_with fail
          refine HM.out.mono ?_
          rintro e w3 ⟨A4, a4, rfl, hp4, hn4, hb4⟩
          have hbb2 := hbb.trans (hb4.mono hbb.size)
          have br2 := br.below hb4 br.lt
          have hj12 := hj1.ext hb4
          have hj22 := hj2.ext hb4
          have hm4 : NewA (w.heap.size + 1) A4 := hn4.mono (by have := br.lt; omega)
          clear HM br hj1 hj2 hn4 hb4 hbb hp hm3
          have br := br2
          have hj1 := hj12
          have hj2 := hj22
          have hbb := hbb2
          have hp := hp4
          have hm3 := hm4
          clear br2 hj12 hj22 hbb2 hp4 hm4
          have r0 := br.cell_ 0 _ rfl
          have r1 := br.cell_ 1 _ rfl
          have r2 := br.cell_ 2 _ rfl
          have r3 := br.cell_ 3 _ rfl
          have g0 := br.frozen 0
          have g1 := br.frozen 1
          have g2 := br.frozen 2
          have g3 := br.frozen 3
          have HF := Lib.hid (And.intro hbb (And.intro hp (And.intro hj1 (And.intro hj2 (And.intro hm1 (And.intro hm2 hm3))))))
          clear br hbb hp hj1 hj2 hm1 hm2 hm3
          go_wp2
          refine bodyPost_ret (v := .tuple #[.agg #[.slice none 0 0, .int .i64 0, .slice none 0 0, .slice none 0 0], .int .i64 5]) (by simp [results, Tryd.results11, go_sem, r0, r1, r2, r3]) rfl ?_
          rw [HN.out]
          exact ⟨none, 0, none, 0, none, 0, rfl, TotR.zero _, below_set4 HF.out.1 (Nat.le_refl _) _ _ _ _⟩
        have dn : decide (n < 3) = false := decide_eq_false n1
        by_cases n2 : 8 < n
        · have dn2 : decide (8 < n) = true := decide_eq_true n2
          have HN : Hid (rparseL l = (zeroT, 5)) := Lib.hid (by rw [HR.out, HT.out]; unfold fin9; rw [if_neg (by omega)])
          go_enter Tryd.func11, Tryd.ntmps11
          go_wp2_with fail
          refine C1.out.mono ?_
          rintro e w1 ⟨A1, a1, B1, b1, rfl, hi1, hi2, hn1, hn2, hb⟩
          go_wp2_with fail
          refine (C2.out _).mono ?_
          rintro e w2 ⟨rfl, hw⟩
          have hw2 := hw.symm
          clear hw
          subst hw2
          have HM := Lib.hid (rmoore_one w1)
          go_wp2_with fail
          refine HM.out.mono ?_
          rintro e w2 ⟨A3, a3, rfl, hp, hn3, hb3⟩
          have hb0 := HB.out.1.trans (hb.mono HB.out.1.size)
          have hbb := hb0.trans (hb3.mono hb0.size)
          have br := (HB.out.2.below hb HB.out.2.lt).below hb3 (HB.out.2.below hb HB.out.2.lt).lt
          have hj1 := hi1.ext hb3
          have hj2 := hi2.ext hb3
          have hm1 : NewA (w.heap.size + 1) A1 := by simpa using hn1
          have hm2 : NewA (w.heap.size + 1) B1 := by simpa using hn2
          have hm3 : NewA (w.heap.size + 1) A3 := hn3.mono (by have := hb.size; simp at this; exact this)
          clear HM hi1 hi2 hn1 hn2 hn3 hb hb3 hb0
          have HM := Lib.hid (rneum_one w2)
          go_wp2_with fail
          refine HM.out.mono ?_
          rintro e w3 ⟨A4, a4, rfl, hp4, hn4, hb4⟩
          have hbb2 := hbb.trans (hb4.mono hbb.size)
          have br2 := br.below hb4 br.lt
          have hj12 := hj1.ext hb4
          have hj22 := hj2.ext hb4
          have hm4 : NewA (w.heap.size + 1) A4 := hn4.mono (by have := br.lt; omega)
          clear HM br hj1 hj2 hn4 hb4 hbb hp hm3
          have br := br2
          have hj1 := hj12
          have hj2 := hj22
          have hbb := hbb2
          have hp := hp4
          have hm3 := hm4
          clear br2 hj12 hj22 hbb2 hp4 hm4
          have r0 := br.cell_ 0 _ rfl
          have r1 := br.cell_ 1 _ rfl
          have r2 := br.cell_ 2 _ rfl
          have r3 := br.cell_ 3 _ rfl
          have g0 := br.frozen 0
          have g1 := br.frozen 1
          have g2 := br.frozen 2
          have g3 := br.frozen 3
          have HF := Lib.hid (And.intro hbb (And.intro hp (And.intro hj1 (And.intro hj2 (And.intro hm1 (And.intro hm2 hm3))))))
          clear br hbb hp hj1 hj2 hm1 hm2 hm3
          go_wp2
          refine bodyPost_ret (v := .tuple #[.agg #[.slice none 0 0, .int .i64 0, .slice none 0 0, .slice none 0 0], .int .i64 5]) (by simp [results, Tryd.results11, go_sem, r0, r1, r2, r3]) rfl ?_
          rw [HN.out]
          exact ⟨none, 0, none, 0, none, 0, rfl, TotR.zero _, below_set4 HF.out.1 (Nat.le_refl _) _ _ _ _⟩
        have dn2 : decide (8 < n) = false := decide_eq_false n2
        cases f1 : fitsL bs (neumL 1).length
        · have HN : Hid (rparseL l = (zeroT, 5)) := Lib.hid (by rw [HR.out, HT.out]; unfold fin9; rw [if_neg (by rw [f1]; simp)])
          have F1 := Lib.hid f1
          clear f1
          go_enter Tryd.func11, Tryd.ntmps11
          go_wp2_with fail
          refine C1.out.mono ?_
          rintro e w1 ⟨A1, a1, B1, b1, rfl, hi1, hi2, hn1, hn2, hb⟩
          go_wp2_with fail
          refine (C2.out _).mono ?_
          rintro e w2 ⟨rfl, hw⟩
          have hw2 := hw.symm
          clear hw
          subst hw2
          have HM := Lib.hid (rmoore_one w1)
          go_wp2_with fail
          refine HM.out.mono ?_
          rintro e w2 ⟨A3, a3, rfl, hp, hn3, hb3⟩
          have hb0 := HB.out.1.trans (hb.mono HB.out.1.size)
          have hbb := hb0.trans (hb3.mono hb0.size)
          have br := (HB.out.2.below hb HB.out.2.lt).below hb3 (HB.out.2.below hb HB.out.2.lt).lt
          have hj1 := hi1.ext hb3
          have hj2 := hi2.ext hb3
          have hm1 : NewA (w.heap.size + 1) A1 := by simpa using hn1
          have hm2 : NewA (w.heap.size + 1) B1 := by simpa using hn2
          have hm3 : NewA (w.heap.size + 1) A3 := hn3.mono (by have := hb.size; simp at this; exact this)
          clear HM hi1 hi2 hn1 hn2 hn3 hb hb3 hb0
          have HM := Lib.hid (rneum_one w2)
          go_wp2_with fail
          refine HM.out.mono ?_
          rintro e w3 ⟨A4, a4, rfl, hp4, hn4, hb4⟩
          have hbb2 := hbb.trans (hb4.mono hbb.size)
          have br2 := br.below hb4 br.lt
          have hj12 := hj1.ext hb4
          have hj22 := hj2.ext hb4
          have hm4 : NewA (w.heap.size + 1) A4 := hn4.mono (by have := br.lt; omega)
          clear HM br hj1 hj2 hn4 hb4 hbb hp hm3
          have br := br2
          have hj1 := hj12
          have hj2 := hj22
          have hbb := hbb2
          have hp := hp4
          have hm3 := hm4
          clear br2 hj12 hj22 hbb2 hp4 hm4
          have r0 := br.cell_ 0 _ rfl
          have r1 := br.cell_ 1 _ rfl
          have r2 := br.cell_ 2 _ rfl
          have r3 := br.cell_ 3 _ rfl
          have g0 := br.frozen 0
          have g1 := br.frozen 1
          have g2 := br.frozen 2
          have g3 := br.frozen 3
          have HF := Lib.hid (And.intro hbb (And.intro hp (And.intro hj1 (And.intro hj2 (And.intro hm1 (And.intro hm2 hm3))))))
          clear br hbb hp hj1 hj2 hm1 hm2 hm3
          have HC := Lib.hid (fits_any A1 A4 bs a1 a4 (neumL 1) _ HF.out.2.2.1 (by decide))
          rw [F1.out] at HC
          go_wp2_with fail
          refine HC.out.mono ?_
          rintro e w9 ⟨rfl, hw⟩
          have hw2 := hw.symm
          clear hw
          subst hw2
          clear HC
          go_wp2
          refine bodyPost_ret (v := .tuple #[.agg #[.slice none 0 0, .int .i64 0, .slice none 0 0, .slice none 0 0], .int .i64 5]) (by simp [results, Tryd.results11, go_sem, r0, r1, r2, r3]) rfl ?_
          rw [HN.out]
          exact ⟨none, 0, none, 0, none, 0, rfl, TotR.zero _, below_set4 HF.out.1 (Nat.le_refl _) _ _ _ _⟩
        have F1 := Lib.hid f1
        clear f1
        cases f2 : fitsL ss (neumL 1).length
        · have HN : Hid (rparseL l = (zeroT, 5)) := Lib.hid (by rw [HR.out, HT.out]; unfold fin9; rw [if_neg (by rw [f2]; simp)])
          have F2 := Lib.hid f2
          clear f2
          go_enter Tryd.func11, Tryd.ntmps11
          go_wp2_with fail
          refine C1.out.mono ?_
          rintro e w1 ⟨A1, a1, B1, b1, rfl, hi1, hi2, hn1, hn2, hb⟩
          go_wp2_with fail
          refine (C2.out _).mono ?_
          rintro e w2 ⟨rfl, hw⟩
          have hw2 := hw.symm
          clear hw
          subst hw2
          have HM := Lib.hid (rmoore_one w1)
          go_wp2_with fail
          refine HM.out.mono ?_
          rintro e w2 ⟨A3, a3, rfl, hp, hn3, hb3⟩
          have hb0 := HB.out.1.trans (hb.mono HB.out.1.size)
          have hbb := hb0.trans (hb3.mono hb0.size)
          have br := (HB.out.2.below hb HB.out.2.lt).below hb3 (HB.out.2.below hb HB.out.2.lt).lt
          have hj1 := hi1.ext hb3
          have hj2 := hi2.ext hb3
          have hm1 : NewA (w.heap.size + 1) A1 := by simpa using hn1
          have hm2 : NewA (w.heap.size + 1) B1 := by simpa using hn2
          have hm3 : NewA (w.heap.size + 1) A3 := hn3.mono (by have := hb.size; simp at this; exact this)
          clear HM hi1 hi2 hn1 hn2 hn3 hb hb3 hb0
          have HM := Lib.hid (rneum_one w2)
          go_wp2_with fail
          refine HM.out.mono ?_
          rintro e w3 ⟨A4, a4, rfl, hp4, hn4, hb4⟩
          have hbb2 := hbb.trans (hb4.mono hbb.size)
          have br2 := br.below hb4 br.lt
          have hj12 := hj1.ext hb4
          have hj22 := hj2.ext hb4
          have hm4 : NewA (w.heap.size + 1) A4 := hn4.mono (by have := br.lt; omega)
          clear HM br hj1 hj2 hn4 hb4 hbb hp hm3
          have br := br2
          have hj1 := hj12
          have hj2 := hj22
          have hbb := hbb2
          have hp := hp4
          have hm3 := hm4
          clear br2 hj12 hj22 hbb2 hp4 hm4
          have r0 := br.cell_ 0 _ rfl
          have r1 := br.cell_ 1 _ rfl
          have r2 := br.cell_ 2 _ rfl
          have r3 := br.cell_ 3 _ rfl
          have g0 := br.frozen 0
          have g1 := br.frozen 1
          have g2 := br.frozen 2
          have g3 := br.frozen 3
          have HF := Lib.hid (And.intro hbb (And.intro hp (And.intro hj1 (And.intro hj2 (And.intro hm1 (And.intro hm2 hm3))))))
          clear br hbb hp hj1 hj2 hm1 hm2 hm3
          have HC := Lib.hid (fits_any A1 A4 bs a1 a4 (neumL 1) _ HF.out.2.2.1 (by decide))
          rw [F1.out] at HC
          go_wp2_with fail
          refine HC.out.mono ?_
          rintro e w9 ⟨rfl, hw⟩
          have hw2 := hw.symm
          clear hw
          subst hw2
          clear HC
          have HC := Lib.hid (fits_any B1 A4 ss b1 a4 (neumL 1) _ HF.out.2.2.2.1 (by decide))
          rw [F2.out] at HC
          go_wp2_with fail
          refine HC.out.mono ?_
          rintro e w9 ⟨rfl, hw⟩
          have hw2 := hw.symm
          clear hw
          subst hw2
          clear HC
          go_wp2
          refine bodyPost_ret (v := .tuple #[.agg #[.slice none 0 0, .int .i64 0, .slice none 0 0, .slice none 0 0], .int .i64 5]) (by simp [results, Tryd.results11, go_sem, r0, r1, r2, r3]) rfl ?_
          rw [HN.out]
          exact ⟨none, 0, none, 0, none, 0, rfl, TotR.zero _, below_set4 HF.out.1 (Nat.le_refl _) _ _ _ _⟩
        · have HN : Hid (rparseL l = (⟨neumL 1, n, bs, ss⟩, 0)) := Lib.hid (by rw [HR.out, HT.out]; unfold fin9; rw [if_pos ⟨by omega, by omega, F1.out, f2⟩])
          have F2 := Lib.hid f2
          clear f2
          go_enter Tryd.func11, Tryd.ntmps11
          go_wp2_with fail
          refine C1.out.mono ?_
          rintro e w1 ⟨A1, a1, B1, b1, rfl, hi1, hi2, hn1, hn2, hb⟩
          go_wp2_with fail
          refine (C2.out _).mono ?_
          rintro e w2 ⟨rfl, hw⟩
          have hw2 := hw.symm
          clear hw
          subst hw2
          have HM := Lib.hid (rmoore_one w1)
          go_wp2_with fail
          refine HM.out.mono ?_
          rintro e w2 ⟨A3, a3, rfl, hp, hn3, hb3⟩
          have hb0 := HB.out.1.trans (hb.mono HB.out.1.size)
          have hbb := hb0.trans (hb3.mono hb0.size)
          have br := (HB.out.2.below hb HB.out.2.lt).below hb3 (HB.out.2.below hb HB.out.2.lt).lt
          have hj1 := hi1.ext hb3
          have hj2 := hi2.ext hb3
          have hm1 : NewA (w.heap.size + 1) A1 := by simpa using hn1
          have hm2 : NewA (w.heap.size + 1) B1 := by simpa using hn2
          have hm3 : NewA (w.heap.size + 1) A3 := hn3.mono (by have := hb.size; simp at this; exact this)
          clear HM hi1 hi2 hn1 hn2 hn3 hb hb3 hb0
          have HM := Lib.hid (rneum_one w2)
          go_wp2_with fail
          refine HM.out.mono ?_
          rintro e w3 ⟨A4, a4, rfl, hp4, hn4, hb4⟩
          have hbb2 := hbb.trans (hb4.mono hbb.size)
          have br2 := br.below hb4 br.lt
          have hj12 := hj1.ext hb4
          have hj22 := hj2.ext hb4
          have hm4 : NewA (w.heap.size + 1) A4 := hn4.mono (by have := br.lt; omega)
          clear HM br hj1 hj2 hn4 hb4 hbb hp hm3
          have br := br2
          have hj1 := hj12
          have hj2 := hj22
          have hbb := hbb2
          have hp := hp4
          have hm3 := hm4
          clear br2 hj12 hj22 hbb2 hp4 hm4
          have r0 := br.cell_ 0 _ rfl
          have r1 := br.cell_ 1 _ rfl
          have r2 := br.cell_ 2 _ rfl
          have r3 := br.cell_ 3 _ rfl
          have g0 := br.frozen 0
          have g1 := br.frozen 1
          have g2 := br.frozen 2
          have g3 := br.frozen 3
          have HF := Lib.hid (And.intro hbb (And.intro hp (And.intro hj1 (And.intro hj2 (And.intro hm1 (And.intro hm2 hm3))))))
          clear br hbb hp hj1 hj2 hm1 hm2 hm3
          have HC := Lib.hid (fits_any A1 A4 bs a1 a4 (neumL 1) _ HF.out.2.2.1 (by decide))
          rw [F1.out] at HC
          go_wp2_with fail
          refine HC.out.mono ?_
          rintro e w9 ⟨rfl, hw⟩
          have hw2 := hw.symm
          clear hw
          subst hw2
          clear HC
          have HC := Lib.hid (fits_any B1 A4 ss b1 a4 (neumL 1) _ HF.out.2.2.2.1 (by decide))
          rw [F2.out] at HC
          go_wp2_with fail
          refine HC.out.mono ?_
          rintro e w9 ⟨rfl, hw⟩
          have hw2 := hw.symm
          clear hw
          subst hw2
          clear HC
          go_wp2
          refine bodyPost_ret (v := .tuple #[.agg #[.slice A4 (neumL 1).length a4, .int .i64 n, .slice A1 bs.length a1, .slice B1 ss.length b1], .int .i64 0]) (by simp [results, Tryd.results11, go_sem, r0, r1, r2, r3]) rfl ?_
          rw [HN.out]
          exact ⟨A4, a4, A1, a1, B1, b1, rfl, (TotR.mk HF.out.2.1 HF.out.2.2.1 HF.out.2.2.2.1 : TotR _ A4 A1 B1 ⟨neumL 1, n, bs, ss⟩).set4 HF.out.2.2.2.2.2.2 HF.out.2.2.2.2.1 HF.out.2.2.2.2.2.1 _ _ _ _, below_set4 HF.out.1 (Nat.le_refl _) _ _ _ _⟩
      have y1 : ((s.extract k.toNat s.size).toList == [86]) = false := by rw [ey]; simpa using EY
      have EY1 := Lib.hid EY
      clear EY
      by_cases EY : l.drop k.toNat = [72]
      · have y2 : ((s.extract k.toNat s.size).toList == [72]) = true := by rw [ey, EY]; rfl
        clear ey
        have HT : Hid (tail9 bs ss n (l.drop k.toNat) = fin9 bs ss n (hexL)) := Lib.hid (by unfold tail9; rw [if_neg (by rw [EY]; simp), if_neg (by rw [EY]; decide), if_pos EY])
        clear EY
        by_cases n1 : n < 3
        · have dn : decide (n < 3) = true := decide_eq_true n1
          have HN : Hid (rparseL l = (zeroT, 5)) := Lib.hid (by rw [HR.out, HT.out]; unfold fin9; rw [if_neg (by omega)])
          go_enter Tryd.func11, Tryd.ntmps11
          go_wp2_with fail
          refine C1.out.mono ?_
          rintro e w1 ⟨A1, a1, B1, b1, rfl, hi1, hi2, hn1, hn2, hb⟩
          go_wp2_with fail
          refine (C2.out _).mono ?_
          rintro e w2 ⟨rfl, hw⟩
          have hw2 := hw.symm
          clear hw
          subst hw2
          have HM := Lib.hid (rmoore_one w1)
          go_wp2_with fail
          refine HM.out.mono ?_
          rintro e w2 ⟨A3, a3, rfl, hp, hn3, hb3⟩
          have hb0 := HB.out.1.trans (hb.mono HB.out.1.size)
          have hbb := hb0.trans (hb3.mono hb0.size)
          have br := (HB.out.2.below hb HB.out.2.lt).below hb3 (HB.out.2.below hb HB.out.2.lt).lt
          have hj1 := hi1.ext hb3
          have hj2 := hi2.ext hb3
          have hm1 : NewA (w.heap.size + 1) A1 := by simpa using hn1
          have hm2 : NewA (w.heap.size + 1) B1 := by simpa using hn2
          have hm3 : NewA (w.heap.size + 1) A3 := hn3.mono (by have := hb.size; simp at this; exact this)
          clear HM hi1 hi2 hn1 hn2 hn3 hb hb3 hb0
          have HM := Lib.hid (rhex_any w2)
          go_wp2_with fail
          refine HM.out.mono ?_
          rintro e w3 ⟨A4, a4, rfl, hp4, hn4, hb4⟩
          have hbb2 := hbb.trans (hb4.mono hbb.size)
          have br2 := br.below hb4 br.lt
          have hj12 := hj1.ext hb4
          have hj22 := hj2.ext hb4
          have hm4 : NewA (w.heap.size + 1) A4 := hn4.mono (by have := br.lt; omega)
          clear HM br hj1 hj2 hn4 hb4 hbb hp hm3
          have br := br2
          have hj1 := hj12
          have hj2 := hj22
          have hbb := hbb2
          have hp := hp4
          have hm3 := hm4
          clear br2 hj12 hj22 hbb2 hp4 hm4
          have r0 := br.cell_ 0 _ rfl
          have r1 := br.cell_ 1 _ rfl
          have r2 := br.cell_ 2 _ rfl
          have r3 := br.cell_ 3 _ rfl
          have g0 := br.frozen 0
          have g1 := br.frozen 1
          have g2 := br.frozen 2
          have g3 := br.frozen 3
          have HF := Lib.hid (And.intro hbb (And.intro hp (And.intro hj1 (And.intro hj2 (And.intro hm1 (And.intro hm2 hm3))))))
          clear br hbb hp hj1 hj2 hm1 hm2 hm3
          go_wp2
          refine bodyPost_ret (v := .tuple #[.agg #[.slice none 0 0, .int .i64 0, .slice none 0 0, .slice none 0 0], .int .i64 5]) (by simp [results, Tryd.results11, go_sem, r0, r1, r2, r3]) rfl ?_
          rw [HN.out]
          exact ⟨none, 0, none, 0, none, 0, rfl, TotR.zero _, below_set4 HF.out.1 (Nat.le_refl _) _ _ _ _⟩
        have dn : decide (n < 3) = false := decide_eq_false n1
        by_cases n2 : 8 < n
        · have dn2 : decide (8 < n) = true := decide_eq_true n2
          have HN : Hid (rparseL l = (zeroT, 5)) := Lib.hid (by rw [HR.out, HT.out]; unfold fin9; rw [if_neg (by omega)])
          go_enter Tryd.func11, Tryd.ntmps11
          go_wp2_with fail
          refine C1.out.mono ?_
          rintro e w1 ⟨A1, a1, B1, b1, rfl, hi1, hi2, hn1, hn2, hb⟩
          go_wp2_with fail
          refine (C2.out _).mono ?_
          rintro e w2 ⟨rfl, hw⟩
          have hw2 := hw.symm
          clear hw
          subst hw2
          have HM := Lib.hid (rmoore_one w1)
          go_wp2_with fail
          refine HM.out.mono ?_
          rintro e w2 ⟨A3, a3, rfl, hp, hn3, hb3⟩
          have hb0 := HB.out.1.trans (hb.mono HB.out.1.size)
          have hbb := hb0.trans (hb3.mono hb0.size)
          have br := (HB.out.2.below hb HB.out.2.lt).below hb3 (HB.out.2.below hb HB.out.2.lt).lt
          have hj1 := hi1.ext hb3
          have hj2 := hi2.ext hb3
          have hm1 : NewA (w.heap.size + 1) A1 := by simpa using hn1
          have hm2 : NewA (w.heap.size + 1) B1 := by simpa using hn2
          have hm3 : NewA (w.heap.size + 1) A3 := hn3.mono (by have := hb.size; simp at this; exact this)
          clear HM hi1 hi2 hn1 hn2 hn3 hb hb3 hb0
          have HM := Lib.hid (rhex_any w2)
          go_wp2_with fail
          refine HM.out.mono ?_
          rintro e w3 ⟨A4, a4, rfl, hp4, hn4, hb4⟩
          have hbb2 := hbb.trans (hb4.mono hbb.size)
          have br2 := br.below hb4 br.lt
          have hj12 := hj1.ext hb4
          have hj22 := hj2.ext hb4
          have hm4 : NewA (w.heap.size + 1) A4 := hn4.mono (by have := br.lt; omega)
          clear HM br hj1 hj2 hn4 hb4 hbb hp hm3
          have br := br2
          have hj1 := hj12
          have hj2 := hj22
          have hbb := hbb2
          have hp := hp4
          have hm3 := hm4
          clear br2 hj12 hj22 hbb2 hp4 hm4
          have r0 := br.cell_ 0 _ rfl
          have r1 := br.cell_ 1 _ rfl
          have r2 := br.cell_ 2 _ rfl
          have r3 := br.cell_ 3 _ rfl
          have g0 := br.frozen 0
          have g1 := br.frozen 1
          have g2 := br.frozen 2
          have g3 := br.frozen 3
          have HF := Lib.hid (And.intro hbb (And.intro hp (And.intro hj1 (And.intro hj2 (And.intro hm1 (And.intro hm2 hm3))))))
          clear br hbb hp hj1 hj2 hm1 hm2 hm3
          go_wp2
          refine bodyPost_ret (v := .tuple #[.agg #[.slice none 0 0, .int .i64 0, .slice none 0 0, .slice none 0 0], .int .i64 5]) (by simp [results, Tryd.results11, go_sem, r0, r1, r2, r3]) rfl ?_
          rw [HN.out]
          exact ⟨none, 0, none, 0, none, 0, rfl, TotR.zero _, below_set4 HF.out.1 (Nat.le_refl _) _ _ _ _⟩
        have dn2 : decide (8 < n) = false := decide_eq_false n2
        cases f1 : fitsL bs (hexL).length
        · have HN : Hid (rparseL l = (zeroT, 5)) := Lib.hid (by rw [HR.out, HT.out]; unfold fin9; rw [if_neg (by rw [f1]; simp)])
          have F1 := Lib.hid f1
          clear f1
          go_enter Tryd.func11, Tryd.ntmps11
          go_wp2_with fail
          refine C1.out.mono ?_
          rintro e w1 ⟨A1, a1, B1, b1, rfl, hi1, hi2, hn1, hn2, hb⟩
          go_wp2_with fail
          refine (C2.out _).mono ?_
          rintro e w2 ⟨rfl, hw⟩
          have hw2 := hw.symm
          clear hw
          subst hw2
          have HM := Lib.hid (rmoore_one w1)
          go_wp2_with fail
          refine HM.out.mono ?_
          rintro e w2 ⟨A3, a3, rfl, hp, hn3, hb3⟩
          have hb0 := HB.out.1.trans (hb.mono HB.out.1.size)
          have hbb := hb0.trans (hb3.mono hb0.size)
          have br := (HB.out.2.below hb HB.out.2.lt).below hb3 (HB.out.2.below hb HB.out.2.lt).lt
          have hj1 := hi1.ext hb3
          have hj2 := hi2.ext hb3
          have hm1 : NewA (w.heap.size + 1) A1 := by simpa using hn1
          have hm2 : NewA (w.heap.size + 1) B1 := by simpa using hn2
          have hm3 : NewA (w.heap.size + 1) A3 := hn3.mono (by have := hb.size; simp at this; exact this)
          clear HM hi1 hi2 hn1 hn2 hn3 hb hb3 hb0
          have HM := Lib.hid (rhex_any w2)
          go_wp2_with fail
          refine HM.out.mono ?_
          rintro e w3 ⟨A4, a4, rfl, hp4, hn4, hb4⟩
          have hbb2 := hbb.trans (hb4.mono hbb.size)
          have br2 := br.below hb4 br.lt
          have hj12 := hj1.ext hb4
          have hj22 := hj2.ext hb4
          have hm4 : NewA (w.heap.size + 1) A4 := hn4.mono (by have := br.lt; omega)
          clear HM br hj1 hj2 hn4 hb4 hbb hp hm3
          have br := br2
          have hj1 := hj12
          have hj2 := hj22
          have hbb := hbb2
          have hp := hp4
          have hm3 := hm4
          clear br2 hj12 hj22 hbb2 hp4 hm4
          have r0 := br.cell_ 0 _ rfl
          have r1 := br.cell_ 1 _ rfl
          have r2 := br.cell_ 2 _ rfl
          have r3 := br.cell_ 3 _ rfl
          have g0 := br.frozen 0
          have g1 := br.frozen 1
          have g2 := br.frozen 2
          have g3 := br.frozen 3
          have HF := Lib.hid (And.intro hbb (And.intro hp (And.intro hj1 (And.intro hj2 (And.intro hm1 (And.intro hm2 hm3))))))
          clear br hbb hp hj1 hj2 hm1 hm2 hm3
          have HC := Lib.hid (fits_any A1 A4 bs a1 a4 (hexL) _ HF.out.2.2.1 (by decide))
          rw [F1.out] at HC
          go_wp2_with fail
          refine HC.out.mono ?_
          rintro e w9 ⟨rfl, hw⟩
          have hw2 := hw.symm
          clear hw
          subst hw2
          clear HC
          go_wp2
          refine bodyPost_ret (v := .tuple #[.agg #[.slice none 0 0, .int .i64 0, .slice none 0 0, .slice none 0 0], .int .i64 5]) (by simp [results, Tryd.results11, go_sem, r0, r1, r2, r3]) rfl ?_
          rw [HN.out]
          exact ⟨none, 0, none, 0, none, 0, rfl, TotR.zero _, below_set4 HF.out.1 (Nat.le_refl _) _ _ _ _⟩
        have F1 := Lib.hid f1
        clear f1
        cases f2 : fitsL ss (hexL).length
        · have HN : Hid (rparseL l = (zeroT, 5)) := Lib.hid (by rw [HR.out, HT.out]; unfold fin9; rw [if_neg (by rw [f2]; simp)])
          have F2 := Lib.hid f2
          clear f2
          go_enter Tryd.func11, Tryd.ntmps11
          go_wp2_with fail
          refine C1.out.mono ?_
          rintro e w1 ⟨A1, a1, B1, b1, rfl, hi1, hi2, hn1, hn2, hb⟩
          go_wp2_with fail
          refine (C2.out _).mono ?_
          rintro e w2 ⟨rfl, hw⟩
          have hw2 := hw.symm
          clear hw
          subst hw2
          have HM := Lib.hid (rmoore_one w1)
          go_wp2_with fail
          refine HM.out.mono ?_
          rintro e w2 ⟨A3, a3, rfl, hp, hn3, hb3⟩
          have hb0 := HB.out.1.trans (hb.mono HB.out.1.size)
          have hbb := hb0.trans (hb3.mono hb0.size)
          have br := (HB.out.2.below hb HB.out.2.lt).below hb3 (HB.out.2.below hb HB.out.2.lt).lt
          have hj1 := hi1.ext hb3
          have hj2 := hi2.ext hb3
          have hm1 : NewA (w.heap.size + 1) A1 := by simpa using hn1
          have hm2 : NewA (w.heap.size + 1) B1 := by simpa using hn2
          have hm3 : NewA (w.heap.size + 1) A3 := hn3.mono (by have := hb.size; simp at this; exact this)
          clear HM hi1 hi2 hn1 hn2 hn3 hb hb3 hb0
          have HM := Lib.hid (rhex_any w2)
          go_wp2_with fail
          refine HM.out.mono ?_
          rintro e w3 ⟨A4, a4, rfl, hp4, hn4, hb4⟩
          have hbb2 := hbb.trans (hb4.mono hbb.size)
          have br2 := br.below hb4 br.lt
          have hj12 := hj1.ext hb4
          have hj22 := hj2.ext hb4
          have hm4 : NewA (w.heap.size + 1) A4 := hn4.mono (by have := br.lt; omega)
          clear HM br hj1 hj2 hn4 hb4 hbb hp hm3
          have br := br2
          have hj1 := hj12
          have hj2 := hj22
          have hbb := hbb2
          have hp := hp4
          have hm3 := hm4
          clear br2 hj12 hj22 hbb2 hp4 hm4
          have r0 := br.cell_ 0 _ rfl
          have r1 := br.cell_ 1 _ rfl
          have r2 := br.cell_ 2 _ rfl
          have r3 := br.cell_ 3 _ rfl
          have g0 := br.frozen 0
          have g1 := br.frozen 1
          have g2 := br.frozen 2
          have g3 := br.frozen 3
          have HF := Lib.hid (And.intro hbb (And.intro hp (And.intro hj1 (And.intro hj2 (And.intro hm1 (And.intro hm2 hm3))))))
          clear br hbb hp hj1 hj2 hm1 hm2 hm3
          have HC := Lib.hid (fits_any A1 A4 bs a1 a4 (hexL) _ HF.out.2.2.1 (by decide))
          rw [F1.out] at HC
          go_wp2_with fail
          refine HC.out.mono ?_
          rintro e w9 ⟨rfl, hw⟩
          have hw2 := hw.symm
          clear hw
          subst hw2
          clear HC
          have HC := Lib.hid (fits_any B1 A4 ss b1 a4 (hexL) _ HF.out.2.2.2.1 (by decide))
          rw [F2.out] at HC
          go_wp2_with fail
          refine HC.out.mono ?_
          rintro e w9 ⟨rfl, hw⟩
          have hw2 := hw.symm
          clear hw
          subst hw2
          clear HC
          go_wp2
          refine bodyPost_ret (v := .tuple #[.agg #[.slice none 0 0, .int .i64 0, .slice none 0 0, .slice none 0 0], .int .i64 5]) (by simp [results, Tryd.results11, go_sem, r0, r1, r2, r3]) rfl ?_
          rw [HN.out]
          exact ⟨none, 0, none, 0, none, 0, rfl, TotR.zero _, below_set4 HF.out.1 (Nat.le_refl _) _ _ _ _⟩
        · have HN : Hid (rparseL l = (⟨hexL, n, bs, ss⟩, 0)) := Lib.hid (by rw [HR.out, HT.out]; unfold fin9; rw [if_pos ⟨by omega, by omega, F1.out, f2⟩])
          have F2 := Lib.hid f2
          clear f2
          go_enter Tryd.func11, Tryd.ntmps11
          go_wp2_with fail
          refine C1.out.mono ?_
          rintro e w1 ⟨A1, a1, B1, b1, rfl, hi1, hi2, hn1, hn2, hb⟩
          go_wp2_with fail
          refine (C2.out _).mono ?_
          rintro e w2 ⟨rfl, hw⟩
          have hw2 := hw.symm
          clear hw
          subst hw2
          have HM := Lib.hid (rmoore_one w1)
          go_wp2_with fail
          refine HM.out.mono ?_
          rintro e w2 ⟨A3, a3, rfl, hp, hn3, hb3⟩
          have hb0 := HB.out.1.trans (hb.mono HB.out.1.size)
          have hbb := hb0.trans (hb3.mono hb0.size)
          have br := (HB.out.2.below hb HB.out.2.lt).below hb3 (HB.out.2.below hb HB.out.2.lt).lt
          have hj1 := hi1.ext hb3
          have hj2 := hi2.ext hb3
          have hm1 : NewA (w.heap.size + 1) A1 := by simpa using hn1
          have hm2 : NewA (w.heap.size + 1) B1 := by simpa using hn2
          have hm3 : NewA (w.heap.size + 1) A3 := hn3.mono (by have := hb.size; simp at this; exact this)
          clear HM hi1 hi2 hn1 hn2 hn3 hb hb3 hb0
          have HM := Lib.hid (rhex_any w2)
          go_wp2_with fail
          refine HM.out.mono ?_
          rintro e w3 ⟨A4, a4, rfl, hp4, hn4, hb4⟩
          have hbb2 := hbb.trans (hb4.mono hbb.size)
          have br2 := br.below hb4 br.lt
          have hj12 := hj1.ext hb4
          have hj22 := hj2.ext hb4
          have hm4 : NewA (w.heap.size + 1) A4 := hn4.mono (by have := br.lt; omega)
          clear HM br hj1 hj2 hn4 hb4 hbb hp hm3
          have br := br2
          have hj1 := hj12
          have hj2 := hj22
          have hbb := hbb2
          have hp := hp4
          have hm3 := hm4
          clear br2 hj12 hj22 hbb2 hp4 hm4
          have r0 := br.cell_ 0 _ rfl
          have r1 := br.cell_ 1 _ rfl
          have r2 := br.cell_ 2 _ rfl
          have r3 := br.cell_ 3 _ rfl
          have g0 := br.frozen 0
          have g1 := br.frozen 1
          have g2 := br.frozen 2
          have g3 := br.frozen 3
          have HF := Lib.hid (And.intro hbb (And.intro hp (And.intro hj1 (And.intro hj2 (And.intro hm1 (And.intro hm2 hm3))))))
          clear br hbb hp hj1 hj2 hm1 hm2 hm3
          have HC := Lib.hid (fits_any A1 A4 bs a1 a4 (hexL) _ HF.out.2.2.1 (by decide))
          rw [F1.out] at HC
          go_wp2_with fail
          refine HC.out.mono ?_
          rintro e w9 ⟨rfl, hw⟩
          have hw2 := hw.symm
          clear hw
          subst hw2
          clear HC
          have HC := Lib.hid (fits_any B1 A4 ss b1 a4 (hexL) _ HF.out.2.2.2.1 (by decide))
          rw [F2.out] at HC
          go_wp2_with fail
          refine HC.out.mono ?_
          rintro e w9 ⟨rfl, hw⟩
          have hw2 := hw.symm
          clear hw
          subst hw2
          clear HC
          go_wp2
          refine bodyPost_ret (v := .tuple #[.agg #[.slice A4 (hexL).length a4, .int .i64 n, .slice A1 bs.length a1, .slice B1 ss.length b1], .int .i64 0]) (by simp [results, Tryd.results11, go_sem, r0, r1, r2, r3]) rfl ?_
          rw [HN.out]
          exact ⟨A4, a4, A1, a1, B1, b1, rfl, (TotR.mk HF.out.2.1 HF.out.2.2.1 HF.out.2.2.2.1 : TotR _ A4 A1 B1 ⟨hexL, n, bs, ss⟩).set4 HF.out.2.2.2.2.2.2 HF.out.2.2.2.2.1 HF.out.2.2.2.2.2.1 _ _ _ _, below_set4 HF.out.1 (Nat.le_refl _) _ _ _ _⟩
      have y2 : ((s.extract k.toNat s.size).toList == [72]) = false := by rw [ey]; simpa using EY
      have EY2 := Lib.hid EY
      clear EY ey
      have HN : Hid (rparseL l = (zeroT, 15)) := Lib.hid (by rw [HR.out]; unfold tail9; rw [if_neg EY0.out, if_neg EY1.out, if_neg EY2.out])
      go_enter Tryd.func11, Tryd.ntmps11
      go_wp2_with fail
      refine C1.out.mono ?_
      rintro e w1 ⟨A1, a1, B1, b1, rfl, hi1, hi2, hn1, hn2, hb⟩
      go_wp2_with fail
      refine (C2.out _).mono ?_
      rintro e w2 ⟨rfl, hw⟩
      have hw2 := hw.symm
      clear hw
      subst hw2
      have HM := Lib.hid (rmoore_one w1)
      go_wp2_with fail
      refine HM.out.mono ?_
      rintro e w2 ⟨A3, a3, rfl, hp, hn3, hb3⟩
      have hb0 := HB.out.1.trans (hb.mono HB.out.1.size)
      have hbb := hb0.trans (hb3.mono hb0.size)
      have br := (HB.out.2.below hb HB.out.2.lt).below hb3 (HB.out.2.below hb HB.out.2.lt).lt
      have hj1 := hi1.ext hb3
      have hj2 := hi2.ext hb3
      have hm1 : NewA (w.heap.size + 1) A1 := by simpa using hn1
      have hm2 : NewA (w.heap.size + 1) B1 := by simpa using hn2
      have hm3 : NewA (w.heap.size + 1) A3 := hn3.mono (by have := hb.size; simp at this; exact this)
      clear HM hi1 hi2 hn1 hn2 hn3 hb hb3 hb0
      have r0 := br.cell_ 0 _ rfl
      have r1 := br.cell_ 1 _ rfl
      have r2 := br.cell_ 2 _ rfl
      have r3 := br.cell_ 3 _ rfl
      have g0 := br.frozen 0
      have g1 := br.frozen 1
      have g2 := br.frozen 2
      have g3 := br.frozen 3
      have HF := Lib.hid (And.intro hbb (And.intro hp (And.intro hj1 (And.intro hj2 (And.intro hm1 (And.intro hm2 hm3))))))
      clear br hbb hp hj1 hj2 hm1 hm2 hm3
      go_wp2
      refine bodyPost_ret (v := .tuple #[.agg #[.slice none 0 0, .int .i64 0, .slice none 0 0, .slice none 0 0], .int .i64 15]) (by simp [results, Tryd.results11, go_sem, r0, r1, r2, r3]) rfl ?_
      rw [HN.out]
      exact ⟨none, 0, none, 0, none, 0, rfl, TotR.zero _, below_set4 HF.out.1 (Nat.le_refl _) _ _ _ _⟩
end Go.Proofs.YtaofninfjdepfaaDoor
