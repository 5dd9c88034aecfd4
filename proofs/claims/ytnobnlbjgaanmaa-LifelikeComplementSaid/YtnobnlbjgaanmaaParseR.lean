/-
  cellularref08.Parse: it reads a rule in B/S notation. At most 2^31 bytes.
-/
import Derived.Test.YtnobnlbjgaanmaaDigR
namespace Go.Proofs.Ytnobnlbjgaanmaa
open Go.RowKit
set_option linter.unusedVariables false
set_option linter.unusedSimpArgs false

def hoodR (l : List UInt8) (q : Nat) : List (Int × Int) := if q < l.length then (if l.getD q 0 = 72 then hexL else if l.getD q 0 = 86 then neumL 1 else mooreL 1) else mooreL 1
def badR (l : List UInt8) (q : Nat) : Bool := decide (q < l.length) && (decide (q + 1 ≠ l.length) || (decide (l.getD q 0 ≠ 86) && decide (l.getD q 0 ≠ 72)))
def fitR (b s : List Int) (h : List (Int × Int)) : TotL × Int :=
  if asc (-1) ((h.length : Int) - 1) b && asc (-1) ((h.length : Int) - 1) s then (⟨h, 2, b, s⟩, 0) else (zeroT, 5)
def endR (l : List UInt8) (b s : List Int) (q : Nat) : TotL × Int := if badR l q then (zeroT, 15) else fitR b s (hoodR l q)
def midR (l : List UInt8) (b : List Int) (p : Nat) : TotL × Int :=
  if decide (l.length ≤ p + 1) || decide (l.getD p 0 ≠ 47) || decide (l.getD (p + 1) 0 ≠ 83) then (zeroT, 15)
  else endR l b (digAsc (-1) (l.drop (p + 2))) (p + 2 + (digAsc (-1) (l.drop (p + 2))).length)
def rparseL (l : List UInt8) : TotL × Int :=
  if decide (l.length = 0) || decide (l.getD 0 0 ≠ 66) then (zeroT, 15)
  else midR l (digAsc (-1) (l.drop 1)) (1 + (digAsc (-1) (l.drop 1)).length)
theorem u8_is {a b : UInt8} {n : Int} (h : (b.toNat : Int) = n) : a = b ↔ (a.toNat : Int) = n := by
  rw [← h, Int.ofNat_inj]
  exact ⟨fun h => by rw [h], fun h => UInt8.toNat_inj.1 h⟩
theorem digAsc_le (l : List UInt8) : ∀ last, (digAsc last l).length ≤ l.length := by
  induction l with
  | nil => intro last; simp [digAsc]
  | cons c l ih =>
    intro last
    unfold digAsc
    split
    · simp only [List.length_cons]; have := ih (digOf c); omega
    · simp

set_option maxHeartbeats 4000000 in
theorem rparse_any (s : ByteArray) (w : World) (hs : s.size ≤ 2147483648) :
    Calls Try.prog 14 #[.string s] w (RetTot (rparseL s.data.toList) w) := by
  have hO := (Below.refl w.heap.size w).alloc (Nat.le_refl _) (.cells #[.slice none 0 0, .int .i64 0, .slice none 0 0, .slice none 0 0] 25)
  have br0 : Blk (w.alloc (.cells #[.slice none 0 0, .int .i64 0, .slice none 0 0, .slice none 0 0] 25)) w.heap.size 25 #[.slice none 0 0, .int .i64 0, .slice none 0 0, .slice none 0 0] := Blk.new w 25 #[.slice none 0 0, .int .i64 0, .slice none 0 0, .slice none 0 0]
  have D1 := digitsR_any s
  obtain ⟨l, hl⟩ : ∃ l, l = s.data.toList := ⟨_, rfl⟩
  have hgb : ∀ j (h : j < s.size), l.getD j 0 = s[j] := by
    intro j h
    subst hl
    rw [List.getD_eq_getElem?_getD, List.getElem?_eq_getElem (by exact h)]
    rfl
  have hlen : l.length = s.size := by rw [hl]; rfl
  rw [← hl] at D1
  rw [← hl]
  clear hl
  have GB := Lib.hid (And.intro hgb hlen)
  have DD := Lib.hid D1
  clear hgb hlen D1
  by_cases hz : s.size = 0
  · have hr : rparseL l = (zeroT, 15) := by
      unfold rparseL
      rw [decide_eq_true (by rw [GB.out.2]; exact hz)]
      rfl
    have HR := Lib.hid hr
    have d0 : ((s.size : Int) == 0) = true := by simp [hz]
    clear hr hz
    have r0 := br0.cell_ 0 _ rfl
    have r1 := br0.cell_ 1 _ rfl
    have r2 := br0.cell_ 2 _ rfl
    have r3 := br0.cell_ 3 _ rfl
    have g0 := br0.frozen 0
    have g1 := br0.frozen 1
    have g2 := br0.frozen 2
    have g3 := br0.frozen 3
    go_enter Try.func14, Try.ntmps14
    go_wp2
    refine bodyPost_ret (v := .tuple #[.agg #[.slice none 0 0, .int .i64 0, .slice none 0 0, .slice none 0 0], .int .i64 15]) (by simp [results, Try.results14, go_sem, r0, r1, r2, r3]) rfl ?_
    rw [HR.out]
    first | exact ⟨none, 0, none, 0, none, 0, rfl, TotR.zero _, below_set4 hO (Nat.le_refl _) _ _ _ _⟩ | exact ⟨none, 0, none, 0, none, 0, rfl, TotR.zero _, hO⟩
  have hnz : 0 < s.size := by omega
  have d0 : ((s.size : Int) == 0) = false := beq_eq_false_iff_ne.2 (by omega)
  have dz : decide (l.length = 0) = false := decide_eq_false (by rw [GB.out.2]; exact hz)
  have DZ := Lib.hid dz
  clear hz dz
  by_cases hB : (s[0].toNat : Int) = 66
  rotate_left
  · have hr : rparseL l = (zeroT, 15) := by
      unfold rparseL
      rw [decide_eq_true (p := l.getD 0 0 ≠ 66) (by rw [GB.out.1 0 hnz]; exact fun h => hB ((u8_is rfl).1 h))]
      simp
    have HR := Lib.hid hr
    have d1 : ((s[0].toNat : Int) != 66) = true := by simpa using hB
    clear hr hB
    have r0 := br0.cell_ 0 _ rfl
    have r1 := br0.cell_ 1 _ rfl
    have r2 := br0.cell_ 2 _ rfl
    have r3 := br0.cell_ 3 _ rfl
    have g0 := br0.frozen 0
    have g1 := br0.frozen 1
    have g2 := br0.frozen 2
    have g3 := br0.frozen 3
    go_enter Try.func14, Try.ntmps14
    go_wp2
    refine bodyPost_ret (v := .tuple #[.agg #[.slice none 0 0, .int .i64 0, .slice none 0 0, .slice none 0 0], .int .i64 15]) (by simp [results, Try.results14, go_sem, r0, r1, r2, r3]) rfl ?_
    rw [HR.out]
    first | exact ⟨none, 0, none, 0, none, 0, rfl, TotR.zero _, below_set4 hO (Nat.le_refl _) _ _ _ _⟩ | exact ⟨none, 0, none, 0, none, 0, rfl, TotR.zero _, hO⟩
  have hB' : decide (l.getD 0 0 ≠ 66) = false := decide_eq_false (by rw [GB.out.1 0 hnz]; exact fun h => h ((u8_is rfl).2 hB))
  have d1 : ((s[0].toNat : Int) != 66) = false := by simpa using hB
  obtain ⟨bs, hbs⟩ : ∃ bs, bs = digAsc (-1) (l.drop 1) := ⟨_, rfl⟩
  obtain ⟨p, hp⟩ : ∃ p, p = 1 + bs.length := ⟨_, rfl⟩
  have hr : rparseL l = midR l bs p := by
    unfold rparseL
    rw [DZ.out, hB', ← hbs, ← hp]
    rfl
  have c1 : ∀ w, Calls Try.prog 35 #[.string s, .int .i64 1] w (RetIntsN bs (p : Int) w) := by
    intro w
    have h := DD.out 1 w hnz hs
    rw [← hbs] at h
    rw [show ((1 : Nat) : Int) + (bs.length : Int) = (p : Int) from by omega] at h
    exact h
  have hple : p ≤ s.size := by
    have := digAsc_le (l.drop 1) (-1)
    rw [← hbs, List.length_drop, GB.out.2] at this
    omega
  have C1 := Lib.hid c1
  have HR0 := Lib.hid hr
  clear hr c1 hp hbs hB hB'
  by_cases e1 : s.size ≤ p + 1
  · have hr : rparseL l = (zeroT, 15) := by
      rw [HR0.out]
      unfold midR
      rw [decide_eq_true (p := l.length ≤ p + 1) (by rw [GB.out.2]; exact e1)]
      rfl
    have HR := Lib.hid hr
    have d2 : decide ((s.size : Int) ≤ (p : Int) + 1) = true := decide_eq_true (by omega)
    clear hr
    have r0 := br0.cell_ 0 _ rfl
    have r1 := br0.cell_ 1 _ rfl
    have r2 := br0.cell_ 2 _ rfl
    have r3 := br0.cell_ 3 _ rfl
    have g0 := br0.frozen 0
    have g1 := br0.frozen 1
    have g2 := br0.frozen 2
    have g3 := br0.frozen 3
    go_enter Try.func14, Try.ntmps14
    go_wp2_with fail
    refine (C1.out _).mono ?_
    rintro e w1 ⟨A1, c1, rfl, hi1, hn1, hb1⟩
    have br1 := br0.below hb1 br0.lt
    have hO1 := hO.trans (hb1.mono hO.size)
    have hnb : NewA (w.heap.size + 1) A1 := hn1.mono (by simp)
    clear r0 r1 r2 r3 g0 g1 g2 g3
    have r0 := br1.cell_ 0 _ rfl
    have r1 := br1.cell_ 1 _ rfl
    have r2 := br1.cell_ 2 _ rfl
    have r3 := br1.cell_ 3 _ rfl
    have g0 := br1.frozen 0
    have g1 := br1.frozen 1
    have g2 := br1.frozen 2
    have g3 := br1.frozen 3
    go_wp2
    refine bodyPost_ret (v := .tuple #[.agg #[.slice none 0 0, .int .i64 0, .slice none 0 0, .slice none 0 0], .int .i64 15]) (by simp [results, Try.results14, go_sem, r0, r1, r2, r3]) rfl ?_
    rw [HR.out]
    first | exact ⟨none, 0, none, 0, none, 0, rfl, TotR.zero _, below_set4 hO1 (Nat.le_refl _) _ _ _ _⟩ | exact ⟨none, 0, none, 0, none, 0, rfl, TotR.zero _, hO1⟩
  have d2 : decide ((s.size : Int) ≤ (p : Int) + 1) = false := decide_eq_false (by omega)
  have hp1 : p + 1 < s.size := by omega
  have hp0 : p < s.size := by omega
  have m1 : decide (l.length ≤ p + 1) = false := decide_eq_false (by rw [GB.out.2]; exact e1)
  have M1 := Lib.hid m1
  clear e1 m1
  by_cases e2 : (s[p].toNat : Int) = 47
  rotate_left
  · have hr : rparseL l = (zeroT, 15) := by
      rw [HR0.out]
      unfold midR
      rw [decide_eq_true (p := l.getD p 0 ≠ 47) (by rw [GB.out.1 p hp0]; exact fun h => e2 ((u8_is rfl).1 h))]
      simp
    have HR := Lib.hid hr
    have d3 : ((s[p].toNat : Int) != 47) = true := by simpa using e2
    clear hr e2
    have r0 := br0.cell_ 0 _ rfl
    have r1 := br0.cell_ 1 _ rfl
    have r2 := br0.cell_ 2 _ rfl
    have r3 := br0.cell_ 3 _ rfl
    have g0 := br0.frozen 0
    have g1 := br0.frozen 1
    have g2 := br0.frozen 2
    have g3 := br0.frozen 3
    go_enter Try.func14, Try.ntmps14
    go_wp2_with fail
    refine (C1.out _).mono ?_
    rintro e w1 ⟨A1, c1, rfl, hi1, hn1, hb1⟩
    have br1 := br0.below hb1 br0.lt
    have hO1 := hO.trans (hb1.mono hO.size)
    have hnb : NewA (w.heap.size + 1) A1 := hn1.mono (by simp)
    clear r0 r1 r2 r3 g0 g1 g2 g3
    have r0 := br1.cell_ 0 _ rfl
    have r1 := br1.cell_ 1 _ rfl
    have r2 := br1.cell_ 2 _ rfl
    have r3 := br1.cell_ 3 _ rfl
    have g0 := br1.frozen 0
    have g1 := br1.frozen 1
    have g2 := br1.frozen 2
    have g3 := br1.frozen 3
    go_wp2
    refine bodyPost_ret (v := .tuple #[.agg #[.slice none 0 0, .int .i64 0, .slice none 0 0, .slice none 0 0], .int .i64 15]) (by simp [results, Try.results14, go_sem, r0, r1, r2, r3]) rfl ?_
    rw [HR.out]
    first | exact ⟨none, 0, none, 0, none, 0, rfl, TotR.zero _, below_set4 hO1 (Nat.le_refl _) _ _ _ _⟩ | exact ⟨none, 0, none, 0, none, 0, rfl, TotR.zero _, hO1⟩
  have d3 : ((s[p].toNat : Int) != 47) = false := by simpa using e2
  have m2 : decide (l.getD p 0 ≠ 47) = false := decide_eq_false (by rw [GB.out.1 p hp0]; exact fun h => h ((u8_is rfl).2 e2))
  have M2 := Lib.hid m2
  clear e2 m2
  by_cases e3 : (s[p + 1].toNat : Int) = 83
  rotate_left
  · have hr : rparseL l = (zeroT, 15) := by
      rw [HR0.out]
      unfold midR
      rw [decide_eq_true (p := l.getD (p + 1) 0 ≠ 83) (by rw [GB.out.1 (p + 1) hp1]; exact fun h => e3 ((u8_is rfl).1 h))]
      simp
    have HR := Lib.hid hr
    have d4 : ((s[p + 1].toNat : Int) != 83) = true := by simpa using e3
    clear hr e3
    have r0 := br0.cell_ 0 _ rfl
    have r1 := br0.cell_ 1 _ rfl
    have r2 := br0.cell_ 2 _ rfl
    have r3 := br0.cell_ 3 _ rfl
    have g0 := br0.frozen 0
    have g1 := br0.frozen 1
    have g2 := br0.frozen 2
    have g3 := br0.frozen 3
    go_enter Try.func14, Try.ntmps14
    go_wp2_with fail
    refine (C1.out _).mono ?_
    rintro e w1 ⟨A1, c1, rfl, hi1, hn1, hb1⟩
    have br1 := br0.below hb1 br0.lt
    have hO1 := hO.trans (hb1.mono hO.size)
    have hnb : NewA (w.heap.size + 1) A1 := hn1.mono (by simp)
    clear r0 r1 r2 r3 g0 g1 g2 g3
    have r0 := br1.cell_ 0 _ rfl
    have r1 := br1.cell_ 1 _ rfl
    have r2 := br1.cell_ 2 _ rfl
    have r3 := br1.cell_ 3 _ rfl
    have g0 := br1.frozen 0
    have g1 := br1.frozen 1
    have g2 := br1.frozen 2
    have g3 := br1.frozen 3
    go_wp2
    refine bodyPost_ret (v := .tuple #[.agg #[.slice none 0 0, .int .i64 0, .slice none 0 0, .slice none 0 0], .int .i64 15]) (by simp [results, Try.results14, go_sem, r0, r1, r2, r3]) rfl ?_
    rw [HR.out]
    first | exact ⟨none, 0, none, 0, none, 0, rfl, TotR.zero _, below_set4 hO1 (Nat.le_refl _) _ _ _ _⟩ | exact ⟨none, 0, none, 0, none, 0, rfl, TotR.zero _, hO1⟩
  have d4 : ((s[p + 1].toNat : Int) != 83) = false := by simpa using e3
  have m3 : decide (l.getD (p + 1) 0 ≠ 83) = false := decide_eq_false (by rw [GB.out.1 (p + 1) hp1]; exact fun h => h ((u8_is rfl).2 e3))
  obtain ⟨ss, hss⟩ : ∃ ss, ss = digAsc (-1) (l.drop (p + 2)) := ⟨_, rfl⟩
  obtain ⟨q, hq⟩ : ∃ q, q = p + 2 + ss.length := ⟨_, rfl⟩
  have hr : rparseL l = endR l bs ss q := by
    rw [HR0.out]
    unfold midR
    rw [M1.out, M2.out, m3, ← hss, ← hq]
    rfl
  have c2 : ∀ w, Calls Try.prog 35 #[.string s, .int .i64 ((p : Int) + 2)] w (RetIntsN ss (q : Int) w) := by
    intro w
    have h := DD.out (p + 2) w (by omega) hs
    rw [← hss] at h
    rw [show ((p + 2 : Nat) : Int) + (ss.length : Int) = (q : Int) from by omega, show ((p + 2 : Nat) : Int) = (p : Int) + 2 from by omega] at h
    exact h
  have hqle : q ≤ s.size := by
    have := digAsc_le (l.drop (p + 2)) (-1)
    rw [← hss, List.length_drop, GB.out.2] at this
    omega
  have C2 := Lib.hid c2
  have HR1 := Lib.hid hr
  clear hr c2 hq hss e3 m3
  by_cases f1 : q < s.size
  rotate_left
  · have hr : rparseL l = fitR bs ss (mooreL 1) := by
      rw [HR1.out]
      unfold endR badR hoodR
      rw [if_neg (c := q < l.length) (by rw [GB.out.2]; exact f1), decide_eq_false (p := q < l.length) (by rw [GB.out.2]; exact f1)]
      rfl
    have HF := Lib.hid hr
    have d5 : decide ((q : Int) < (s.size : Int)) = false := decide_eq_false (by omega)
    have d5' : decide (q < s.size) = false := decide_eq_false f1
    clear hr
    have r0 := br0.cell_ 0 _ rfl
    have r1 := br0.cell_ 1 _ rfl
    have r2 := br0.cell_ 2 _ rfl
    have r3 := br0.cell_ 3 _ rfl
    have g0 := br0.frozen 0
    have g1 := br0.frozen 1
    have g2 := br0.frozen 2
    have g3 := br0.frozen 3
    go_enter Try.func14, Try.ntmps14
    go_wp2_with fail
    refine (C1.out _).mono ?_
    rintro e w1 ⟨A1, c1, rfl, hi1, hn1, hb1⟩
    have br1 := br0.below hb1 br0.lt
    have hO1 := hO.trans (hb1.mono hO.size)
    have hnb : NewA (w.heap.size + 1) A1 := hn1.mono (by simp)
    clear r0 r1 r2 r3 g0 g1 g2 g3
    have r0 := br1.cell_ 0 _ rfl
    have r1 := br1.cell_ 1 _ rfl
    have r2 := br1.cell_ 2 _ rfl
    have r3 := br1.cell_ 3 _ rfl
    have g0 := br1.frozen 0
    have g1 := br1.frozen 1
    have g2 := br1.frozen 2
    have g3 := br1.frozen 3
    go_wp2_with fail
    refine (C2.out _).mono ?_
    rintro e w2 ⟨A2, c2, rfl, hi2, hn2, hb2⟩
    have br2 := br1.below hb2 br1.lt
    have hO2 := hO1.trans (hb2.mono hO1.size)
    have hi1' := hi1.ext hb2
    have hns : NewA (w.heap.size + 1) A2 := hn2.mono (Nat.succ_le_of_lt br1.lt)
    go_wp2_with fail
    refine (rmoore_one _).mono ?_
    rintro e w3 ⟨A3, c3, rfl, hp3, hn3, hb3⟩
    have br3 := br2.below hb3 br2.lt
    have hO3 := hO2.trans (hb3.mono hO2.size)
    have hi1'' := hi1'.ext hb3
    have hi2' := hi2.ext hb3
    have hnp3 : NewA (w.heap.size + 1) A3 := hn3.mono (Nat.succ_le_of_lt br2.lt)
    clear r0 r1 r2 r3 g0 g1 g2 g3
    have r0 := br3.cell_ 0 _ rfl
    have r1 := br3.cell_ 1 _ rfl
    have r2 := br3.cell_ 2 _ rfl
    have r3 := br3.cell_ 3 _ rfl
    have g0 := br3.frozen 0
    have g1 := br3.frozen 1
    have g2 := br3.frozen 2
    have g3 := br3.frozen 3
    have br := br3
    have hO4 := hO3
    have hb1_ := hi1''
    have hs1 := hi2'
    have hp := hp3
    have hnp := hnp3
    have hll : (mooreL 1).length ≤ 9 := by decide
    go_wp2_with fail
    refine (numbers_any A1 bs c1 (((mooreL 1).length : Int) - 1) _ hb1_).mono ?_
    rintro e w6 ⟨rfl, hq6⟩
    have br6 := br.below (hq6.below _) br.lt
    have hO6 := hO4.trans (hq6.below _)
    have hb6 := hb1_.ext (hq6.below _)
    have hs6 := hs1.ext (hq6.below _)
    have hp6 := hp.ext (hq6.below _)
    clear r0 r1 r2 r3 g0 g1 g2 g3
    have r0 := br6.cell_ 0 _ rfl
    have r1 := br6.cell_ 1 _ rfl
    have r2 := br6.cell_ 2 _ rfl
    have r3 := br6.cell_ 3 _ rfl
    have g0 := br6.frozen 0
    have g1 := br6.frozen 1
    have g2 := br6.frozen 2
    have g3 := br6.frozen 3
    cases k8 : asc (-1) (((mooreL 1).length : Int) - 1) bs
    · go_wp2
      refine bodyPost_ret (v := .tuple #[.agg #[.slice none 0 0, .int .i64 0, .slice none 0 0, .slice none 0 0], .int .i64 5]) (by simp [results, Try.results14, go_sem, r0, r1, r2, r3]) rfl ?_
      rw [HF.out, show fitR bs ss (mooreL 1) = (zeroT, 5) from by simp [fitR, k8]]
      exact ⟨none, 0, none, 0, none, 0, rfl, TotR.zero _, below_set4 hO6 (Nat.le_refl _) _ _ _ _⟩
    go_wp2_with fail
    refine (numbers_any A2 ss c2 (((mooreL 1).length : Int) - 1) _ hs6).mono ?_
    rintro e w7 ⟨rfl, hq7⟩
    have br7 := br6.below (hq7.below _) br6.lt
    have hO7 := hO6.trans (hq7.below _)
    have hb7 := hb6.ext (hq7.below _)
    have hs7 := hs6.ext (hq7.below _)
    have hp7 := hp6.ext (hq7.below _)
    clear r0 r1 r2 r3 g0 g1 g2 g3
    have r0 := br7.cell_ 0 _ rfl
    have r1 := br7.cell_ 1 _ rfl
    have r2 := br7.cell_ 2 _ rfl
    have r3 := br7.cell_ 3 _ rfl
    have g0 := br7.frozen 0
    have g1 := br7.frozen 1
    have g2 := br7.frozen 2
    have g3 := br7.frozen 3
    cases k9 : asc (-1) (((mooreL 1).length : Int) - 1) ss
    · go_wp2
      refine bodyPost_ret (v := .tuple #[.agg #[.slice none 0 0, .int .i64 0, .slice none 0 0, .slice none 0 0], .int .i64 5]) (by simp [results, Try.results14, go_sem, r0, r1, r2, r3]) rfl ?_
      rw [HF.out, show fitR bs ss (mooreL 1) = (zeroT, 5) from by simp [fitR, k9]]
      exact ⟨none, 0, none, 0, none, 0, rfl, TotR.zero _, below_set4 hO7 (Nat.le_refl _) _ _ _ _⟩
    go_wp2
    refine bodyPost_ret (v := .tuple #[.agg #[.slice A3 (mooreL 1).length c3, .int .i64 2, .slice A1 bs.length c1, .slice A2 ss.length c2], .int .i64 0]) (by simp [results, Try.results14, go_sem, r0, r1, r2, r3]) rfl ?_
    rw [HF.out, show fitR bs ss (mooreL 1) = (⟨(mooreL 1), 2, bs, ss⟩, 0) from by simp [fitR, k8, k9]]
    exact ⟨A3, c3, A1, c1, A2, c2, rfl, (TotR.mk hp7 hb7 hs7).set4 hnp hnb hns _ _ _ _, below_set4 hO7 (Nat.le_refl _) _ _ _ _⟩
  have d5 : decide ((q : Int) < (s.size : Int)) = true := decide_eq_true (by omega)
  have d5' : decide (q < s.size) = true := decide_eq_true f1
  have hql : q < l.length := by rw [GB.out.2]; exact f1
  have hqg := GB.out.1 q f1
  by_cases v1 : (s[q].toNat : Int) = 86
  · have d6 : ((s[q].toNat : Int) == 86) = true := by simpa using v1
    have d7 : ((s[q].toNat : Int) == 72) = false := by simp; omega
    have d8 : ((s[q].toNat : Int) != 86) = false := by simpa using v1
    have hv : l.getD q 0 = 86 := by rw [hqg]; exact (u8_is rfl).2 v1
    have hho : hoodR l q = neumL 1 := by
      unfold hoodR
      rw [if_pos hql, hv]
      rfl
    by_cases e5 : q + 1 = s.size
    · have hr : rparseL l = fitR bs ss (neumL 1) := by
        rw [HR1.out]
        unfold endR badR
        rw [hho, hv, decide_eq_false (p := q + 1 ≠ l.length) (by rw [GB.out.2]; exact fun h => h e5)]
        simp
      have HF := Lib.hid hr
      have d9 : ((q : Int) + 1 != (s.size : Int)) = false := by simp; omega
      clear hr hho hv e5 v1 hqg hql
      have r0 := br0.cell_ 0 _ rfl
      have r1 := br0.cell_ 1 _ rfl
      have r2 := br0.cell_ 2 _ rfl
      have r3 := br0.cell_ 3 _ rfl
      have g0 := br0.frozen 0
      have g1 := br0.frozen 1
      have g2 := br0.frozen 2
      have g3 := br0.frozen 3
      go_enter Try.func14, Try.ntmps14
      go_wp2_with fail
      refine (C1.out _).mono ?_
      rintro e w1 ⟨A1, c1, rfl, hi1, hn1, hb1⟩
      have br1 := br0.below hb1 br0.lt
      have hO1 := hO.trans (hb1.mono hO.size)
      have hnb : NewA (w.heap.size + 1) A1 := hn1.mono (by simp)
      clear r0 r1 r2 r3 g0 g1 g2 g3
      have r0 := br1.cell_ 0 _ rfl
      have r1 := br1.cell_ 1 _ rfl
      have r2 := br1.cell_ 2 _ rfl
      have r3 := br1.cell_ 3 _ rfl
      have g0 := br1.frozen 0
      have g1 := br1.frozen 1
      have g2 := br1.frozen 2
      have g3 := br1.frozen 3
      go_wp2_with fail
      refine (C2.out _).mono ?_
      rintro e w2 ⟨A2, c2, rfl, hi2, hn2, hb2⟩
      have br2 := br1.below hb2 br1.lt
      have hO2 := hO1.trans (hb2.mono hO1.size)
      have hi1' := hi1.ext hb2
      have hns : NewA (w.heap.size + 1) A2 := hn2.mono (Nat.succ_le_of_lt br1.lt)
      go_wp2_with fail
      refine (rmoore_one _).mono ?_
      rintro e w3 ⟨A3, c3, rfl, hp3, hn3, hb3⟩
      have br3 := br2.below hb3 br2.lt
      have hO3 := hO2.trans (hb3.mono hO2.size)
      have hi1'' := hi1'.ext hb3
      have hi2' := hi2.ext hb3
      have hnp3 : NewA (w.heap.size + 1) A3 := hn3.mono (Nat.succ_le_of_lt br2.lt)
      clear r0 r1 r2 r3 g0 g1 g2 g3
      have r0 := br3.cell_ 0 _ rfl
      have r1 := br3.cell_ 1 _ rfl
      have r2 := br3.cell_ 2 _ rfl
      have r3 := br3.cell_ 3 _ rfl
      have g0 := br3.frozen 0
      have g1 := br3.frozen 1
      have g2 := br3.frozen 2
      have g3 := br3.frozen 3
      go_wp2_with fail
      refine (rneum_one _).mono ?_
      rintro e w4 ⟨A4, c4, rfl, hp4, hn4, hb4⟩
      have br := br3.below hb4 br3.lt
      have hO4 := hO3.trans (hb4.mono hO3.size)
      have hb1_ := hi1''.ext hb4
      have hs1 := hi2'.ext hb4
      have hp := hp4
      have hnp : NewA (w.heap.size + 1) A4 := hn4.mono (Nat.succ_le_of_lt br3.lt)
      clear r0 r1 r2 r3 g0 g1 g2 g3
      have r0 := br.cell_ 0 _ rfl
      have r1 := br.cell_ 1 _ rfl
      have r2 := br.cell_ 2 _ rfl
      have r3 := br.cell_ 3 _ rfl
      have g0 := br.frozen 0
      have g1 := br.frozen 1
      have g2 := br.frozen 2
      have g3 := br.frozen 3
      have hll : (neumL 1).length ≤ 9 := by decide
      go_wp2_with fail
      refine (numbers_any A1 bs c1 (((neumL 1).length : Int) - 1) _ hb1_).mono ?_
      rintro e w6 ⟨rfl, hq6⟩
      have br6 := br.below (hq6.below _) br.lt
      have hO6 := hO4.trans (hq6.below _)
      have hb6 := hb1_.ext (hq6.below _)
      have hs6 := hs1.ext (hq6.below _)
      have hp6 := hp.ext (hq6.below _)
      clear r0 r1 r2 r3 g0 g1 g2 g3
      have r0 := br6.cell_ 0 _ rfl
      have r1 := br6.cell_ 1 _ rfl
      have r2 := br6.cell_ 2 _ rfl
      have r3 := br6.cell_ 3 _ rfl
      have g0 := br6.frozen 0
      have g1 := br6.frozen 1
      have g2 := br6.frozen 2
      have g3 := br6.frozen 3
      cases k8 : asc (-1) (((neumL 1).length : Int) - 1) bs
      · go_wp2
        refine bodyPost_ret (v := .tuple #[.agg #[.slice none 0 0, .int .i64 0, .slice none 0 0, .slice none 0 0], .int .i64 5]) (by simp [results, Try.results14, go_sem, r0, r1, r2, r3]) rfl ?_
        rw [HF.out, show fitR bs ss (neumL 1) = (zeroT, 5) from by simp [fitR, k8]]
        exact ⟨none, 0, none, 0, none, 0, rfl, TotR.zero _, below_set4 hO6 (Nat.le_refl _) _ _ _ _⟩
      go_wp2_with fail
      refine (numbers_any A2 ss c2 (((neumL 1).length : Int) - 1) _ hs6).mono ?_
      rintro e w7 ⟨rfl, hq7⟩
      have br7 := br6.below (hq7.below _) br6.lt
      have hO7 := hO6.trans (hq7.below _)
      have hb7 := hb6.ext (hq7.below _)
      have hs7 := hs6.ext (hq7.below _)
      have hp7 := hp6.ext (hq7.below _)
      clear r0 r1 r2 r3 g0 g1 g2 g3
      have r0 := br7.cell_ 0 _ rfl
      have r1 := br7.cell_ 1 _ rfl
      have r2 := br7.cell_ 2 _ rfl
      have r3 := br7.cell_ 3 _ rfl
      have g0 := br7.frozen 0
      have g1 := br7.frozen 1
      have g2 := br7.frozen 2
      have g3 := br7.frozen 3
      cases k9 : asc (-1) (((neumL 1).length : Int) - 1) ss
      · go_wp2
        refine bodyPost_ret (v := .tuple #[.agg #[.slice none 0 0, .int .i64 0, .slice none 0 0, .slice none 0 0], .int .i64 5]) (by simp [results, Try.results14, go_sem, r0, r1, r2, r3]) rfl ?_
        rw [HF.out, show fitR bs ss (neumL 1) = (zeroT, 5) from by simp [fitR, k9]]
        exact ⟨none, 0, none, 0, none, 0, rfl, TotR.zero _, below_set4 hO7 (Nat.le_refl _) _ _ _ _⟩
      go_wp2
      refine bodyPost_ret (v := .tuple #[.agg #[.slice A4 (neumL 1).length c4, .int .i64 2, .slice A1 bs.length c1, .slice A2 ss.length c2], .int .i64 0]) (by simp [results, Try.results14, go_sem, r0, r1, r2, r3]) rfl ?_
      rw [HF.out, show fitR bs ss (neumL 1) = (⟨(neumL 1), 2, bs, ss⟩, 0) from by simp [fitR, k8, k9]]
      exact ⟨A4, c4, A1, c1, A2, c2, rfl, (TotR.mk hp7 hb7 hs7).set4 hnp hnb hns _ _ _ _, below_set4 hO7 (Nat.le_refl _) _ _ _ _⟩
    · have hr : rparseL l = (zeroT, 15) := by
        rw [HR1.out]
        unfold endR badR
        rw [decide_eq_true hql, decide_eq_true (p := q + 1 ≠ l.length) (by rw [GB.out.2]; exact e5)]
        rfl
      have HR := Lib.hid hr
      have d9 : ((q : Int) + 1 != (s.size : Int)) = true := by simp; omega
      clear hr hho hv e5 v1 hqg hql
      have r0 := br0.cell_ 0 _ rfl
      have r1 := br0.cell_ 1 _ rfl
      have r2 := br0.cell_ 2 _ rfl
      have r3 := br0.cell_ 3 _ rfl
      have g0 := br0.frozen 0
      have g1 := br0.frozen 1
      have g2 := br0.frozen 2
      have g3 := br0.frozen 3
      go_enter Try.func14, Try.ntmps14
      go_wp2_with fail
      refine (C1.out _).mono ?_
      rintro e w1 ⟨A1, c1, rfl, hi1, hn1, hb1⟩
      have br1 := br0.below hb1 br0.lt
      have hO1 := hO.trans (hb1.mono hO.size)
      have hnb : NewA (w.heap.size + 1) A1 := hn1.mono (by simp)
      clear r0 r1 r2 r3 g0 g1 g2 g3
      have r0 := br1.cell_ 0 _ rfl
      have r1 := br1.cell_ 1 _ rfl
      have r2 := br1.cell_ 2 _ rfl
      have r3 := br1.cell_ 3 _ rfl
      have g0 := br1.frozen 0
      have g1 := br1.frozen 1
      have g2 := br1.frozen 2
      have g3 := br1.frozen 3
      go_wp2_with fail
      refine (C2.out _).mono ?_
      rintro e w2 ⟨A2, c2, rfl, hi2, hn2, hb2⟩
      have br2 := br1.below hb2 br1.lt
      have hO2 := hO1.trans (hb2.mono hO1.size)
      have hi1' := hi1.ext hb2
      have hns : NewA (w.heap.size + 1) A2 := hn2.mono (Nat.succ_le_of_lt br1.lt)
      go_wp2_with fail
      refine (rmoore_one _).mono ?_
      rintro e w3 ⟨A3, c3, rfl, hp3, hn3, hb3⟩
      have br3 := br2.below hb3 br2.lt
      have hO3 := hO2.trans (hb3.mono hO2.size)
      have hi1'' := hi1'.ext hb3
      have hi2' := hi2.ext hb3
      have hnp3 : NewA (w.heap.size + 1) A3 := hn3.mono (Nat.succ_le_of_lt br2.lt)
      clear r0 r1 r2 r3 g0 g1 g2 g3
      have r0 := br3.cell_ 0 _ rfl
      have r1 := br3.cell_ 1 _ rfl
      have r2 := br3.cell_ 2 _ rfl
      have r3 := br3.cell_ 3 _ rfl
      have g0 := br3.frozen 0
      have g1 := br3.frozen 1
      have g2 := br3.frozen 2
      have g3 := br3.frozen 3
      go_wp2_with fail
      refine (rneum_one _).mono ?_
      rintro e w4 ⟨A4, c4, rfl, hp4, hn4, hb4⟩
      have br := br3.below hb4 br3.lt
      have hO4 := hO3.trans (hb4.mono hO3.size)
      have hb1_ := hi1''.ext hb4
      have hs1 := hi2'.ext hb4
      have hp := hp4
      have hnp : NewA (w.heap.size + 1) A4 := hn4.mono (Nat.succ_le_of_lt br3.lt)
      clear r0 r1 r2 r3 g0 g1 g2 g3
      have r0 := br.cell_ 0 _ rfl
      have r1 := br.cell_ 1 _ rfl
      have r2 := br.cell_ 2 _ rfl
      have r3 := br.cell_ 3 _ rfl
      have g0 := br.frozen 0
      have g1 := br.frozen 1
      have g2 := br.frozen 2
      have g3 := br.frozen 3
      go_wp2
      refine bodyPost_ret (v := .tuple #[.agg #[.slice none 0 0, .int .i64 0, .slice none 0 0, .slice none 0 0], .int .i64 15]) (by simp [results, Try.results14, go_sem, r0, r1, r2, r3]) rfl ?_
      rw [HR.out]
      first | exact ⟨none, 0, none, 0, none, 0, rfl, TotR.zero _, below_set4 hO4 (Nat.le_refl _) _ _ _ _⟩ | exact ⟨none, 0, none, 0, none, 0, rfl, TotR.zero _, hO4⟩
  · have d6 : ((s[q].toNat : Int) == 86) = false := by simpa using v1
    have d8 : ((s[q].toNat : Int) != 86) = true := by simpa using v1
    have hv : ¬ l.getD q 0 = 86 := by rw [hqg]; exact fun h => v1 ((u8_is rfl).1 h)
    by_cases v2 : (s[q].toNat : Int) = 72
    · have d7 : ((s[q].toNat : Int) == 72) = true := by simpa using v2
      have d7' : ((s[q].toNat : Int) != 72) = false := by simpa using v2
      have hv2 : l.getD q 0 = 72 := by rw [hqg]; exact (u8_is rfl).2 v2
      have hho : hoodR l q = hexL := by
        unfold hoodR
        rw [if_pos hql, if_pos hv2]
      by_cases e5 : q + 1 = s.size
      · have hr : rparseL l = fitR bs ss hexL := by
          rw [HR1.out]
          unfold endR badR
          rw [hho, hv2, decide_eq_false (p := q + 1 ≠ l.length) (by rw [GB.out.2]; exact fun h => h e5)]
          simp
        have HF := Lib.hid hr
        have d9 : ((q : Int) + 1 != (s.size : Int)) = false := by simp; omega
        clear hr hho hv hv2 e5 v1 v2 hqg hql
        have r0 := br0.cell_ 0 _ rfl
        have r1 := br0.cell_ 1 _ rfl
        have r2 := br0.cell_ 2 _ rfl
        have r3 := br0.cell_ 3 _ rfl
        have g0 := br0.frozen 0
        have g1 := br0.frozen 1
        have g2 := br0.frozen 2
        have g3 := br0.frozen 3
        go_enter Try.func14, Try.ntmps14
        go_wp2_with fail
        refine (C1.out _).mono ?_
        rintro e w1 ⟨A1, c1, rfl, hi1, hn1, hb1⟩
        have br1 := br0.below hb1 br0.lt
        have hO1 := hO.trans (hb1.mono hO.size)
        have hnb : NewA (w.heap.size + 1) A1 := hn1.mono (by simp)
        clear r0 r1 r2 r3 g0 g1 g2 g3
        have r0 := br1.cell_ 0 _ rfl
        have r1 := br1.cell_ 1 _ rfl
        have r2 := br1.cell_ 2 _ rfl
        have r3 := br1.cell_ 3 _ rfl
        have g0 := br1.frozen 0
        have g1 := br1.frozen 1
        have g2 := br1.frozen 2
        have g3 := br1.frozen 3
        go_wp2_with fail
        refine (C2.out _).mono ?_
        rintro e w2 ⟨A2, c2, rfl, hi2, hn2, hb2⟩
        have br2 := br1.below hb2 br1.lt
        have hO2 := hO1.trans (hb2.mono hO1.size)
        have hi1' := hi1.ext hb2
        have hns : NewA (w.heap.size + 1) A2 := hn2.mono (Nat.succ_le_of_lt br1.lt)
        go_wp2_with fail
        refine (rmoore_one _).mono ?_
        rintro e w3 ⟨A3, c3, rfl, hp3, hn3, hb3⟩
        have br3 := br2.below hb3 br2.lt
        have hO3 := hO2.trans (hb3.mono hO2.size)
        have hi1'' := hi1'.ext hb3
        have hi2' := hi2.ext hb3
        have hnp3 : NewA (w.heap.size + 1) A3 := hn3.mono (Nat.succ_le_of_lt br2.lt)
        clear r0 r1 r2 r3 g0 g1 g2 g3
        have r0 := br3.cell_ 0 _ rfl
        have r1 := br3.cell_ 1 _ rfl
        have r2 := br3.cell_ 2 _ rfl
        have r3 := br3.cell_ 3 _ rfl
        have g0 := br3.frozen 0
        have g1 := br3.frozen 1
        have g2 := br3.frozen 2
        have g3 := br3.frozen 3
        go_wp2_with fail
        refine (rhex_any _).mono ?_
        rintro e w4 ⟨A4, c4, rfl, hp4, hn4, hb4⟩
        have br := br3.below hb4 br3.lt
        have hO4 := hO3.trans (hb4.mono hO3.size)
        have hb1_ := hi1''.ext hb4
        have hs1 := hi2'.ext hb4
        have hp := hp4
        have hnp : NewA (w.heap.size + 1) A4 := hn4.mono (Nat.succ_le_of_lt br3.lt)
        clear r0 r1 r2 r3 g0 g1 g2 g3
        have r0 := br.cell_ 0 _ rfl
        have r1 := br.cell_ 1 _ rfl
        have r2 := br.cell_ 2 _ rfl
        have r3 := br.cell_ 3 _ rfl
        have g0 := br.frozen 0
        have g1 := br.frozen 1
        have g2 := br.frozen 2
        have g3 := br.frozen 3
        have hll : hexL.length ≤ 9 := by decide
        go_wp2_with fail
        refine (numbers_any A1 bs c1 ((hexL.length : Int) - 1) _ hb1_).mono ?_
        rintro e w6 ⟨rfl, hq6⟩
        have br6 := br.below (hq6.below _) br.lt
        have hO6 := hO4.trans (hq6.below _)
        have hb6 := hb1_.ext (hq6.below _)
        have hs6 := hs1.ext (hq6.below _)
        have hp6 := hp.ext (hq6.below _)
        clear r0 r1 r2 r3 g0 g1 g2 g3
        have r0 := br6.cell_ 0 _ rfl
        have r1 := br6.cell_ 1 _ rfl
        have r2 := br6.cell_ 2 _ rfl
        have r3 := br6.cell_ 3 _ rfl
        have g0 := br6.frozen 0
        have g1 := br6.frozen 1
        have g2 := br6.frozen 2
        have g3 := br6.frozen 3
        cases k8 : asc (-1) ((hexL.length : Int) - 1) bs
        · go_wp2
          refine bodyPost_ret (v := .tuple #[.agg #[.slice none 0 0, .int .i64 0, .slice none 0 0, .slice none 0 0], .int .i64 5]) (by simp [results, Try.results14, go_sem, r0, r1, r2, r3]) rfl ?_
          rw [HF.out, show fitR bs ss hexL = (zeroT, 5) from by simp [fitR, k8]]
          exact ⟨none, 0, none, 0, none, 0, rfl, TotR.zero _, below_set4 hO6 (Nat.le_refl _) _ _ _ _⟩
        go_wp2_with fail
        refine (numbers_any A2 ss c2 ((hexL.length : Int) - 1) _ hs6).mono ?_
        rintro e w7 ⟨rfl, hq7⟩
        have br7 := br6.below (hq7.below _) br6.lt
        have hO7 := hO6.trans (hq7.below _)
        have hb7 := hb6.ext (hq7.below _)
        have hs7 := hs6.ext (hq7.below _)
        have hp7 := hp6.ext (hq7.below _)
        clear r0 r1 r2 r3 g0 g1 g2 g3
        have r0 := br7.cell_ 0 _ rfl
        have r1 := br7.cell_ 1 _ rfl
        have r2 := br7.cell_ 2 _ rfl
        have r3 := br7.cell_ 3 _ rfl
        have g0 := br7.frozen 0
        have g1 := br7.frozen 1
        have g2 := br7.frozen 2
        have g3 := br7.frozen 3
        cases k9 : asc (-1) ((hexL.length : Int) - 1) ss
        · go_wp2
          refine bodyPost_ret (v := .tuple #[.agg #[.slice none 0 0, .int .i64 0, .slice none 0 0, .slice none 0 0], .int .i64 5]) (by simp [results, Try.results14, go_sem, r0, r1, r2, r3]) rfl ?_
          rw [HF.out, show fitR bs ss hexL = (zeroT, 5) from by simp [fitR, k9]]
          exact ⟨none, 0, none, 0, none, 0, rfl, TotR.zero _, below_set4 hO7 (Nat.le_refl _) _ _ _ _⟩
        go_wp2
        refine bodyPost_ret (v := .tuple #[.agg #[.slice A4 hexL.length c4, .int .i64 2, .slice A1 bs.length c1, .slice A2 ss.length c2], .int .i64 0]) (by simp [results, Try.results14, go_sem, r0, r1, r2, r3]) rfl ?_
        rw [HF.out, show fitR bs ss hexL = (⟨hexL, 2, bs, ss⟩, 0) from by simp [fitR, k8, k9]]
        exact ⟨A4, c4, A1, c1, A2, c2, rfl, (TotR.mk hp7 hb7 hs7).set4 hnp hnb hns _ _ _ _, below_set4 hO7 (Nat.le_refl _) _ _ _ _⟩
      · have hr : rparseL l = (zeroT, 15) := by
          rw [HR1.out]
          unfold endR badR
          rw [decide_eq_true hql, decide_eq_true (p := q + 1 ≠ l.length) (by rw [GB.out.2]; exact e5)]
          rfl
        have HR := Lib.hid hr
        have d9 : ((q : Int) + 1 != (s.size : Int)) = true := by simp; omega
        clear hr hho hv hv2 e5 v1 v2 hqg hql
        have r0 := br0.cell_ 0 _ rfl
        have r1 := br0.cell_ 1 _ rfl
        have r2 := br0.cell_ 2 _ rfl
        have r3 := br0.cell_ 3 _ rfl
        have g0 := br0.frozen 0
        have g1 := br0.frozen 1
        have g2 := br0.frozen 2
        have g3 := br0.frozen 3
        go_enter Try.func14, Try.ntmps14
        go_wp2_with fail
        refine (C1.out _).mono ?_
        rintro e w1 ⟨A1, c1, rfl, hi1, hn1, hb1⟩
        have br1 := br0.below hb1 br0.lt
        have hO1 := hO.trans (hb1.mono hO.size)
        have hnb : NewA (w.heap.size + 1) A1 := hn1.mono (by simp)
        clear r0 r1 r2 r3 g0 g1 g2 g3
        have r0 := br1.cell_ 0 _ rfl
        have r1 := br1.cell_ 1 _ rfl
        have r2 := br1.cell_ 2 _ rfl
        have r3 := br1.cell_ 3 _ rfl
        have g0 := br1.frozen 0
        have g1 := br1.frozen 1
        have g2 := br1.frozen 2
        have g3 := br1.frozen 3
        go_wp2_with fail
        refine (C2.out _).mono ?_
        rintro e w2 ⟨A2, c2, rfl, hi2, hn2, hb2⟩
        have br2 := br1.below hb2 br1.lt
        have hO2 := hO1.trans (hb2.mono hO1.size)
        have hi1' := hi1.ext hb2
        have hns : NewA (w.heap.size + 1) A2 := hn2.mono (Nat.succ_le_of_lt br1.lt)
        go_wp2_with fail
        refine (rmoore_one _).mono ?_
        rintro e w3 ⟨A3, c3, rfl, hp3, hn3, hb3⟩
        have br3 := br2.below hb3 br2.lt
        have hO3 := hO2.trans (hb3.mono hO2.size)
        have hi1'' := hi1'.ext hb3
        have hi2' := hi2.ext hb3
        have hnp3 : NewA (w.heap.size + 1) A3 := hn3.mono (Nat.succ_le_of_lt br2.lt)
        clear r0 r1 r2 r3 g0 g1 g2 g3
        have r0 := br3.cell_ 0 _ rfl
        have r1 := br3.cell_ 1 _ rfl
        have r2 := br3.cell_ 2 _ rfl
        have r3 := br3.cell_ 3 _ rfl
        have g0 := br3.frozen 0
        have g1 := br3.frozen 1
        have g2 := br3.frozen 2
        have g3 := br3.frozen 3
        go_wp2_with fail
        refine (rhex_any _).mono ?_
        rintro e w4 ⟨A4, c4, rfl, hp4, hn4, hb4⟩
        have br := br3.below hb4 br3.lt
        have hO4 := hO3.trans (hb4.mono hO3.size)
        have hb1_ := hi1''.ext hb4
        have hs1 := hi2'.ext hb4
        have hp := hp4
        have hnp : NewA (w.heap.size + 1) A4 := hn4.mono (Nat.succ_le_of_lt br3.lt)
        clear r0 r1 r2 r3 g0 g1 g2 g3
        have r0 := br.cell_ 0 _ rfl
        have r1 := br.cell_ 1 _ rfl
        have r2 := br.cell_ 2 _ rfl
        have r3 := br.cell_ 3 _ rfl
        have g0 := br.frozen 0
        have g1 := br.frozen 1
        have g2 := br.frozen 2
        have g3 := br.frozen 3
        go_wp2
        refine bodyPost_ret (v := .tuple #[.agg #[.slice none 0 0, .int .i64 0, .slice none 0 0, .slice none 0 0], .int .i64 15]) (by simp [results, Try.results14, go_sem, r0, r1, r2, r3]) rfl ?_
        rw [HR.out]
        first | exact ⟨none, 0, none, 0, none, 0, rfl, TotR.zero _, below_set4 hO4 (Nat.le_refl _) _ _ _ _⟩ | exact ⟨none, 0, none, 0, none, 0, rfl, TotR.zero _, hO4⟩
    · have d7 : ((s[q].toNat : Int) == 72) = false := by simpa using v2
      have d7' : ((s[q].toNat : Int) != 72) = true := by simpa using v2
      have hv2 : ¬ l.getD q 0 = 72 := by rw [hqg]; exact fun h => v2 ((u8_is rfl).1 h)
      have hr : rparseL l = (zeroT, 15) := by
        rw [HR1.out]
        unfold endR badR
        rw [decide_eq_true hql, decide_eq_true (p := l.getD q 0 ≠ 86) hv, decide_eq_true (p := l.getD q 0 ≠ 72) hv2]
        simp
      have HR := Lib.hid hr
      clear hr hv hv2 v1 v2 hqg hql
      by_cases e5 : q + 1 = s.size
      · have d9 : ((q : Int) + 1 != (s.size : Int)) = false := by simp; omega
        clear e5
        have r0 := br0.cell_ 0 _ rfl
        have r1 := br0.cell_ 1 _ rfl
        have r2 := br0.cell_ 2 _ rfl
        have r3 := br0.cell_ 3 _ rfl
        have g0 := br0.frozen 0
        have g1 := br0.frozen 1
        have g2 := br0.frozen 2
        have g3 := br0.frozen 3
        go_enter Try.func14, Try.ntmps14
        go_wp2_with fail
        refine (C1.out _).mono ?_
        rintro e w1 ⟨A1, c1, rfl, hi1, hn1, hb1⟩
        have br1 := br0.below hb1 br0.lt
        have hO1 := hO.trans (hb1.mono hO.size)
        have hnb : NewA (w.heap.size + 1) A1 := hn1.mono (by simp)
        clear r0 r1 r2 r3 g0 g1 g2 g3
        have r0 := br1.cell_ 0 _ rfl
        have r1 := br1.cell_ 1 _ rfl
        have r2 := br1.cell_ 2 _ rfl
        have r3 := br1.cell_ 3 _ rfl
        have g0 := br1.frozen 0
        have g1 := br1.frozen 1
        have g2 := br1.frozen 2
        have g3 := br1.frozen 3
        go_wp2_with fail
        refine (C2.out _).mono ?_
        rintro e w2 ⟨A2, c2, rfl, hi2, hn2, hb2⟩
        have br2 := br1.below hb2 br1.lt
        have hO2 := hO1.trans (hb2.mono hO1.size)
        have hi1' := hi1.ext hb2
        have hns : NewA (w.heap.size + 1) A2 := hn2.mono (Nat.succ_le_of_lt br1.lt)
        go_wp2_with fail
        refine (rmoore_one _).mono ?_
        rintro e w3 ⟨A3, c3, rfl, hp3, hn3, hb3⟩
        have br3 := br2.below hb3 br2.lt
        have hO3 := hO2.trans (hb3.mono hO2.size)
        have hi1'' := hi1'.ext hb3
        have hi2' := hi2.ext hb3
        have hnp3 : NewA (w.heap.size + 1) A3 := hn3.mono (Nat.succ_le_of_lt br2.lt)
        clear r0 r1 r2 r3 g0 g1 g2 g3
        have r0 := br3.cell_ 0 _ rfl
        have r1 := br3.cell_ 1 _ rfl
        have r2 := br3.cell_ 2 _ rfl
        have r3 := br3.cell_ 3 _ rfl
        have g0 := br3.frozen 0
        have g1 := br3.frozen 1
        have g2 := br3.frozen 2
        have g3 := br3.frozen 3
        go_wp2
        refine bodyPost_ret (v := .tuple #[.agg #[.slice none 0 0, .int .i64 0, .slice none 0 0, .slice none 0 0], .int .i64 15]) (by simp [results, Try.results14, go_sem, r0, r1, r2, r3]) rfl ?_
        rw [HR.out]
        first | exact ⟨none, 0, none, 0, none, 0, rfl, TotR.zero _, below_set4 hO3 (Nat.le_refl _) _ _ _ _⟩ | exact ⟨none, 0, none, 0, none, 0, rfl, TotR.zero _, hO3⟩
      · have d9 : ((q : Int) + 1 != (s.size : Int)) = true := by simp; omega
        clear e5
        have r0 := br0.cell_ 0 _ rfl
        have r1 := br0.cell_ 1 _ rfl
        have r2 := br0.cell_ 2 _ rfl
        have r3 := br0.cell_ 3 _ rfl
        have g0 := br0.frozen 0
        have g1 := br0.frozen 1
        have g2 := br0.frozen 2
        have g3 := br0.frozen 3
        go_enter Try.func14, Try.ntmps14
        go_wp2_with fail
        refine (C1.out _).mono ?_
        rintro e w1 ⟨A1, c1, rfl, hi1, hn1, hb1⟩
        have br1 := br0.below hb1 br0.lt
        have hO1 := hO.trans (hb1.mono hO.size)
        have hnb : NewA (w.heap.size + 1) A1 := hn1.mono (by simp)
        clear r0 r1 r2 r3 g0 g1 g2 g3
        have r0 := br1.cell_ 0 _ rfl
        have r1 := br1.cell_ 1 _ rfl
        have r2 := br1.cell_ 2 _ rfl
        have r3 := br1.cell_ 3 _ rfl
        have g0 := br1.frozen 0
        have g1 := br1.frozen 1
        have g2 := br1.frozen 2
        have g3 := br1.frozen 3
        go_wp2_with fail
        refine (C2.out _).mono ?_
        rintro e w2 ⟨A2, c2, rfl, hi2, hn2, hb2⟩
        have br2 := br1.below hb2 br1.lt
        have hO2 := hO1.trans (hb2.mono hO1.size)
        have hi1' := hi1.ext hb2
        have hns : NewA (w.heap.size + 1) A2 := hn2.mono (Nat.succ_le_of_lt br1.lt)
        go_wp2_with fail
        refine (rmoore_one _).mono ?_
        rintro e w3 ⟨A3, c3, rfl, hp3, hn3, hb3⟩
        have br3 := br2.below hb3 br2.lt
        have hO3 := hO2.trans (hb3.mono hO2.size)
        have hi1'' := hi1'.ext hb3
        have hi2' := hi2.ext hb3
        have hnp3 : NewA (w.heap.size + 1) A3 := hn3.mono (Nat.succ_le_of_lt br2.lt)
        clear r0 r1 r2 r3 g0 g1 g2 g3
        have r0 := br3.cell_ 0 _ rfl
        have r1 := br3.cell_ 1 _ rfl
        have r2 := br3.cell_ 2 _ rfl
        have r3 := br3.cell_ 3 _ rfl
        have g0 := br3.frozen 0
        have g1 := br3.frozen 1
        have g2 := br3.frozen 2
        have g3 := br3.frozen 3
        go_wp2
        refine bodyPost_ret (v := .tuple #[.agg #[.slice none 0 0, .int .i64 0, .slice none 0 0, .slice none 0 0], .int .i64 15]) (by simp [results, Try.results14, go_sem, r0, r1, r2, r3]) rfl ?_
        rw [HR.out]
        first | exact ⟨none, 0, none, 0, none, 0, rfl, TotR.zero _, below_set4 hO3 (Nat.le_refl _) _ _ _ _⟩ | exact ⟨none, 0, none, 0, none, 0, rfl, TotR.zero _, hO3⟩
end Go.Proofs.Ytnobnlbjgaanmaa
