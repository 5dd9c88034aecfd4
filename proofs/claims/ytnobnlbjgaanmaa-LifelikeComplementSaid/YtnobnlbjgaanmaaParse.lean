/-
  lifelike.Parse: it reads a rule in B/S notation. At most 2^31 bytes.
-/
import Derived.Test.YtnobnlbjgaanmaaDig
namespace Go.Proofs.Ytnobnlbjgaanmaa
open Go.RowKit
set_option linter.unusedVariables false

def zeroT : TotL := ⟨[], 0, [], []⟩
/-- the neighbourhood's letter behind the last digits: the digits, the neighbourhood -/
def tailV (l : List UInt8) : Bool := Lib.hasSuffix l [86]
def tailH (l : List UInt8) : Bool := Lib.hasSuffix l [72]
def cutV (l : List UInt8) : List UInt8 := Lib.trimSuffix l [86]
def cutH (l : List UInt8) : List UInt8 := Lib.trimSuffix l [72]
def hoodP (l : List UInt8) : List UInt8 × List (Int × Int) := if tailV l then (cutV l, neumL 1) else if tailH l then (cutH l, hexL) else (l, mooreL 1)
def endP (b s : List Int × Bool) (h : List (Int × Int)) : TotL × Int :=
  if b.2 then if s.2 then if rightT ⟨h, 2, b.1, s.1⟩ then (⟨h, 2, b.1, s.1⟩, 0) else (zeroT, 5) else (zeroT, 15) else (zeroT, 15)
def startB (l : List UInt8) : Bool := Lib.hasPrefix l [66]
def restB (l : List UInt8) : List UInt8 := Lib.trimPrefix l [66]
def cut3 (l : List UInt8) : List UInt8 × List UInt8 × Bool := Lib.cut l [47, 83]
def parseL (l : List UInt8) : TotL × Int :=
  if startB l then
    if (cut3 (restB l)).2.2 then
      endP (digL (cut3 (restB l)).1) (digL (hoodP (cut3 (restB l)).2.1).1) (hoodP (cut3 (restB l)).2.1).2
    else (zeroT, 15)
  else (zeroT, 15)
theorem trimPrefix_len (l p : List UInt8) : (Lib.trimPrefix l p).length ≤ l.length := by
  unfold Lib.trimPrefix; split <;> simp
theorem trimSuffix_len (l p : List UInt8) : (Lib.trimSuffix l p).length ≤ l.length := by
  unfold Lib.trimSuffix; split <;> simp <;> omega
theorem cut_len (l p : List UInt8) : (Lib.cut l p).1.length ≤ l.length ∧ (Lib.cut l p).2.1.length ≤ l.length := by
  unfold Lib.cut; split <;> simp <;> omega
/-- it hands back a rule and an error -/
def RetTot (r : TotL × Int) (w : World) (e : Ending) (w' : World) : Prop :=
  ∃ A a B b C c, e = .returned (.tuple #[totV A a B b C c r.1, .int .i64 r.2]) ∧ TotR w' A B C r.1 ∧ Below w.heap.size w w'
/-- the package's variables are there -/
def Glob (w : World) : Prop := ∃ m, w.cell? ⟨0, 0, none⟩ = some (.int .i64 m)
theorem Glob.ext {w w' : World} (h : Glob w) (hb : Below w.heap.size w w') : Glob w' := by
  obtain ⟨m, hm⟩ := h
  exact ⟨m, by rw [hb.cell (World.block_lt_of_cell? _ _ hm)]; exact hm⟩
theorem TotR.set4 {w : World} {A B C : Option Addr} {t : TotL} {b : Nat} (h : TotR w A B C t) (ha : NewA (b + 1) A) (hb : NewA (b + 1) B) (hc : NewA (b + 1) C) (v0 v1 v2 v3 : Value) :
    TotR ((((w.setCell ⟨b, 0, none⟩ v0).setCell ⟨b, 1, none⟩ v1).setCell ⟨b, 2, none⟩ v2).setCell ⟨b, 3, none⟩ v3) A B C t :=
  ⟨(((h.hood.set_new ha (by simp) _).set_new ha (by simp) _).set_new ha (by simp) _).set_new ha (by simp) _,
    (((h.birth.set_new hb (by simp) _).set_new hb (by simp) _).set_new hb (by simp) _).set_new hb (by simp) _,
    (((h.survive.set_new hc (by simp) _).set_new hc (by simp) _).set_new hc (by simp) _).set_new hc (by simp) _⟩
theorem TotR.zero (w : World) : TotR w none none none zeroT := ⟨Pts.nil, Ints.nil, Ints.nil⟩
theorem cutB_any (s : ByteArray) (w : World) : Calls Try.prog 28 #[.string s, .string ⟨#[66]⟩] w fun e w' => e = .returned (.tuple #[.string ⟨(restB s.data.toList).toArray⟩, .bool (startB s.data.toList)]) ∧ w = w' :=
  (Try.strings_CutPrefix s ⟨#[66]⟩ w).mono fun e w' h => ⟨h.1, h.2.symm⟩
theorem cutS_any (l : List UInt8) (w : World) (hg : Glob w) (hl : l.length < 4294967281) : Calls Try.prog 29 #[.string ⟨l.toArray⟩, .string ⟨#[47, 83]⟩] w fun e w' => e = .returned (.tuple #[.string ⟨(cut3 l).1.toArray⟩, .string ⟨(cut3 l).2.1.toArray⟩, .bool (cut3 l).2.2]) ∧ Qt w w' := by
  obtain ⟨m, hm⟩ := hg
  exact Try.strings_Cut ⟨l.toArray⟩ ⟨#[47, 83]⟩ m w (by simpa [ByteArray.size] using hl) hm
theorem cutV_any (l : List UInt8) (w : World) (hl : l.length < 4294967281) : Calls Try.prog 31 #[.string ⟨l.toArray⟩, .string ⟨#[86]⟩] w fun e w' => e = .returned (.tuple #[.string ⟨(cutV l).toArray⟩, .bool (tailV l)]) ∧ w = w' :=
  (Try.strings_CutSuffix ⟨l.toArray⟩ ⟨#[86]⟩ w (by simp [ByteArray.size]; omega)).mono fun e w' h => ⟨h.1, h.2.symm⟩
theorem cutH_any (l : List UInt8) (w : World) (hl : l.length < 4294967281) : Calls Try.prog 31 #[.string ⟨l.toArray⟩, .string ⟨#[72]⟩] w fun e w' => e = .returned (.tuple #[.string ⟨(cutH l).toArray⟩, .bool (tailH l)]) ∧ w = w' :=
  (Try.strings_CutSuffix ⟨l.toArray⟩ ⟨#[72]⟩ w (by simp [ByteArray.size]; omega)).mono fun e w' h => ⟨h.1, h.2.symm⟩
theorem digitsL_any (l : List UInt8) (w : World) (hl : l.length < 4294967281) (h2 : l.length ≤ 2147483648) : Calls Try.prog 34 #[.string ⟨l.toArray⟩] w (RetIntsB (digL l).1 (digL l).2 w) := digits_any ⟨l.toArray⟩ w h2

set_option maxHeartbeats 1000000 in
theorem parse_any (s : ByteArray) (w : World) (hg : Glob w) (hs : s.data.toList.length ≤ 2147483648) :
    Calls Try.prog 13 #[.string s] w (RetTot (parseL s.data.toList) w) := by
  have hO := (Below.refl w.heap.size w).alloc (Nat.le_refl _) (.cells #[.slice none 0 0, .int .i64 0, .slice none 0 0, .slice none 0 0] 25)
  have hg0 := hg.ext hO
  have C1 := cutB_any s
  have hR : (restB s.data.toList).length ≤ s.data.toList.length := trimPrefix_len _ _
  unfold parseL
  generalize s.data.toList = L at *
  generalize restB L = R at *
  have C2 := cutS_any R
  have hc1 : (cut3 R).1.length ≤ R.length := (cut_len _ _).1
  have hc2 : (cut3 R).2.1.length ≤ R.length := (cut_len _ _).2
  generalize cut3 R = c3 at *
  obtain ⟨bd, sv, p2⟩ := c3
  dsimp only at *
  cases k1 : startB L
  · rw [k1] at C1
    have H := Lib.hid (And.intro C1 C2)
    clear C1 C2
    go_enter Try.func13, Try.ntmps13
    go_wp2_with fail
    refine (H.out.1 _).mono ?_
    rintro e w1 ⟨rfl, rfl⟩
    go_wp2_with fail
    refine (H.out.2 _ hg0 (by omega)).mono ?_
    rintro e w1 ⟨rfl, q1, rfl⟩
    have hO1 := below_drewN hO q1
    go_wp2
    refine bodyPost_ret (v := .tuple #[.agg #[.slice none 0 0, .int .i64 0, .slice none 0 0, .slice none 0 0], .int .i64 15]) (by simp [results, Try.results13, go_sem]) rfl ?_
    exact ⟨none, 0, none, 0, none, 0, rfl, TotR.zero _, below_set4 hO1 (Nat.le_refl _) _ _ _ _⟩
  rw [k1] at C1
  have H := Lib.hid (And.intro C1 C2)
  clear C1 C2
  cases p2
  · go_enter Try.func13, Try.ntmps13
    go_wp2_with fail
    refine (H.out.1 _).mono ?_
    rintro e w1 ⟨rfl, rfl⟩
    go_wp2_with fail
    refine (H.out.2 _ hg0 (by omega)).mono ?_
    rintro e w1 ⟨rfl, q1, rfl⟩
    have hO1 := below_drewN hO q1
    go_wp2
    refine bodyPost_ret (v := .tuple #[.agg #[.slice none 0 0, .int .i64 0, .slice none 0 0, .slice none 0 0], .int .i64 15]) (by simp [results, Try.results13, go_sem]) rfl ?_
    exact ⟨none, 0, none, 0, none, 0, rfl, TotR.zero _, below_set4 hO1 (Nat.le_refl _) _ _ _ _⟩
  simp only [if_true]
  unfold hoodP
  have C4 := fun w => digitsL_any bd w (by omega) (by omega)
  have C3 := cutV_any sv
  generalize digL bd = db at *
  obtain ⟨bs, ok1⟩ := db
  cases k2 : tailV sv
  · rw [k2] at C3
    have C6 := cutH_any sv
    simp only [if_false, Bool.false_eq_true]
    cases k3 : tailH sv
    · rw [k3] at C6
      simp only [if_false, Bool.false_eq_true]
      have C5 := fun w => digitsL_any sv w (by omega) (by omega)
      generalize digL sv = ds at *
      obtain ⟨ss, ok2⟩ := ds
      dsimp only at *
      have H2 := Lib.hid (And.intro C3 (And.intro C4 (And.intro C5 C6)))
      clear C3 C4 C5 C6
      go_enter Try.func13, Try.ntmps13
      go_wp2_with fail
      refine (H.out.1 _).mono ?_
      rintro e w1 ⟨rfl, rfl⟩
      go_wp2_with fail
      refine (H.out.2 _ hg0 (by omega)).mono ?_
      rintro e w1 ⟨rfl, q1, rfl⟩
      have hO1 := below_drewN hO q1
      have br0 : Blk ((w.alloc (.cells #[.slice none 0 0, .int .i64 0, .slice none 0 0, .slice none 0 0] 25)).drewN q1) w.heap.size 25 #[.slice none 0 0, .int .i64 0, .slice none 0 0, .slice none 0 0] := (Blk.new w 25 #[.slice none 0 0, .int .i64 0, .slice none 0 0, .slice none 0 0]).drewN q1
      go_wp2_with fail
      refine (moore_one _).mono ?_
      rintro e w1 ⟨A1, a1, rfl, hp1, hn1, hb1⟩
      have hO2 := hO1.trans (hb1.mono hO1.size)
      have br1 := br0.below hb1 br0.lt
      have hlt1 := br1.lt
      have hn1' : NewA (w.heap.size + 1) A1 := hn1.mono (by simp)
      clear br0 hn1
      have bt1 : Blk (w1.alloc (.cells #[.slice A1 (mooreL 1).length a1, .int .i64 2, .slice none 0 0, .slice none 0 0] 25)) w1.heap.size 25 #[.slice A1 (mooreL 1).length a1, .int .i64 2, .slice none 0 0, .slice none 0 0] := Blk.new _ _ _
      have br2 := br1.alloc (.cells #[.slice A1 (mooreL 1).length a1, .int .i64 2, .slice none 0 0, .slice none 0 0] 25)
      have hO3 := hO2.alloc hO2.size (.cells #[.slice A1 (mooreL 1).length a1, .int .i64 2, .slice none 0 0, .slice none 0 0] 25)
      have hp1' := hp1.ext ((Below.refl _ _).alloc (Nat.le_refl _) (.cells #[.slice A1 (mooreL 1).length a1, .int .i64 2, .slice none 0 0, .slice none 0 0] 25))
      go_wp2_with fail
      refine (H2.out.1 _ (by omega)).mono ?_
      rintro e w2 ⟨rfl, rfl⟩
      have hfar : ∀ (W : World) (i : Nat) (u : Value), Pts W A1 (mooreL 1) → Pts (W.setCell ⟨w1.heap.size, i, none⟩ u) A1 (mooreL 1) := fun W i u h => h.set_old hp1 (by simp) u
      go_wp2_with fail
      refine (H2.out.2.2.2 _ (by omega)).mono ?_
      rintro e w2 ⟨rfl, rfl⟩
      have hnh := hn1'
      have bt3 := bt1
      have br4 := br2
      have hO5 := hO3
      have hph := hp1'
      clear bt1 br1 br2 hO2 hO3 hn1' hp1' hp1 hb1 hO1
      go_wp2_with fail
      refine (H2.out.2.1 _).mono ?_
      rintro e w3 ⟨A3, a3, rfl, hi3, hn3, hb3⟩
      have bt4 := bt3.below hb3 bt3.lt
      have br5 := br4.below hb3 br4.lt
      have hO6 := hO5.trans (hb3.mono hO5.size)
      have hph4 := hph.ext hb3
      have hn3t : NewA (w1.heap.size + 1) A3 := hn3.mono (Nat.succ_le_of_lt bt3.lt)
      have hn3r : NewA (w.heap.size + 1) A3 := hn3.mono (Nat.succ_le_of_lt br4.lt)
      have c2 := bt4.cell_ 2 _ rfl
      have f2 := bt4.frozen 2
      have bt5 : Blk (w3.setCell ⟨w1.heap.size, 2, none⟩ (.slice A3 bs.length a3)) w1.heap.size 25 #[.slice A1 (mooreL 1).length a1, .int .i64 2, .slice A3 bs.length a3, .slice none 0 0] := bt4.set_ 2 _
      have br6 := br5.far (p := ⟨w1.heap.size, 2, none⟩) (by simp; omega) (.slice A3 bs.length a3)
      have hO7 := hO6.setCell (p := ⟨w1.heap.size, 2, none⟩) (by simp; omega) (.slice A3 bs.length a3)
      have hph5 := hfar w3 2 (.slice A3 bs.length a3) hph4
      have hi5 := hi3.set_new hn3t (p := ⟨w1.heap.size, 2, none⟩) (by simp) (.slice A3 bs.length a3)
      clear bt3 br4 hO5 hph hb3 hi3 hph4 hO6 bt4 br5 hn3
      go_wp2_with fail
      refine (H2.out.2.2.1 _).mono ?_
      rintro e w4 ⟨A4, a4, rfl, hi4, hn4, hb4⟩
      have bt6 := bt5.below hb4 bt5.lt
      have br7 := br6.below hb4 br6.lt
      have hO8 := hO7.trans (hb4.mono hO7.size)
      have hph6 := hph5.ext hb4
      have hi6 := hi5.ext hb4
      have hn4t : NewA (w1.heap.size + 1) A4 := hn4.mono (Nat.succ_le_of_lt bt5.lt)
      have hn4r : NewA (w.heap.size + 1) A4 := hn4.mono (Nat.succ_le_of_lt br6.lt)
      have c3 := bt6.cell_ 3 _ rfl
      have f3 := bt6.frozen 3
      have bt7 : Blk (w4.setCell ⟨w1.heap.size, 3, none⟩ (.slice A4 ss.length a4)) w1.heap.size 25 #[.slice A1 (mooreL 1).length a1, .int .i64 2, .slice A3 bs.length a3, .slice A4 ss.length a4] := bt6.set_ 3 _
      have br8 := br7.far (p := ⟨w1.heap.size, 3, none⟩) (by simp; omega) (.slice A4 ss.length a4)
      have hO9 := hO8.setCell (p := ⟨w1.heap.size, 3, none⟩) (by simp; omega) (.slice A4 ss.length a4)
      have hph7 := hfar w4 3 (.slice A4 ss.length a4) hph6
      have hi7 := hi6.set_new hn3t (p := ⟨w1.heap.size, 3, none⟩) (by simp) (.slice A4 ss.length a4)
      have hj7 := hi4.set_new hn4t (p := ⟨w1.heap.size, 3, none⟩) (by simp) (.slice A4 ss.length a4)
      have r0 := br7.cell_ 0 _ rfl
      have r1 := br7.cell_ 1 _ rfl
      have r2 := br7.cell_ 2 _ rfl
      have r3 := br7.cell_ 3 _ rfl
      have g0 := br7.frozen 0
      have g1 := br7.frozen 1
      have g2 := br7.frozen 2
      have g3 := br7.frozen 3
      have t0 := bt6.cell_ 0 _ rfl
      have t1 := bt6.cell_ 1 _ rfl
      have t2 := bt6.cell_ 2 _ rfl
      have hO10 := Lib.hid hO9
      have hT := Lib.hid (TotR.mk hph7 hi7 hj7 : TotR (w4.setCell ⟨w1.heap.size, 3, none⟩ (.slice A4 ss.length a4)) A1 A3 A4 ⟨(mooreL 1), 2, bs, ss⟩)
      have hne : ¬ w1.heap.size = w.heap.size := by omega
      clear bt5 br6 hO7 hph5 hb4 hi4 hph6 hO8 bt6 br7 hn4 hi5 hi6 c2 f2 hph7 hi7 hj7 hO9 hfar
      cases ok1
      · go_wp2
        refine bodyPost_ret (v := .tuple #[.agg #[.slice none 0 0, .int .i64 0, .slice none 0 0, .slice none 0 0], .int .i64 15]) (by simp [results, Try.results13, go_sem, r0, r1, r2, r3, hne]) rfl ?_
        rw [show endP (bs, false) (ss, ok2) (mooreL 1) = (zeroT, 15) from rfl]
        exact ⟨none, 0, none, 0, none, 0, rfl, TotR.zero _, below_set4 hO10.out (Nat.le_refl _) _ _ _ _⟩
      cases ok2
      · go_wp2
        refine bodyPost_ret (v := .tuple #[.agg #[.slice none 0 0, .int .i64 0, .slice none 0 0, .slice none 0 0], .int .i64 15]) (by simp [results, Try.results13, go_sem, r0, r1, r2, r3, hne]) rfl ?_
        rw [show endP (bs, true) (ss, false) (mooreL 1) = (zeroT, 15) from rfl]
        exact ⟨none, 0, none, 0, none, 0, rfl, TotR.zero _, below_set4 hO10.out (Nat.le_refl _) _ _ _ _⟩
      go_wp2_with fail
      refine (right_any A1 A3 A4 a1 a3 a4 ⟨(mooreL 1), 2, bs, ss⟩ _ hT.out).mono ?_
      rintro e w5 ⟨rfl, hb5⟩
      have br9 := br8.below hb5 br8.lt
      have bt8 := bt7.below hb5 bt7.lt
      have hO11 := hO10.out.trans (hb5.mono hO10.out.size)
      have r0 := br9.cell_ 0 _ rfl
      have r1 := br9.cell_ 1 _ rfl
      have r2 := br9.cell_ 2 _ rfl
      have r3 := br9.cell_ 3 _ rfl
      have g0 := br9.frozen 0
      have g1 := br9.frozen 1
      have g2 := br9.frozen 2
      have g3 := br9.frozen 3
      have t0 := bt8.cell_ 0 _ rfl
      have t1 := bt8.cell_ 1 _ rfl
      have t2 := bt8.cell_ 2 _ rfl
      have t3 := bt8.cell_ 3 _ rfl
      have hT2 := Lib.hid (hT.out.ext hb5)
      have hO12 := Lib.hid hO11
      clear hO11 hb5 hT br8 bt7
      cases k9 : rightT ⟨(mooreL 1), 2, bs, ss⟩
      · go_wp2
        refine bodyPost_ret (v := .tuple #[.agg #[.slice none 0 0, .int .i64 0, .slice none 0 0, .slice none 0 0], .int .i64 5]) (by simp [results, Try.results13, go_sem, r0, r1, r2, r3]) rfl ?_
        rw [show endP (bs, true) (ss, true) (mooreL 1) = (zeroT, 5) from by simp only [endP, k9]; rfl]
        exact ⟨none, 0, none, 0, none, 0, rfl, TotR.zero _, below_set4 hO12.out (Nat.le_refl _) _ _ _ _⟩
      · go_wp2
        refine bodyPost_ret (v := .tuple #[.agg #[.slice A1 (mooreL 1).length a1, .int .i64 2, .slice A3 bs.length a3, .slice A4 ss.length a4], .int .i64 0]) (by simp [results, Try.results13, go_sem, r0, r1, r2, r3]) rfl ?_
        rw [show endP (bs, true) (ss, true) (mooreL 1) = (⟨(mooreL 1), 2, bs, ss⟩, 0) from by simp only [endP, k9]; rfl]
        exact ⟨A1, a1, A3, a3, A4, a4, rfl, hT2.out.set4 hnh hn3r hn4r _ _ _ _, below_set4 hO12.out (Nat.le_refl _) _ _ _ _⟩
    · rw [k3] at C6
      simp only [if_true]
      have hcv : (cutH sv).length ≤ sv.length := trimSuffix_len _ _
      generalize cutH sv = sw at *
      have C5 := fun w => digitsL_any sw w (by omega) (by omega)
      generalize digL sw = ds at *
      obtain ⟨ss, ok2⟩ := ds
      dsimp only at *
      have H2 := Lib.hid (And.intro C3 (And.intro C4 (And.intro C5 C6)))
      clear C3 C4 C5 C6
      go_enter Try.func13, Try.ntmps13
      go_wp2_with fail
      refine (H.out.1 _).mono ?_
      rintro e w1 ⟨rfl, rfl⟩
      go_wp2_with fail
      refine (H.out.2 _ hg0 (by omega)).mono ?_
      rintro e w1 ⟨rfl, q1, rfl⟩
      have hO1 := below_drewN hO q1
      have br0 : Blk ((w.alloc (.cells #[.slice none 0 0, .int .i64 0, .slice none 0 0, .slice none 0 0] 25)).drewN q1) w.heap.size 25 #[.slice none 0 0, .int .i64 0, .slice none 0 0, .slice none 0 0] := (Blk.new w 25 #[.slice none 0 0, .int .i64 0, .slice none 0 0, .slice none 0 0]).drewN q1
      go_wp2_with fail
      refine (moore_one _).mono ?_
      rintro e w1 ⟨A1, a1, rfl, hp1, hn1, hb1⟩
      have hO2 := hO1.trans (hb1.mono hO1.size)
      have br1 := br0.below hb1 br0.lt
      have hlt1 := br1.lt
      have hn1' : NewA (w.heap.size + 1) A1 := hn1.mono (by simp)
      clear br0 hn1
      have bt1 : Blk (w1.alloc (.cells #[.slice A1 (mooreL 1).length a1, .int .i64 2, .slice none 0 0, .slice none 0 0] 25)) w1.heap.size 25 #[.slice A1 (mooreL 1).length a1, .int .i64 2, .slice none 0 0, .slice none 0 0] := Blk.new _ _ _
      have br2 := br1.alloc (.cells #[.slice A1 (mooreL 1).length a1, .int .i64 2, .slice none 0 0, .slice none 0 0] 25)
      have hO3 := hO2.alloc hO2.size (.cells #[.slice A1 (mooreL 1).length a1, .int .i64 2, .slice none 0 0, .slice none 0 0] 25)
      have hp1' := hp1.ext ((Below.refl _ _).alloc (Nat.le_refl _) (.cells #[.slice A1 (mooreL 1).length a1, .int .i64 2, .slice none 0 0, .slice none 0 0] 25))
      go_wp2_with fail
      refine (H2.out.1 _ (by omega)).mono ?_
      rintro e w2 ⟨rfl, rfl⟩
      go_wp2_with fail
      refine (H2.out.2.2.2 _ (by omega)).mono ?_
      rintro e w2 ⟨rfl, rfl⟩
      go_wp2_with fail
      refine (hex_any _).mono ?_
      rintro e w2 ⟨A2, a2, rfl, hp2, hn2, hb2⟩
      have bt2 := bt1.below hb2 bt1.lt
      have br3 := br2.below hb2 br2.lt
      have hO4 := hO3.trans (hb2.mono hO3.size)
      have c0 := bt2.cell_ 0 _ rfl
      have f0 := bt2.frozen 0
      have hn2t : NewA (w1.heap.size + 1) A2 := hn2.mono (by simp)
      have hnh : NewA (w.heap.size + 1) A2 := hn2.mono (by simp; omega)
      have bt3 : Blk (w2.setCell ⟨w1.heap.size, 0, none⟩ (.slice A2 hexL.length a2)) w1.heap.size 25 #[.slice A2 hexL.length a2, .int .i64 2, .slice none 0 0, .slice none 0 0] := bt2.set_ 0 _
      have br4 := br3.far (p := ⟨w1.heap.size, 0, none⟩) (by simp; omega) (.slice A2 hexL.length a2)
      have hO5 := hO4.setCell (p := ⟨w1.heap.size, 0, none⟩) (by simp; omega) (.slice A2 hexL.length a2)
      have hfar : ∀ (W : World) (i : Nat) (u : Value), Pts W A2 hexL → Pts (W.setCell ⟨w1.heap.size, i, none⟩ u) A2 hexL := fun W i u h => h.set_new hn2t (by simp) u
      have hph := hfar w2 0 (.slice A2 hexL.length a2) hp2
      clear bt1 br1 br2 hb2 hO2 hO3 hn1' hp1' hp1 hn2 hn2t hb1 hO1 hp2 hO4 bt2 br3
      go_wp2_with fail
      refine (H2.out.2.1 _).mono ?_
      rintro e w3 ⟨A3, a3, rfl, hi3, hn3, hb3⟩
      have bt4 := bt3.below hb3 bt3.lt
      have br5 := br4.below hb3 br4.lt
      have hO6 := hO5.trans (hb3.mono hO5.size)
      have hph4 := hph.ext hb3
      have hn3t : NewA (w1.heap.size + 1) A3 := hn3.mono (Nat.succ_le_of_lt bt3.lt)
      have hn3r : NewA (w.heap.size + 1) A3 := hn3.mono (Nat.succ_le_of_lt br4.lt)
      have c2 := bt4.cell_ 2 _ rfl
      have f2 := bt4.frozen 2
      have bt5 : Blk (w3.setCell ⟨w1.heap.size, 2, none⟩ (.slice A3 bs.length a3)) w1.heap.size 25 #[.slice A2 hexL.length a2, .int .i64 2, .slice A3 bs.length a3, .slice none 0 0] := bt4.set_ 2 _
      have br6 := br5.far (p := ⟨w1.heap.size, 2, none⟩) (by simp; omega) (.slice A3 bs.length a3)
      have hO7 := hO6.setCell (p := ⟨w1.heap.size, 2, none⟩) (by simp; omega) (.slice A3 bs.length a3)
      have hph5 := hfar w3 2 (.slice A3 bs.length a3) hph4
      have hi5 := hi3.set_new hn3t (p := ⟨w1.heap.size, 2, none⟩) (by simp) (.slice A3 bs.length a3)
      clear bt3 br4 hO5 hph hb3 hi3 hph4 hO6 bt4 br5 hn3
      go_wp2_with fail
      refine (H2.out.2.2.1 _).mono ?_
      rintro e w4 ⟨A4, a4, rfl, hi4, hn4, hb4⟩
      have bt6 := bt5.below hb4 bt5.lt
      have br7 := br6.below hb4 br6.lt
      have hO8 := hO7.trans (hb4.mono hO7.size)
      have hph6 := hph5.ext hb4
      have hi6 := hi5.ext hb4
      have hn4t : NewA (w1.heap.size + 1) A4 := hn4.mono (Nat.succ_le_of_lt bt5.lt)
      have hn4r : NewA (w.heap.size + 1) A4 := hn4.mono (Nat.succ_le_of_lt br6.lt)
      have c3 := bt6.cell_ 3 _ rfl
      have f3 := bt6.frozen 3
      have bt7 : Blk (w4.setCell ⟨w1.heap.size, 3, none⟩ (.slice A4 ss.length a4)) w1.heap.size 25 #[.slice A2 hexL.length a2, .int .i64 2, .slice A3 bs.length a3, .slice A4 ss.length a4] := bt6.set_ 3 _
      have br8 := br7.far (p := ⟨w1.heap.size, 3, none⟩) (by simp; omega) (.slice A4 ss.length a4)
      have hO9 := hO8.setCell (p := ⟨w1.heap.size, 3, none⟩) (by simp; omega) (.slice A4 ss.length a4)
      have hph7 := hfar w4 3 (.slice A4 ss.length a4) hph6
      have hi7 := hi6.set_new hn3t (p := ⟨w1.heap.size, 3, none⟩) (by simp) (.slice A4 ss.length a4)
      have hj7 := hi4.set_new hn4t (p := ⟨w1.heap.size, 3, none⟩) (by simp) (.slice A4 ss.length a4)
      have r0 := br7.cell_ 0 _ rfl
      have r1 := br7.cell_ 1 _ rfl
      have r2 := br7.cell_ 2 _ rfl
      have r3 := br7.cell_ 3 _ rfl
      have g0 := br7.frozen 0
      have g1 := br7.frozen 1
      have g2 := br7.frozen 2
      have g3 := br7.frozen 3
      have t0 := bt6.cell_ 0 _ rfl
      have t1 := bt6.cell_ 1 _ rfl
      have t2 := bt6.cell_ 2 _ rfl
      have hO10 := Lib.hid hO9
      have hT := Lib.hid (TotR.mk hph7 hi7 hj7 : TotR (w4.setCell ⟨w1.heap.size, 3, none⟩ (.slice A4 ss.length a4)) A2 A3 A4 ⟨hexL, 2, bs, ss⟩)
      have hne : ¬ w1.heap.size = w.heap.size := by omega
      clear bt5 br6 hO7 hph5 hb4 hi4 hph6 hO8 bt6 br7 hn4 hi5 hi6 c2 f2 hph7 hi7 hj7 hO9 hfar
      cases ok1
      · go_wp2
        refine bodyPost_ret (v := .tuple #[.agg #[.slice none 0 0, .int .i64 0, .slice none 0 0, .slice none 0 0], .int .i64 15]) (by simp [results, Try.results13, go_sem, r0, r1, r2, r3, hne]) rfl ?_
        rw [show endP (bs, false) (ss, ok2) hexL = (zeroT, 15) from rfl]
        exact ⟨none, 0, none, 0, none, 0, rfl, TotR.zero _, below_set4 hO10.out (Nat.le_refl _) _ _ _ _⟩
      cases ok2
      · go_wp2
        refine bodyPost_ret (v := .tuple #[.agg #[.slice none 0 0, .int .i64 0, .slice none 0 0, .slice none 0 0], .int .i64 15]) (by simp [results, Try.results13, go_sem, r0, r1, r2, r3, hne]) rfl ?_
        rw [show endP (bs, true) (ss, false) hexL = (zeroT, 15) from rfl]
        exact ⟨none, 0, none, 0, none, 0, rfl, TotR.zero _, below_set4 hO10.out (Nat.le_refl _) _ _ _ _⟩
      go_wp2_with fail
      refine (right_any A2 A3 A4 a2 a3 a4 ⟨hexL, 2, bs, ss⟩ _ hT.out).mono ?_
      rintro e w5 ⟨rfl, hb5⟩
      have br9 := br8.below hb5 br8.lt
      have bt8 := bt7.below hb5 bt7.lt
      have hO11 := hO10.out.trans (hb5.mono hO10.out.size)
      have r0 := br9.cell_ 0 _ rfl
      have r1 := br9.cell_ 1 _ rfl
      have r2 := br9.cell_ 2 _ rfl
      have r3 := br9.cell_ 3 _ rfl
      have g0 := br9.frozen 0
      have g1 := br9.frozen 1
      have g2 := br9.frozen 2
      have g3 := br9.frozen 3
      have t0 := bt8.cell_ 0 _ rfl
      have t1 := bt8.cell_ 1 _ rfl
      have t2 := bt8.cell_ 2 _ rfl
      have t3 := bt8.cell_ 3 _ rfl
      have hT2 := Lib.hid (hT.out.ext hb5)
      have hO12 := Lib.hid hO11
      clear hO11 hb5 hT br8 bt7
      cases k9 : rightT ⟨hexL, 2, bs, ss⟩
      · go_wp2
        refine bodyPost_ret (v := .tuple #[.agg #[.slice none 0 0, .int .i64 0, .slice none 0 0, .slice none 0 0], .int .i64 5]) (by simp [results, Try.results13, go_sem, r0, r1, r2, r3]) rfl ?_
        rw [show endP (bs, true) (ss, true) hexL = (zeroT, 5) from by simp only [endP, k9]; rfl]
        exact ⟨none, 0, none, 0, none, 0, rfl, TotR.zero _, below_set4 hO12.out (Nat.le_refl _) _ _ _ _⟩
      · go_wp2
        refine bodyPost_ret (v := .tuple #[.agg #[.slice A2 hexL.length a2, .int .i64 2, .slice A3 bs.length a3, .slice A4 ss.length a4], .int .i64 0]) (by simp [results, Try.results13, go_sem, r0, r1, r2, r3]) rfl ?_
        rw [show endP (bs, true) (ss, true) hexL = (⟨hexL, 2, bs, ss⟩, 0) from by simp only [endP, k9]; rfl]
        exact ⟨A2, a2, A3, a3, A4, a4, rfl, hT2.out.set4 hnh hn3r hn4r _ _ _ _, below_set4 hO12.out (Nat.le_refl _) _ _ _ _⟩
  · rw [k2] at C3
    have hcv : (cutV sv).length ≤ sv.length := trimSuffix_len _ _
    generalize cutV sv = sw at *
    simp only [if_true]
    have C5 := fun w => digitsL_any sw w (by omega) (by omega)
    generalize digL sw = ds at *
    obtain ⟨ss, ok2⟩ := ds
    dsimp only at *
    have H2 := Lib.hid (And.intro C3 (And.intro C4 C5))
    clear C3 C4 C5
    go_enter Try.func13, Try.ntmps13
    go_wp2_with fail
    refine (H.out.1 _).mono ?_
    rintro e w1 ⟨rfl, rfl⟩
    go_wp2_with fail
    refine (H.out.2 _ hg0 (by omega)).mono ?_
    rintro e w1 ⟨rfl, q1, rfl⟩
    have hO1 := below_drewN hO q1
    have br0 : Blk ((w.alloc (.cells #[.slice none 0 0, .int .i64 0, .slice none 0 0, .slice none 0 0] 25)).drewN q1) w.heap.size 25 #[.slice none 0 0, .int .i64 0, .slice none 0 0, .slice none 0 0] := (Blk.new w 25 #[.slice none 0 0, .int .i64 0, .slice none 0 0, .slice none 0 0]).drewN q1
    go_wp2_with fail
    refine (moore_one _).mono ?_
    rintro e w1 ⟨A1, a1, rfl, hp1, hn1, hb1⟩
    have hO2 := hO1.trans (hb1.mono hO1.size)
    have br1 := br0.below hb1 br0.lt
    have hlt1 := br1.lt
    have hn1' : NewA (w.heap.size + 1) A1 := hn1.mono (by simp)
    clear br0 hn1
    have bt1 : Blk (w1.alloc (.cells #[.slice A1 (mooreL 1).length a1, .int .i64 2, .slice none 0 0, .slice none 0 0] 25)) w1.heap.size 25 #[.slice A1 (mooreL 1).length a1, .int .i64 2, .slice none 0 0, .slice none 0 0] := Blk.new _ _ _
    have br2 := br1.alloc (.cells #[.slice A1 (mooreL 1).length a1, .int .i64 2, .slice none 0 0, .slice none 0 0] 25)
    have hO3 := hO2.alloc hO2.size (.cells #[.slice A1 (mooreL 1).length a1, .int .i64 2, .slice none 0 0, .slice none 0 0] 25)
    have hp1' := hp1.ext ((Below.refl _ _).alloc (Nat.le_refl _) (.cells #[.slice A1 (mooreL 1).length a1, .int .i64 2, .slice none 0 0, .slice none 0 0] 25))
    go_wp2_with fail
    refine (H2.out.1 _ (by omega)).mono ?_
    rintro e w2 ⟨rfl, rfl⟩
    go_wp2_with fail
    refine (neum_one _).mono ?_
    rintro e w2 ⟨A2, a2, rfl, hp2, hn2, hb2⟩
    have bt2 := bt1.below hb2 bt1.lt
    have br3 := br2.below hb2 br2.lt
    have hO4 := hO3.trans (hb2.mono hO3.size)
    have c0 := bt2.cell_ 0 _ rfl
    have f0 := bt2.frozen 0
    have hn2t : NewA (w1.heap.size + 1) A2 := hn2.mono (by simp)
    have hnh : NewA (w.heap.size + 1) A2 := hn2.mono (by simp; omega)
    have bt3 : Blk (w2.setCell ⟨w1.heap.size, 0, none⟩ (.slice A2 (neumL 1).length a2)) w1.heap.size 25 #[.slice A2 (neumL 1).length a2, .int .i64 2, .slice none 0 0, .slice none 0 0] := bt2.set_ 0 _
    have br4 := br3.far (p := ⟨w1.heap.size, 0, none⟩) (by simp; omega) (.slice A2 (neumL 1).length a2)
    have hO5 := hO4.setCell (p := ⟨w1.heap.size, 0, none⟩) (by simp; omega) (.slice A2 (neumL 1).length a2)
    have hfar : ∀ (W : World) (i : Nat) (u : Value), Pts W A2 (neumL 1) → Pts (W.setCell ⟨w1.heap.size, i, none⟩ u) A2 (neumL 1) := fun W i u h => h.set_new hn2t (by simp) u
    have hph := hfar w2 0 (.slice A2 (neumL 1).length a2) hp2
    clear bt1 br1 br2 hb2 hO2 hO3 hn1' hp1' hp1 hn2 hn2t hb1 hO1 hp2 hO4 bt2 br3
    go_wp2_with fail
    refine (H2.out.2.1 _).mono ?_
    rintro e w3 ⟨A3, a3, rfl, hi3, hn3, hb3⟩
    have bt4 := bt3.below hb3 bt3.lt
    have br5 := br4.below hb3 br4.lt
    have hO6 := hO5.trans (hb3.mono hO5.size)
    have hph4 := hph.ext hb3
    have hn3t : NewA (w1.heap.size + 1) A3 := hn3.mono (Nat.succ_le_of_lt bt3.lt)
    have hn3r : NewA (w.heap.size + 1) A3 := hn3.mono (Nat.succ_le_of_lt br4.lt)
    have c2 := bt4.cell_ 2 _ rfl
    have f2 := bt4.frozen 2
    have bt5 : Blk (w3.setCell ⟨w1.heap.size, 2, none⟩ (.slice A3 bs.length a3)) w1.heap.size 25 #[.slice A2 (neumL 1).length a2, .int .i64 2, .slice A3 bs.length a3, .slice none 0 0] := bt4.set_ 2 _
    have br6 := br5.far (p := ⟨w1.heap.size, 2, none⟩) (by simp; omega) (.slice A3 bs.length a3)
    have hO7 := hO6.setCell (p := ⟨w1.heap.size, 2, none⟩) (by simp; omega) (.slice A3 bs.length a3)
    have hph5 := hfar w3 2 (.slice A3 bs.length a3) hph4
    have hi5 := hi3.set_new hn3t (p := ⟨w1.heap.size, 2, none⟩) (by simp) (.slice A3 bs.length a3)
    clear bt3 br4 hO5 hph hb3 hi3 hph4 hO6 bt4 br5 hn3
    go_wp2_with fail
    refine (H2.out.2.2 _).mono ?_
    rintro e w4 ⟨A4, a4, rfl, hi4, hn4, hb4⟩
    have bt6 := bt5.below hb4 bt5.lt
    have br7 := br6.below hb4 br6.lt
    have hO8 := hO7.trans (hb4.mono hO7.size)
    have hph6 := hph5.ext hb4
    have hi6 := hi5.ext hb4
    have hn4t : NewA (w1.heap.size + 1) A4 := hn4.mono (Nat.succ_le_of_lt bt5.lt)
    have hn4r : NewA (w.heap.size + 1) A4 := hn4.mono (Nat.succ_le_of_lt br6.lt)
    have c3 := bt6.cell_ 3 _ rfl
    have f3 := bt6.frozen 3
    have bt7 : Blk (w4.setCell ⟨w1.heap.size, 3, none⟩ (.slice A4 ss.length a4)) w1.heap.size 25 #[.slice A2 (neumL 1).length a2, .int .i64 2, .slice A3 bs.length a3, .slice A4 ss.length a4] := bt6.set_ 3 _
    have br8 := br7.far (p := ⟨w1.heap.size, 3, none⟩) (by simp; omega) (.slice A4 ss.length a4)
    have hO9 := hO8.setCell (p := ⟨w1.heap.size, 3, none⟩) (by simp; omega) (.slice A4 ss.length a4)
    have hph7 := hfar w4 3 (.slice A4 ss.length a4) hph6
    have hi7 := hi6.set_new hn3t (p := ⟨w1.heap.size, 3, none⟩) (by simp) (.slice A4 ss.length a4)
    have hj7 := hi4.set_new hn4t (p := ⟨w1.heap.size, 3, none⟩) (by simp) (.slice A4 ss.length a4)
    have r0 := br7.cell_ 0 _ rfl
    have r1 := br7.cell_ 1 _ rfl
    have r2 := br7.cell_ 2 _ rfl
    have r3 := br7.cell_ 3 _ rfl
    have g0 := br7.frozen 0
    have g1 := br7.frozen 1
    have g2 := br7.frozen 2
    have g3 := br7.frozen 3
    have t0 := bt6.cell_ 0 _ rfl
    have t1 := bt6.cell_ 1 _ rfl
    have t2 := bt6.cell_ 2 _ rfl
    have hO10 := Lib.hid hO9
    have hT := Lib.hid (TotR.mk hph7 hi7 hj7 : TotR (w4.setCell ⟨w1.heap.size, 3, none⟩ (.slice A4 ss.length a4)) A2 A3 A4 ⟨(neumL 1), 2, bs, ss⟩)
    have hne : ¬ w1.heap.size = w.heap.size := by omega
    clear bt5 br6 hO7 hph5 hb4 hi4 hph6 hO8 bt6 br7 hn4 hi5 hi6 c2 f2 hph7 hi7 hj7 hO9 hfar
    cases ok1
    · go_wp2
      refine bodyPost_ret (v := .tuple #[.agg #[.slice none 0 0, .int .i64 0, .slice none 0 0, .slice none 0 0], .int .i64 15]) (by simp [results, Try.results13, go_sem, r0, r1, r2, r3, hne]) rfl ?_
      rw [show endP (bs, false) (ss, ok2) (neumL 1) = (zeroT, 15) from rfl]
      exact ⟨none, 0, none, 0, none, 0, rfl, TotR.zero _, below_set4 hO10.out (Nat.le_refl _) _ _ _ _⟩
    cases ok2
    · go_wp2
      refine bodyPost_ret (v := .tuple #[.agg #[.slice none 0 0, .int .i64 0, .slice none 0 0, .slice none 0 0], .int .i64 15]) (by simp [results, Try.results13, go_sem, r0, r1, r2, r3, hne]) rfl ?_
      rw [show endP (bs, true) (ss, false) (neumL 1) = (zeroT, 15) from rfl]
      exact ⟨none, 0, none, 0, none, 0, rfl, TotR.zero _, below_set4 hO10.out (Nat.le_refl _) _ _ _ _⟩
    go_wp2_with fail
    refine (right_any A2 A3 A4 a2 a3 a4 ⟨(neumL 1), 2, bs, ss⟩ _ hT.out).mono ?_
    rintro e w5 ⟨rfl, hb5⟩
    have br9 := br8.below hb5 br8.lt
    have bt8 := bt7.below hb5 bt7.lt
    have hO11 := hO10.out.trans (hb5.mono hO10.out.size)
    have r0 := br9.cell_ 0 _ rfl
    have r1 := br9.cell_ 1 _ rfl
    have r2 := br9.cell_ 2 _ rfl
    have r3 := br9.cell_ 3 _ rfl
    have g0 := br9.frozen 0
    have g1 := br9.frozen 1
    have g2 := br9.frozen 2
    have g3 := br9.frozen 3
    have t0 := bt8.cell_ 0 _ rfl
    have t1 := bt8.cell_ 1 _ rfl
    have t2 := bt8.cell_ 2 _ rfl
    have t3 := bt8.cell_ 3 _ rfl
    have hT2 := Lib.hid (hT.out.ext hb5)
    have hO12 := Lib.hid hO11
    clear hO11 hb5 hT br8 bt7
    cases k9 : rightT ⟨(neumL 1), 2, bs, ss⟩
    · go_wp2
      refine bodyPost_ret (v := .tuple #[.agg #[.slice none 0 0, .int .i64 0, .slice none 0 0, .slice none 0 0], .int .i64 5]) (by simp [results, Try.results13, go_sem, r0, r1, r2, r3]) rfl ?_
      rw [show endP (bs, true) (ss, true) (neumL 1) = (zeroT, 5) from by simp only [endP, k9]; rfl]
      exact ⟨none, 0, none, 0, none, 0, rfl, TotR.zero _, below_set4 hO12.out (Nat.le_refl _) _ _ _ _⟩
    · go_wp2
      refine bodyPost_ret (v := .tuple #[.agg #[.slice A2 (neumL 1).length a2, .int .i64 2, .slice A3 bs.length a3, .slice A4 ss.length a4], .int .i64 0]) (by simp [results, Try.results13, go_sem, r0, r1, r2, r3]) rfl ?_
      rw [show endP (bs, true) (ss, true) (neumL 1) = (⟨(neumL 1), 2, bs, ss⟩, 0) from by simp only [endP, k9]; rfl]
      exact ⟨A2, a2, A3, a3, A4, a4, rfl, hT2.out.set4 hnh hn3r hn4r _ _ _ _, below_set4 hO12.out (Nat.le_refl _) _ _ _ _⟩
end Go.Proofs.Ytnobnlbjgaanmaa
