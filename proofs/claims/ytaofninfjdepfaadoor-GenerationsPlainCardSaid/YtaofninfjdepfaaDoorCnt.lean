/-
  cellularref09.counts: birth and survival in either form, and the index of the number of states. At most 2^31 bytes.
-/
import Derived.Test.YtaofninfjdepfaaDoorNumR
namespace Go.Proofs.YtaofninfjdepfaaDoor
open Go.RowKit
set_option maxRecDepth 100000
set_option linter.unusedVariables false
set_option linter.unusedSimpArgs false

def digAt (l : List UInt8) (p : Int) : List Int := digAsc (-1) (l.drop p.toNat)
def endAt (l : List UInt8) (p : Int) : Int := p + (digAt l p).length
/-- birth, survival, the index -/
def cntR (l : List UInt8) : List Int × List Int × Int :=
  if afterL l 0 [66] < 0 then
    if afterL l (endAt l 0) [47] < 0 then ([], [], -1)
    else (digAt l (afterL l (endAt l 0) [47]), digAt l 0, afterL l (endAt l (afterL l (endAt l 0) [47])) [47])
  else
    if afterL l (endAt l (afterL l 0 [66])) [47, 83] < 0 then ([], [], -1)
    else (digAt l (afterL l 0 [66]), digAt l (afterL l (endAt l (afterL l 0 [66])) [47, 83]), afterL l (endAt l (afterL l (endAt l (afterL l 0 [66])) [47, 83])) [47, 67])
def RetCnt (r : List Int × List Int × Int) (w : World) (e : Ending) (w' : World) : Prop :=
  ∃ A a B b, e = .returned (.tuple #[.slice A r.1.length a, .slice B r.2.1.length b, .int .i64 r.2.2]) ∧ Ints w' A r.1 ∧ Ints w' B r.2.1 ∧ NewA w.heap.size A ∧ NewA w.heap.size B ∧ Below w.heap.size w w'
theorem after_le {l t : List UInt8} {p : Int} (h : ¬ afterL l p t < 0) : 0 ≤ afterL l p t ∧ afterL l p t ≤ l.length ∧ 0 ≤ p := by
  unfold afterL at *
  split at h
  · rename_i hc
    rw [if_pos hc]
    omega
  · omega
theorem digAsc_le (l : List UInt8) : ∀ last, (digAsc last l).length ≤ l.length := by
  induction l with
  | nil => intro last; simp [digAsc]
  | cons c l ih =>
    intro last
    unfold digAsc
    split
    · have := ih (digOf c)
      simp; omega
    · simp
theorem endAt_le {l : List UInt8} {p : Int} (h0 : 0 ≤ p) (h1 : p ≤ l.length) : 0 ≤ endAt l p ∧ endAt l p ≤ l.length := by
  unfold endAt digAt
  have := digAsc_le (l.drop p.toNat) (-1)
  rw [List.length_drop] at this
  omega
theorem digitsAt_any (s : ByteArray) (p : Int) (w : World) (h0 : 0 ≤ p) (hp : p ≤ s.size) (hs : s.size ≤ 2147483648) :
    Calls Tryd.prog 62 #[.string s, .int .i64 p] w (RetIntsN (digAt s.data.toList p) (endAt s.data.toList p) w) := by
  have h := digitsR_any s p.toNat w (by omega) hs
  have e : ((p.toNat : Nat) : Int) = p := by omega
  rw [e] at h
  exact h
theorem results_tmp3 {fn : Func} {a b c : Tmp} (h : fn.results = #[.tmp a, .tmp b, .tmp c]) (tmps : Array Value) (w : World) {x y z : Value} (hx : tmps.getD a undef = x) (hy : tmps.getD b undef = y) (hz : tmps.getD c undef = z) :
    (results fn tmps).run Tryd.prog w = .ok (.tuple #[x, y, z]) w := by
  subst hx hy hz
  simp [results, h, go_sem]
set_option maxHeartbeats 2000000 in
theorem cntR_any (s : ByteArray) (w : World) (hs : s.size ≤ 2147483648) :
    Calls Tryd.prog 32 #[.string s] w (RetCnt (cntR s.data.toList) w) := by
  obtain ⟨l, hl⟩ : ∃ l, l = s.data.toList := ⟨_, rfl⟩
  have hlen : (l.length : Int) = s.size := by rw [hl]; rfl
  have K1 := Lib.hid (fun (p : Int) (W : World) (h0 : -10 ≤ p) (h1 : p ≤ s.size) => after_any s ⟨#[66]⟩ p W hs (by decide) (by omega) h0)
  have K2 := Lib.hid (fun (p : Int) (W : World) (h0 : -10 ≤ p) (h1 : p ≤ s.size) => after_any s ⟨#[47]⟩ p W hs (by decide) (by omega) h0)
  have K3 := Lib.hid (fun (p : Int) (W : World) (h0 : -10 ≤ p) (h1 : p ≤ s.size) => after_any s ⟨#[47, 83]⟩ p W hs (by decide) (by omega) h0)
  have K4 := Lib.hid (fun (p : Int) (W : World) (h0 : -10 ≤ p) (h1 : p ≤ s.size) => after_any s ⟨#[47, 67]⟩ p W hs (by decide) (by omega) h0)
  have KD := Lib.hid (fun (p : Int) (W : World) (h0 : 0 ≤ p) (h1 : p ≤ s.size) => digitsAt_any s p W h0 h1 hs)
  rw [show (ByteArray.mk #[66]).data.toList = [66] from rfl, ← hl] at K1
  rw [show (ByteArray.mk #[47]).data.toList = [47] from rfl, ← hl] at K2
  rw [show (ByteArray.mk #[47, 83]).data.toList = [47, 83] from rfl, ← hl] at K3
  rw [show (ByteArray.mk #[47, 67]).data.toList = [47, 67] from rfl, ← hl] at K4
  rw [← hl] at KD ⊢
  clear hl
  obtain ⟨p1, hp1⟩ : ∃ p1, afterL l 0 [66] = p1 := ⟨_, rfl⟩
  by_cases h1 : p1 < 0
  · have d1 : decide (p1 < 0) = true := decide_eq_true h1
    obtain ⟨ss, hss⟩ : ∃ x, digAt l 0 = x := ⟨_, rfl⟩
    obtain ⟨q1, hq1⟩ : ∃ x, endAt l 0 = x := ⟨_, rfl⟩
    obtain ⟨b0, b1⟩ := endAt_le (l := l) (p := 0) (by omega) (by omega)
    obtain ⟨p2, hp2⟩ : ∃ x, afterL l q1 [47] = x := ⟨_, rfl⟩
    rw [hq1] at b0 b1
    have C1 := Lib.hid (K1.out 0 w (by omega) (by omega))
    have C2 := Lib.hid (fun W => KD.out 0 W (by omega) (by omega))
    have C3 := Lib.hid (fun W => K2.out q1 W (by omega) (by omega))
    rw [hp1] at C1
    rw [hss, hq1] at C2
    rw [hp2] at C3
    by_cases h2 : p2 < 0
    · have d2 : decide (p2 < 0) = true := decide_eq_true h2
      have HN : Hid (cntR l = ([], [], -1)) := Lib.hid (by unfold cntR; rw [hp1, if_pos h1, hq1, hp2, if_pos h2])
      clear hp1 hss hq1 hp2
      go_enter Tryd.func32, Tryd.ntmps32
      go_wp2_with fail
      refine C1.out.mono ?_
      rintro e w1 ⟨rfl, hw⟩
      have hw2 := hw.symm
      clear hw
      subst hw2
      go_wp2_with fail
      refine (C2.out _).mono ?_
      rintro e w1 ⟨A1, a1, rfl, hi1, hn1, hb1⟩
      go_wp2_with fail
      refine (C3.out _).mono ?_
      rintro e w2 ⟨rfl, hw⟩
      have hw2 := hw.symm
      clear hw
      subst hw2
      go_wp2
      refine bodyPost_ret (results_tmp3 rfl _ _ rfl rfl rfl) rfl ?_
      rw [HN.out]
      exact ⟨none, 0, none, 0, rfl, Ints.nil, Ints.nil, NewA.none_ _, NewA.none_ _, hb1⟩
    · have d2 : decide (p2 < 0) = false := decide_eq_false h2
      have hpl := after_le (l := l) (t := [47]) (p := q1) (by rw [hp2]; exact h2)
      rw [hp2] at hpl
      obtain ⟨bs, hbs⟩ : ∃ x, digAt l p2 = x := ⟨_, rfl⟩
      obtain ⟨q2, hq2⟩ : ∃ x, endAt l p2 = x := ⟨_, rfl⟩
      obtain ⟨b2, b3⟩ := endAt_le (l := l) (p := p2) hpl.1 hpl.2.1
      rw [hq2] at b2 b3
      have C4 := Lib.hid (fun W => KD.out p2 W hpl.1 (by omega))
      have C5 := Lib.hid (fun W => K2.out q2 W (by omega) (by omega))
      rw [hbs, hq2] at C4
      have HN : Hid (cntR l = (bs, ss, afterL l q2 [47])) := Lib.hid (by unfold cntR; rw [hp1, if_pos h1, hq1, hp2, if_neg h2, hbs, hss, hq2])
      clear hp1 hss hq1 hp2 hbs hq2
      go_enter Tryd.func32, Tryd.ntmps32
      go_wp2_with fail
      refine C1.out.mono ?_
      rintro e w1 ⟨rfl, hw⟩
      have hw2 := hw.symm
      clear hw
      subst hw2
      go_wp2_with fail
      refine (C2.out _).mono ?_
      rintro e w1 ⟨A1, a1, rfl, hi1, hn1, hb1⟩
      go_wp2_with fail
      refine (C3.out _).mono ?_
      rintro e w2 ⟨rfl, hw⟩
      have hw2 := hw.symm
      clear hw
      subst hw2
      go_wp2_with fail
      refine (C4.out _).mono ?_
      rintro e w2 ⟨A2, a2, rfl, hi2, hn2, hb2⟩
      go_wp2_with fail
      refine (C5.out _).mono ?_
      rintro e w3 ⟨rfl, hw⟩
      have hw2 := hw.symm
      clear hw
      subst hw2
      go_wp2
      refine bodyPost_ret (results_tmp3 rfl _ _ rfl rfl rfl) rfl ?_
      rw [HN.out]
      exact ⟨A2, a2, A1, a1, rfl, hi2, hi1.ext hb2, hn2.mono hb1.size, hn1, hb1.trans (hb2.mono hb1.size)⟩
  · have d1 : decide (p1 < 0) = false := decide_eq_false h1
    have hpl1 := after_le (l := l) (t := [66]) (p := 0) (by rw [hp1]; exact h1)
    rw [hp1] at hpl1
    obtain ⟨bs, hbs⟩ : ∃ x, digAt l p1 = x := ⟨_, rfl⟩
    obtain ⟨q1, hq1⟩ : ∃ x, endAt l p1 = x := ⟨_, rfl⟩
    obtain ⟨b0, b1⟩ := endAt_le (l := l) (p := p1) hpl1.1 hpl1.2.1
    obtain ⟨p2, hp2⟩ : ∃ x, afterL l q1 [47, 83] = x := ⟨_, rfl⟩
    rw [hq1] at b0 b1
    have C1 := Lib.hid (K1.out 0 w (by omega) (by omega))
    have C2 := Lib.hid (fun W => KD.out p1 W hpl1.1 (by omega))
    have C3 := Lib.hid (fun W => K3.out q1 W (by omega) (by omega))
    rw [hp1] at C1
    rw [hbs, hq1] at C2
    rw [hp2] at C3
    by_cases h2 : p2 < 0
    · have d2 : decide (p2 < 0) = true := decide_eq_true h2
      have HN : Hid (cntR l = ([], [], -1)) := Lib.hid (by unfold cntR; rw [hp1, if_neg h1, hq1, hp2, if_pos h2])
      clear hp1 hbs hq1 hp2
      go_enter Tryd.func32, Tryd.ntmps32
      go_wp2_with fail
      refine C1.out.mono ?_
      rintro e w1 ⟨rfl, hw⟩
      have hw2 := hw.symm
      clear hw
      subst hw2
      go_wp2_with fail
      refine (C2.out _).mono ?_
      rintro e w1 ⟨A1, a1, rfl, hi1, hn1, hb1⟩
      go_wp2_with fail
      refine (C3.out _).mono ?_
      rintro e w2 ⟨rfl, hw⟩
      have hw2 := hw.symm
      clear hw
      subst hw2
      go_wp2
      refine bodyPost_ret (results_tmp3 rfl _ _ rfl rfl rfl) rfl ?_
      rw [HN.out]
      exact ⟨none, 0, none, 0, rfl, Ints.nil, Ints.nil, NewA.none_ _, NewA.none_ _, hb1⟩
    · have d2 : decide (p2 < 0) = false := decide_eq_false h2
      have hpl := after_le (l := l) (t := [47, 83]) (p := q1) (by rw [hp2]; exact h2)
      rw [hp2] at hpl
      obtain ⟨ss, hss⟩ : ∃ x, digAt l p2 = x := ⟨_, rfl⟩
      obtain ⟨q2, hq2⟩ : ∃ x, endAt l p2 = x := ⟨_, rfl⟩
      obtain ⟨b2, b3⟩ := endAt_le (l := l) (p := p2) hpl.1 hpl.2.1
      rw [hq2] at b2 b3
      have C4 := Lib.hid (fun W => KD.out p2 W hpl.1 (by omega))
      have C5 := Lib.hid (fun W => K4.out q2 W (by omega) (by omega))
      rw [hss, hq2] at C4
      have HN : Hid (cntR l = (bs, ss, afterL l q2 [47, 67])) := Lib.hid (by unfold cntR; rw [hp1, if_neg h1, hq1, hp2, if_neg h2, hbs, hss, hq2])
      clear hp1 hss hq1 hp2 hbs hq2
      go_enter Tryd.func32, Tryd.ntmps32
      go_wp2_with fail
      refine C1.out.mono ?_
      rintro e w1 ⟨rfl, hw⟩
      have hw2 := hw.symm
      clear hw
      subst hw2
      go_wp2_with fail
      refine (C2.out _).mono ?_
      rintro e w1 ⟨A1, a1, rfl, hi1, hn1, hb1⟩
      go_wp2_with fail
      refine (C3.out _).mono ?_
      rintro e w2 ⟨rfl, hw⟩
      have hw2 := hw.symm
      clear hw
      subst hw2
      go_wp2_with fail
      refine (C4.out _).mono ?_
      rintro e w2 ⟨A2, a2, rfl, hi2, hn2, hb2⟩
      go_wp2_with fail
      refine (C5.out _).mono ?_
      rintro e w3 ⟨rfl, hw⟩
      have hw2 := hw.symm
      clear hw
      subst hw2
      go_wp2
      refine bodyPost_ret (results_tmp3 rfl _ _ rfl rfl rfl) rfl ?_
      rw [HN.out]
      exact ⟨A1, a1, A2, a2, rfl, hi1.ext hb2, hi2, hn1, hn2.mono hb1.size, hb1.trans (hb2.mono hb1.size)⟩
end Go.Proofs.YtaofninfjdepfaaDoor
