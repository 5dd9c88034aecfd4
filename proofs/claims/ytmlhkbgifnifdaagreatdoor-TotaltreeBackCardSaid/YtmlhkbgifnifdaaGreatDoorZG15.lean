/-
  totaltree.build, with the steps of Sums. No condition but bounds, and that the steps do what is said of them.
  totaltree.build, with the steps of Totals. No condition but bounds, and that the steps do what is said of them.
  The new states of rules of rows: wolfram.Elementary, wolfram.Digits, the reference's. No condition but that numbers are those of Go.
-/
import Derived.Test.YtmlhkbgifnifdaaGreatDoorZBldS
import Derived.Test.YtmlhkbgifnifdaaGreatDoorZG9
import Derived.Test.YtmlhkbgifnifdaaGreatDoorZG14
import Derived.Test.YtmlhkbgifnifdaaGreatDoorZBldT
namespace Go.Proofs.YtmlhkbgifnifdaaGreatDoor
open Go.RowKit Go.Maps
set_option maxRecDepth 100000
set_option linter.unusedVariables false
set_option linter.unusedSimpArgs false

set_option maxHeartbeats 32000000 in
theorem buildS_any (Y : Sys Int) (R : Nat → Int → Prop) (hR : ∀ a s t, R a s → a < Y.L → t < Y.q → R (a + 1) (Y.step s a t)) (hF : ∀ s, R Y.L s → 0 ≤ Y.fin s ∧ Y.fin s < (Y.q : Int)) (hok : ∀ a s, R a s → plI.ok a s) (hL0 : 1 ≤ Y.L) (hL : Y.L ≤ 9) (hq1 : 1 ≤ Y.q) (hq8 : Y.q ≤ 8)
    (w : World) (pX : Nat) (s0 : Int) (hr : R 0 s0) (hA : Option Addr) (hc : Nat) (ps : List (Int × Int)) (hp : Pts w hA ps) (hpl : ps.length = Y.L) (hT : TabB w.heap.size w)
    (hstep : ∀ a s t W', R a s → a < Y.L → t < Y.q → Below w.heap.size w W' → Calls Tryz.prog 50 #[.int .i64 s, .int .i64 (a : Int), .int .i64 (t : Int)] W' fun e w' => e = .returned (.int .i64 (Y.step s a t)) ∧ Below W'.heap.size W' w')
    (hend : ∀ s W', R Y.L s → Below w.heap.size w W' → Calls Tryz.prog 51 #[.int .i64 s, .pointer (some ⟨pX, 0, none⟩)] W' fun e w' => e = .returned (.int .i64 (Y.fin s)) ∧ Below W'.heap.size W' w') :
    Calls Tryz.prog 45 #[.int .i64 (Y.q : Int), .slice hA ps.length hc, .int .i64 s0, .func (.func 50) #[] #[], .func (.func 51) #[] #[.pointer (some ⟨pX, 0, none⟩)]] w (RetBd (Y.q : Int) hA hc ps (bld Y Y.L s0 ([], [])).2.2 w) := by
  unfold RetBd
  rw [hpl]
  obtain ⟨ol, hol⟩ : ∃ ol : List Obj, ol = [.cells #[.int .i64 (Y.q : Int)] 3, .cells #[.slice hA Y.L hc] 22, .cells #[.func (.func 50) #[] #[]] 71, .cells #[.func (.func 51) #[] #[.pointer (some ⟨pX, 0, none⟩)]] 72, .cells #[.int .i64 0, .slice none 0 0, .slice none 0 0] 25, .cells #[.int .i64 (Y.q : Int), .slice hA Y.L hc, .slice none 0 0] 25, .map #[] 0, .cells #[.map (some (w.heap.size + 1 + 1 + 1 + 1 + 1 + 1))] 94, .map #[] 0, .cells #[.map (some (w.heap.size + 1 + 1 + 1 + 1 + 1 + 1 + 1 + 1))] 85, .cells #[.func (.func 74) #[] #[.pointer (some ⟨w.heap.size + 1, 0, none⟩), .pointer (some ⟨w.heap.size + 1 + 1 + 1, 0, none⟩), .pointer (some ⟨w.heap.size + 1 + 1 + 1 + 1 + 1 + 1 + 1, 0, none⟩), .pointer (some ⟨w.heap.size, 0, none⟩), .pointer (some ⟨w.heap.size + 1 + 1 + 1 + 1 + 1 + 1 + 1 + 1 + 1 + 1, 0, none⟩), .pointer (some ⟨w.heap.size + 1 + 1, 0, none⟩), .pointer (some ⟨w.heap.size + 1 + 1 + 1 + 1 + 1 + 1 + 1 + 1 + 1, 0, none⟩), .pointer (some ⟨w.heap.size + 1 + 1 + 1 + 1 + 1, 0, none⟩)]] 95] := ⟨_, rfl⟩
  obtain ⟨w1, hw1⟩ : ∃ w1, w1 = (((((((((((w.alloc (.cells #[.int .i64 (Y.q : Int)] 3)).alloc (.cells #[.slice hA Y.L hc] 22)).alloc (.cells #[.func (.func 50) #[] #[]] 71)).alloc (.cells #[.func (.func 51) #[] #[.pointer (some ⟨pX, 0, none⟩)]] 72)).alloc (.cells #[.int .i64 0, .slice none 0 0, .slice none 0 0] 25)).alloc (.cells #[.int .i64 (Y.q : Int), .slice hA Y.L hc, .slice none 0 0] 25)).alloc (.map #[] 0)).alloc (.cells #[.map (some (w.heap.size + 1 + 1 + 1 + 1 + 1 + 1))] 94)).alloc (.map #[] 0)).alloc (.cells #[.map (some (w.heap.size + 1 + 1 + 1 + 1 + 1 + 1 + 1 + 1))] 85)).alloc (.cells #[.func (.func 74) #[] #[.pointer (some ⟨w.heap.size + 1, 0, none⟩), .pointer (some ⟨w.heap.size + 1 + 1 + 1, 0, none⟩), .pointer (some ⟨w.heap.size + 1 + 1 + 1 + 1 + 1 + 1 + 1, 0, none⟩), .pointer (some ⟨w.heap.size, 0, none⟩), .pointer (some ⟨w.heap.size + 1 + 1 + 1 + 1 + 1 + 1 + 1 + 1 + 1 + 1, 0, none⟩), .pointer (some ⟨w.heap.size + 1 + 1, 0, none⟩), .pointer (some ⟨w.heap.size + 1 + 1 + 1 + 1 + 1 + 1 + 1 + 1 + 1, 0, none⟩), .pointer (some ⟨w.heap.size + 1 + 1 + 1 + 1 + 1, 0, none⟩)]] 95)) := ⟨_, rfl⟩
  have hal : w1 = alc w ol := by rw [hol]; exact hw1
  have hsz : w1.heap.size = w.heap.size + 11 := by rw [hal, alc_size, hol]; rfl
  have hb1 : Below w.heap.size w w1 := by rw [hal]; exact alc_below _ _
  obtain ⟨pQ, hpQ⟩ : ∃ p, p = w.heap.size := ⟨_, rfl⟩
  obtain ⟨pL, hpL⟩ : ∃ p, p = w.heap.size + 1 := ⟨_, rfl⟩
  obtain ⟨pF, hpF⟩ : ∃ p, p = w.heap.size + 1 + 1 := ⟨_, rfl⟩
  obtain ⟨pE, hpE⟩ : ∃ p, p = w.heap.size + 1 + 1 + 1 := ⟨_, rfl⟩
  obtain ⟨pR, hpR⟩ : ∃ p, p = w.heap.size + 1 + 1 + 1 + 1 := ⟨_, rfl⟩
  obtain ⟨pT, hpT⟩ : ∃ p, p = w.heap.size + 1 + 1 + 1 + 1 + 1 := ⟨_, rfl⟩
  obtain ⟨mS, hmS⟩ : ∃ p, p = w.heap.size + 1 + 1 + 1 + 1 + 1 + 1 := ⟨_, rfl⟩
  obtain ⟨pS, hpS⟩ : ∃ p, p = w.heap.size + 1 + 1 + 1 + 1 + 1 + 1 + 1 := ⟨_, rfl⟩
  obtain ⟨mI, hmI⟩ : ∃ p, p = w.heap.size + 1 + 1 + 1 + 1 + 1 + 1 + 1 + 1 := ⟨_, rfl⟩
  obtain ⟨pI, hpI⟩ : ∃ p, p = w.heap.size + 1 + 1 + 1 + 1 + 1 + 1 + 1 + 1 + 1 := ⟨_, rfl⟩
  obtain ⟨pV, hpV⟩ : ∃ p, p = w.heap.size + 1 + 1 + 1 + 1 + 1 + 1 + 1 + 1 + 1 + 1 := ⟨_, rfl⟩
  have bQ : Blk w1 pQ 3 #[.int .i64 (Y.q : Int)] := by rw [hal]; exact alc_blk (i := 0) (by omega) (by rw [hol]; rfl)
  have bL : Blk w1 pL 22 #[.slice hA Y.L hc] := by rw [hal]; exact alc_blk (i := 1) (by omega) (by rw [hol]; rfl)
  have bF : Blk w1 pF 71 #[.func (.func 50) #[] #[]] := by rw [hal]; exact alc_blk (i := 2) (by omega) (by rw [hol]; rfl)
  have bE : Blk w1 pE 72 #[.func (.func 51) #[] #[.pointer (some ⟨pX, 0, none⟩)]] := by rw [hal]; exact alc_blk (i := 3) (by omega) (by rw [hol]; rfl)
  have bR : Blk w1 pR 25 #[.int .i64 0, .slice none 0 0, .slice none 0 0] := by rw [hal]; exact alc_blk (i := 4) (by omega) (by rw [hol]; rfl)
  have bT : Blk w1 pT 25 #[.int .i64 (Y.q : Int), .slice hA Y.L hc, .slice none 0 0] := by rw [hal]; exact alc_blk (i := 5) (by omega) (by rw [hol]; rfl)
  have mS_ : w1.ownsMap Tryz.prog plI.tP (plainElem Tryz.prog 3) mS 0 (.map [] : DataW Unit) := by rw [hal]; exact alc_map (i := 6) (by omega) (by rw [hol]; rfl) _ _ _
  have bS : Blk w1 pS 94 #[.map (some mS)] := by rw [hal]; exact alc_blk (i := 7) (by omega) (by rw [hol, hmS]; rfl)
  have mI_ : MapA w1 mI 0 (.map []) := by rw [hal]; exact alc_map (i := 8) (by omega) (by rw [hol]; rfl) _ _ _
  have bI : Blk w1 pI 85 #[.map (some mI)] := by rw [hal]; exact alc_blk (i := 9) (by omega) (by rw [hol, hmI]; rfl)
  have bV : Blk w1 pV 95 #[.func (.func 74) #[] #[.pointer (some ⟨pL, 0, none⟩), .pointer (some ⟨pE, 0, none⟩), .pointer (some ⟨pS, 0, none⟩), .pointer (some ⟨pQ, 0, none⟩), .pointer (some ⟨pV, 0, none⟩), .pointer (some ⟨pF, 0, none⟩), .pointer (some ⟨pI, 0, none⟩), .pointer (some ⟨pT, 0, none⟩)]] := by rw [hal]; exact alc_blk (i := 10) (by omega) (by rw [hol, hpL, hpE, hpS, hpQ, hpV, hpF, hpI, hpT]; rfl)
  obtain ⟨C, hC⟩ : ∃ C : BC, C = ⟨w.heap.size, pT, pL, pE, pS, pQ, pV, pF, pI, mS, mI, (Y.q : Int), hA, Y.L, hc, 72, 71, 95, .func (.func 51) #[] #[.pointer (some ⟨pX, 0, none⟩)], .func (.func 50) #[] #[], .func (.func 74) #[] #[.pointer (some ⟨pL, 0, none⟩), .pointer (some ⟨pE, 0, none⟩), .pointer (some ⟨pS, 0, none⟩), .pointer (some ⟨pQ, 0, none⟩), .pointer (some ⟨pV, 0, none⟩), .pointer (some ⟨pF, 0, none⟩), .pointer (some ⟨pI, 0, none⟩), .pointer (some ⟨pT, 0, none⟩)]⟩ := ⟨_, rfl⟩
  have hk0 : BC0 plI.tM C w1 := by
    rw [hC]
    refine ⟨bL, bE, bS, bQ, bV, bF, bI, ?_, fun g hg => ?_, ?_, ?_⟩
    · dsimp only; omega
    · dsimp only at hg ⊢; omega
    · dsimp only; omega
    · dsimp only; omega
  have hW : BW plI C w1 (.slice none 0 0) [] (.map []) (.map []) ([], []) w1 := by
    refine ⟨hk0, Kept.refl _ _, ?_, OwnN.nil _ _ _ _, rfl, ?_, ?_, KnownK.nil _, KnownI.nil, fun g e => by simp [Value.ownBlock] at e⟩
    · rw [hC]; exact bT
    · rw [hC]; exact mS_
    · rw [hC]; exact mI_
  have hcap : cap Y.q Y.L ≤ 1000000000 := Nat.le_trans (cap_mono hq8 _ 9 hL) (by decide)
  have hvis := visitS_any Y R hR hF hok (by omega) hq1 hq8 C w1 pX (by rw [hC]) (by rw [hC]) (by rw [hC]) (by rw [hC]) (by rw [hC]) (by rw [hC]; exact hT.on hb1) (by rw [hC]; exact hb1.size)
    (fun a s t W' h1 h2 h3 hk => hstep a s t W' h1 h2 h3 (hb1.trans (hk.to_below hb1.size (fun g hg e => by rw [hC] at e; dsimp only at e; omega))))
    (fun s W' h1 hk => hend s W' h1 (hb1.trans (hk.to_below hb1.size (fun g hg e => by rw [hC] at e; dsimp only at e; omega))))
    Y.L 0 s0 ([], []) (.slice none 0 0) [] (.map []) (.map []) w1 (by omega) hr (BI.nil Y) hW (by simpa using hcap) (by simpa using hcap)
  rw [hC] at hvis
  dsimp only at hvis
  rw [← hC, show ((0 : Nat) : Int) = 0 from rfl] at hvis
  have HVIS := Lib.hid hvis
  have HW := Lib.hid hW
  have HC := Lib.hid hC
  have HB1 := Lib.hid hb1
  have HP := Lib.hid hp
  have HPL := Lib.hid hpl
  have HRC := Lib.hid bR
  have HNE : Hid (¬ BT C (.slice none 0 0) pR ∧ w.heap.size ≤ pR) := Lib.hid (by
    rw [hC]
    refine ⟨?_, by omega⟩
    rintro (e | e | e | e)
    · dsimp only at e; omega
    · dsimp only at e; omega
    · dsimp only at e; omega
    · simp [Value.ownBlock] at e)
  have HQ8 := Lib.hid hq8
  have hcV := bV.cell_ 0 _ rfl

  have hmm := @run_makeMap Tryz.prog
  clear hal hsz hb1 hol hR hF hok hL0 hL hq1 hq8 hr hp hpl hT hstep hend hk0 hW hcap hvis hC bQ bL bF bE bR bT bS bI bV mS_ mI_ ol
  go_enter Tryz.func45, Tryz.ntmps45
  go_upto_region 6 with fail
  rw [← hw1, ← hpV, ← hpI, ← hmI, ← hpS, ← hmS, ← hpT, ← hpR, ← hpE, ← hpF, ← hpL, ← hpQ]
  clear hw1 hpQ hpL hpF hpE hpR hpT hmS hpS hmI hpI hpV hmm
  go_wp2_with (go_at_call 74; refine HVIS.out.mono ?_; intro e w5 hx9; obtain ⟨ov, os, DS, DI, rfl, hbv⟩ := hx9; have HBV := Lib.hid hbv; clear hbv; refine Hid.out ?_)
  refine Lib.hid ?_
  clear HVIS hcV
  obtain ⟨oA, oc, eov, hnd, -⟩ := HBV.out.wk.out.nds
  subst eov
  have bT5 := HBV.out.wk.bT
  rw [HC.out] at bT5
  dsimp only at bT5
  have bR5 := HBV.out.kp.blk HRC.out HNE.out.1
  have HB5 : Hid (Below w.heap.size w1 w5) := Lib.hid (by have := HW.out.below HBV.out.kp; rw [HC.out] at this; exact this)
  have c0 := bT5.cell_ 0 (.int .i64 (Y.q : Int)) rfl
  have c1 := bT5.cell_ 1 (.slice hA Y.L hc) rfl
  have c2 := bT5.cell_ 2 (.slice oA os.length oc) rfl
  have d0 := bR5.cell_ 0 (.int .i64 0) rfl
  have d1 := bR5.cell_ 1 (.slice none 0 0) rfl
  have d2 := bR5.cell_ 2 (.slice none 0 0) rfl
  have f0 := bR5.frozen 0
  have f1 := bR5.frozen 1
  have f2 := bR5.frozen 2
  have HR5 := Lib.hid bR5
  clear bT5 bR5 hnd
  go_wp2
  have hk3 : Kept (fun g => g = pR) w5 (((w5.setCell ⟨pR, 0, none⟩ (.int .i64 (Y.q : Int))).setCell ⟨pR, 1, none⟩ (.slice hA Y.L hc)).setCell ⟨pR, 2, none⟩ (.slice oA os.length oc)) := (((Kept.refl (fun g => g = pR) w5).setCell (p := ⟨pR, 0, none⟩) (Or.inl rfl) _).setCell (p := ⟨pR, 1, none⟩) (Or.inl rfl) _).setCell (p := ⟨pR, 2, none⟩) (Or.inl rfl) _
  have hneR : (Value.slice oA os.length oc).ownBlock ≠ some pR := fun e => by
    have h1 := HBV.out.wk.nvB pR e
    have h2 := HRC.out.lt
    omega
  have hno := HBV.out.wk.out.kept hk3 (fun g e1 e2 => by subst e2; exact hneR e1) (fun y hy g e1 e2 => by subst e2; exact own_blk_ne' (HBV.out.wk.out.2 y hy) HR5.out (by decide) e1)
  have hbf : Below w.heap.size w (((w5.setCell ⟨pR, 0, none⟩ (.int .i64 (Y.q : Int))).setCell ⟨pR, 1, none⟩ (.slice hA Y.L hc)).setCell ⟨pR, 2, none⟩ (.slice oA os.length oc)) := (HB1.out.trans HB5.out).trans (hk3.to_below (by have := HB1.out.size; have := HB5.out.size; omega) (fun g hg e => by have := HNE.out.2; omega))
  have hq : Blk (((w5.setCell ⟨pR, 0, none⟩ (.int .i64 (Y.q : Int))).setCell ⟨pR, 1, none⟩ (.slice hA Y.L hc)).setCell ⟨pR, 2, none⟩ (.slice oA os.length oc)) pR 25 #[.int .i64 (Y.q : Int), .slice hA Y.L hc, .slice oA os.length oc] := ((HR5.out.set_ 0 (.int .i64 (Y.q : Int))).set_ 1 (.slice hA Y.L hc)).set_ 2 (.slice oA os.length oc)
  exact bodyPost_ret (results_cell_row Tryz.results45 _ _ pR 25 #[.int .i64 (Y.q : Int), .slice hA Y.L hc, .slice oA os.length oc] (0, 0) _ rfl hq Tryz.underlying25 rfl Tryz.sizeTree) rfl
    ⟨oA, oc, os, rfl, by rw [HC.out] at hno; exact hno, HBV.out.wk.eq, hbf⟩
end Go.Proofs.YtmlhkbgifnifdaaGreatDoor
namespace Go.Proofs.YtmlhkbgifnifdaaGreatDoor
open Go.RowKit Go.Maps
set_option maxRecDepth 100000
set_option linter.unusedVariables false
set_option linter.unusedSimpArgs false

set_option maxHeartbeats 32000000 in
theorem buildT_any (Y : Sys (Int × Int)) (R : Nat → (Int × Int) → Prop) (hR : ∀ a s t, R a s → a < Y.L → t < Y.q → R (a + 1) (Y.step s a t)) (hF : ∀ s, R Y.L s → 0 ≤ Y.fin s ∧ Y.fin s < (Y.q : Int)) (hok : ∀ a s, R a s → plP.ok a s) (hL0 : 1 ≤ Y.L) (hL : Y.L ≤ 9) (hq1 : 1 ≤ Y.q) (hq8 : Y.q ≤ 8)
    (w : World) (pC : Nat) (pX : Nat) (s0 : (Int × Int)) (hr : R 0 s0) (hA : Option Addr) (hc : Nat) (ps : List (Int × Int)) (hp : Pts w hA ps) (hpl : ps.length = Y.L) (hT : TabB w.heap.size w)
    (hstep : ∀ a s t W', R a s → a < Y.L → t < Y.q → Below w.heap.size w W' → Calls Tryz.prog 35 #[.agg #[.int .i64 s.1, .int .i64 s.2], .int .i64 (a : Int), .int .i64 (t : Int), .pointer (some ⟨pC, 0, none⟩)] W' fun e w' => e = .returned (.agg #[.int .i64 (Y.step s a t).1, .int .i64 (Y.step s a t).2]) ∧ Below W'.heap.size W' w')
    (hend : ∀ s W', R Y.L s → Below w.heap.size w W' → Calls Tryz.prog 36 #[.agg #[.int .i64 s.1, .int .i64 s.2], .pointer (some ⟨pX, 0, none⟩)] W' fun e w' => e = .returned (.int .i64 (Y.fin s)) ∧ Below W'.heap.size W' w') :
    Calls Tryz.prog 38 #[.int .i64 (Y.q : Int), .slice hA ps.length hc, .agg #[.int .i64 s0.1, .int .i64 s0.2], .func (.func 35) #[] #[.pointer (some ⟨pC, 0, none⟩)], .func (.func 36) #[] #[.pointer (some ⟨pX, 0, none⟩)]] w (RetBd (Y.q : Int) hA hc ps (bld Y Y.L s0 ([], [])).2.2 w) := by
  unfold RetBd
  rw [hpl]
  obtain ⟨ol, hol⟩ : ∃ ol : List Obj, ol = [.cells #[.int .i64 (Y.q : Int)] 3, .cells #[.slice hA Y.L hc] 22, .cells #[.int .i64 s0.1, .int .i64 s0.2] 59, .cells #[.func (.func 35) #[] #[.pointer (some ⟨pC, 0, none⟩)]] 60, .cells #[.func (.func 36) #[] #[.pointer (some ⟨pX, 0, none⟩)]] 61, .cells #[.int .i64 0, .slice none 0 0, .slice none 0 0] 25, .cells #[.int .i64 (Y.q : Int), .slice hA Y.L hc, .slice none 0 0] 25, .map #[] 0, .cells #[.map (some (w.heap.size + 1 + 1 + 1 + 1 + 1 + 1 + 1))] 84, .map #[] 0, .cells #[.map (some (w.heap.size + 1 + 1 + 1 + 1 + 1 + 1 + 1 + 1 + 1))] 85, .cells #[.func (.func 69) #[] #[.pointer (some ⟨w.heap.size + 1, 0, none⟩), .pointer (some ⟨w.heap.size + 1 + 1 + 1 + 1, 0, none⟩), .pointer (some ⟨w.heap.size + 1 + 1 + 1 + 1 + 1 + 1 + 1 + 1, 0, none⟩), .pointer (some ⟨w.heap.size, 0, none⟩), .pointer (some ⟨w.heap.size + 1 + 1 + 1 + 1 + 1 + 1 + 1 + 1 + 1 + 1 + 1, 0, none⟩), .pointer (some ⟨w.heap.size + 1 + 1 + 1, 0, none⟩), .pointer (some ⟨w.heap.size + 1 + 1 + 1 + 1 + 1 + 1 + 1 + 1 + 1 + 1, 0, none⟩), .pointer (some ⟨w.heap.size + 1 + 1 + 1 + 1 + 1 + 1, 0, none⟩)]] 86] := ⟨_, rfl⟩
  obtain ⟨w1, hw1⟩ : ∃ w1, w1 = ((((((((((((w.alloc (.cells #[.int .i64 (Y.q : Int)] 3)).alloc (.cells #[.slice hA Y.L hc] 22)).alloc (.cells #[.int .i64 s0.1, .int .i64 s0.2] 59)).alloc (.cells #[.func (.func 35) #[] #[.pointer (some ⟨pC, 0, none⟩)]] 60)).alloc (.cells #[.func (.func 36) #[] #[.pointer (some ⟨pX, 0, none⟩)]] 61)).alloc (.cells #[.int .i64 0, .slice none 0 0, .slice none 0 0] 25)).alloc (.cells #[.int .i64 (Y.q : Int), .slice hA Y.L hc, .slice none 0 0] 25)).alloc (.map #[] 0)).alloc (.cells #[.map (some (w.heap.size + 1 + 1 + 1 + 1 + 1 + 1 + 1))] 84)).alloc (.map #[] 0)).alloc (.cells #[.map (some (w.heap.size + 1 + 1 + 1 + 1 + 1 + 1 + 1 + 1 + 1))] 85)).alloc (.cells #[.func (.func 69) #[] #[.pointer (some ⟨w.heap.size + 1, 0, none⟩), .pointer (some ⟨w.heap.size + 1 + 1 + 1 + 1, 0, none⟩), .pointer (some ⟨w.heap.size + 1 + 1 + 1 + 1 + 1 + 1 + 1 + 1, 0, none⟩), .pointer (some ⟨w.heap.size, 0, none⟩), .pointer (some ⟨w.heap.size + 1 + 1 + 1 + 1 + 1 + 1 + 1 + 1 + 1 + 1 + 1, 0, none⟩), .pointer (some ⟨w.heap.size + 1 + 1 + 1, 0, none⟩), .pointer (some ⟨w.heap.size + 1 + 1 + 1 + 1 + 1 + 1 + 1 + 1 + 1 + 1, 0, none⟩), .pointer (some ⟨w.heap.size + 1 + 1 + 1 + 1 + 1 + 1, 0, none⟩)]] 86)) := ⟨_, rfl⟩
  have hal : w1 = alc w ol := by rw [hol]; exact hw1
  have hsz : w1.heap.size = w.heap.size + 12 := by rw [hal, alc_size, hol]; rfl
  have hb1 : Below w.heap.size w w1 := by rw [hal]; exact alc_below _ _
  obtain ⟨pQ, hpQ⟩ : ∃ p, p = w.heap.size := ⟨_, rfl⟩
  obtain ⟨pL, hpL⟩ : ∃ p, p = w.heap.size + 1 := ⟨_, rfl⟩
  obtain ⟨pS0, hpS0⟩ : ∃ p, p = w.heap.size + 1 + 1 := ⟨_, rfl⟩
  obtain ⟨pF, hpF⟩ : ∃ p, p = w.heap.size + 1 + 1 + 1 := ⟨_, rfl⟩
  obtain ⟨pE, hpE⟩ : ∃ p, p = w.heap.size + 1 + 1 + 1 + 1 := ⟨_, rfl⟩
  obtain ⟨pR, hpR⟩ : ∃ p, p = w.heap.size + 1 + 1 + 1 + 1 + 1 := ⟨_, rfl⟩
  obtain ⟨pT, hpT⟩ : ∃ p, p = w.heap.size + 1 + 1 + 1 + 1 + 1 + 1 := ⟨_, rfl⟩
  obtain ⟨mS, hmS⟩ : ∃ p, p = w.heap.size + 1 + 1 + 1 + 1 + 1 + 1 + 1 := ⟨_, rfl⟩
  obtain ⟨pS, hpS⟩ : ∃ p, p = w.heap.size + 1 + 1 + 1 + 1 + 1 + 1 + 1 + 1 := ⟨_, rfl⟩
  obtain ⟨mI, hmI⟩ : ∃ p, p = w.heap.size + 1 + 1 + 1 + 1 + 1 + 1 + 1 + 1 + 1 := ⟨_, rfl⟩
  obtain ⟨pI, hpI⟩ : ∃ p, p = w.heap.size + 1 + 1 + 1 + 1 + 1 + 1 + 1 + 1 + 1 + 1 := ⟨_, rfl⟩
  obtain ⟨pV, hpV⟩ : ∃ p, p = w.heap.size + 1 + 1 + 1 + 1 + 1 + 1 + 1 + 1 + 1 + 1 + 1 := ⟨_, rfl⟩
  have bQ : Blk w1 pQ 3 #[.int .i64 (Y.q : Int)] := by rw [hal]; exact alc_blk (i := 0) (by omega) (by rw [hol]; rfl)
  have bL : Blk w1 pL 22 #[.slice hA Y.L hc] := by rw [hal]; exact alc_blk (i := 1) (by omega) (by rw [hol]; rfl)
  have bS0 : Blk w1 pS0 59 #[.int .i64 s0.1, .int .i64 s0.2] := by rw [hal]; exact alc_blk (i := 2) (by omega) (by rw [hol]; rfl)
  have bF : Blk w1 pF 60 #[.func (.func 35) #[] #[.pointer (some ⟨pC, 0, none⟩)]] := by rw [hal]; exact alc_blk (i := 3) (by omega) (by rw [hol]; rfl)
  have bE : Blk w1 pE 61 #[.func (.func 36) #[] #[.pointer (some ⟨pX, 0, none⟩)]] := by rw [hal]; exact alc_blk (i := 4) (by omega) (by rw [hol]; rfl)
  have bR : Blk w1 pR 25 #[.int .i64 0, .slice none 0 0, .slice none 0 0] := by rw [hal]; exact alc_blk (i := 5) (by omega) (by rw [hol]; rfl)
  have bT : Blk w1 pT 25 #[.int .i64 (Y.q : Int), .slice hA Y.L hc, .slice none 0 0] := by rw [hal]; exact alc_blk (i := 6) (by omega) (by rw [hol]; rfl)
  have mS_ : w1.ownsMap Tryz.prog plP.tP (plainElem Tryz.prog 3) mS 0 (.map [] : DataW Unit) := by rw [hal]; exact alc_map (i := 7) (by omega) (by rw [hol]; rfl) _ _ _
  have bS : Blk w1 pS 84 #[.map (some mS)] := by rw [hal]; exact alc_blk (i := 8) (by omega) (by rw [hol, hmS]; rfl)
  have mI_ : MapA w1 mI 0 (.map []) := by rw [hal]; exact alc_map (i := 9) (by omega) (by rw [hol]; rfl) _ _ _
  have bI : Blk w1 pI 85 #[.map (some mI)] := by rw [hal]; exact alc_blk (i := 10) (by omega) (by rw [hol, hmI]; rfl)
  have bV : Blk w1 pV 86 #[.func (.func 69) #[] #[.pointer (some ⟨pL, 0, none⟩), .pointer (some ⟨pE, 0, none⟩), .pointer (some ⟨pS, 0, none⟩), .pointer (some ⟨pQ, 0, none⟩), .pointer (some ⟨pV, 0, none⟩), .pointer (some ⟨pF, 0, none⟩), .pointer (some ⟨pI, 0, none⟩), .pointer (some ⟨pT, 0, none⟩)]] := by rw [hal]; exact alc_blk (i := 11) (by omega) (by rw [hol, hpL, hpE, hpS, hpQ, hpV, hpF, hpI, hpT]; rfl)
  obtain ⟨C, hC⟩ : ∃ C : BC, C = ⟨w.heap.size, pT, pL, pE, pS, pQ, pV, pF, pI, mS, mI, (Y.q : Int), hA, Y.L, hc, 61, 60, 86, .func (.func 36) #[] #[.pointer (some ⟨pX, 0, none⟩)], .func (.func 35) #[] #[.pointer (some ⟨pC, 0, none⟩)], .func (.func 69) #[] #[.pointer (some ⟨pL, 0, none⟩), .pointer (some ⟨pE, 0, none⟩), .pointer (some ⟨pS, 0, none⟩), .pointer (some ⟨pQ, 0, none⟩), .pointer (some ⟨pV, 0, none⟩), .pointer (some ⟨pF, 0, none⟩), .pointer (some ⟨pI, 0, none⟩), .pointer (some ⟨pT, 0, none⟩)]⟩ := ⟨_, rfl⟩
  have hk0 : BC0 plP.tM C w1 := by
    rw [hC]
    refine ⟨bL, bE, bS, bQ, bV, bF, bI, ?_, fun g hg => ?_, ?_, ?_⟩
    · dsimp only; omega
    · dsimp only at hg ⊢; omega
    · dsimp only; omega
    · dsimp only; omega
  have hW : BW plP C w1 (.slice none 0 0) [] (.map []) (.map []) ([], []) w1 := by
    refine ⟨hk0, Kept.refl _ _, ?_, OwnN.nil _ _ _ _, rfl, ?_, ?_, KnownK.nil _, KnownI.nil, fun g e => by simp [Value.ownBlock] at e⟩
    · rw [hC]; exact bT
    · rw [hC]; exact mS_
    · rw [hC]; exact mI_
  have hcap : cap Y.q Y.L ≤ 1000000000 := Nat.le_trans (cap_mono hq8 _ 9 hL) (by decide)
  have hvis := visitT_any Y R hR hF hok (by omega) hq1 hq8 C w1 pC pX (by rw [hC]) (by rw [hC]) (by rw [hC]) (by rw [hC]) (by rw [hC]) (by rw [hC]; exact hT.on hb1) (by rw [hC]; exact hb1.size)
    (fun a s t W' h1 h2 h3 hk => hstep a s t W' h1 h2 h3 (hb1.trans (hk.to_below hb1.size (fun g hg e => by rw [hC] at e; dsimp only at e; omega))))
    (fun s W' h1 hk => hend s W' h1 (hb1.trans (hk.to_below hb1.size (fun g hg e => by rw [hC] at e; dsimp only at e; omega))))
    Y.L 0 s0 ([], []) (.slice none 0 0) [] (.map []) (.map []) w1 (by omega) hr (BI.nil Y) hW (by simpa using hcap) (by simpa using hcap)
  rw [hC] at hvis
  dsimp only at hvis
  rw [← hC, show ((0 : Nat) : Int) = 0 from rfl] at hvis
  have HVIS := Lib.hid hvis
  have HW := Lib.hid hW
  have HC := Lib.hid hC
  have HB1 := Lib.hid hb1
  have HP := Lib.hid hp
  have HPL := Lib.hid hpl
  have HRC := Lib.hid bR
  have HNE : Hid (¬ BT C (.slice none 0 0) pR ∧ w.heap.size ≤ pR) := Lib.hid (by
    rw [hC]
    refine ⟨?_, by omega⟩
    rintro (e | e | e | e)
    · dsimp only at e; omega
    · dsimp only at e; omega
    · dsimp only at e; omega
    · simp [Value.ownBlock] at e)
  have HQ8 := Lib.hid hq8
  have hcV := bV.cell_ 0 _ rfl
  have hs00 := bS0.cell_ 0 (.int .i64 s0.1) rfl
  have hs01 := bS0.cell_ 1 (.int .i64 s0.2) rfl
  have hmm := @run_makeMap Tryz.prog
  clear hal hsz hb1 hol hR hF hok hL0 hL hq1 hq8 hr hp hpl hT hstep hend hk0 hW hcap hvis hC bQ bL bS0 bF bE bR bT bS bI bV mS_ mI_ ol
  go_enter Tryz.func38, Tryz.ntmps38
  go_upto_region 6 with fail
  rw [← hw1, ← hpV, ← hpI, ← hmI, ← hpS, ← hmS, ← hpT, ← hpR, ← hpE, ← hpF, ← hpS0, ← hpL, ← hpQ]
  clear hw1 hpQ hpL hpS0 hpF hpE hpR hpT hmS hpS hmI hpI hpV hmm
  go_wp2_with (go_at_call 69; refine HVIS.out.mono ?_; intro e w5 hx9; obtain ⟨ov, os, DS, DI, rfl, hbv⟩ := hx9; have HBV := Lib.hid hbv; clear hbv; refine Hid.out ?_)
  refine Lib.hid ?_
  clear HVIS hcV hs00 hs01
  obtain ⟨oA, oc, eov, hnd, -⟩ := HBV.out.wk.out.nds
  subst eov
  have bT5 := HBV.out.wk.bT
  rw [HC.out] at bT5
  dsimp only at bT5
  have bR5 := HBV.out.kp.blk HRC.out HNE.out.1
  have HB5 : Hid (Below w.heap.size w1 w5) := Lib.hid (by have := HW.out.below HBV.out.kp; rw [HC.out] at this; exact this)
  have c0 := bT5.cell_ 0 (.int .i64 (Y.q : Int)) rfl
  have c1 := bT5.cell_ 1 (.slice hA Y.L hc) rfl
  have c2 := bT5.cell_ 2 (.slice oA os.length oc) rfl
  have d0 := bR5.cell_ 0 (.int .i64 0) rfl
  have d1 := bR5.cell_ 1 (.slice none 0 0) rfl
  have d2 := bR5.cell_ 2 (.slice none 0 0) rfl
  have f0 := bR5.frozen 0
  have f1 := bR5.frozen 1
  have f2 := bR5.frozen 2
  have HR5 := Lib.hid bR5
  clear bT5 bR5 hnd
  go_wp2
  have hk3 : Kept (fun g => g = pR) w5 (((w5.setCell ⟨pR, 0, none⟩ (.int .i64 (Y.q : Int))).setCell ⟨pR, 1, none⟩ (.slice hA Y.L hc)).setCell ⟨pR, 2, none⟩ (.slice oA os.length oc)) := (((Kept.refl (fun g => g = pR) w5).setCell (p := ⟨pR, 0, none⟩) (Or.inl rfl) _).setCell (p := ⟨pR, 1, none⟩) (Or.inl rfl) _).setCell (p := ⟨pR, 2, none⟩) (Or.inl rfl) _
  have hneR : (Value.slice oA os.length oc).ownBlock ≠ some pR := fun e => by
    have h1 := HBV.out.wk.nvB pR e
    have h2 := HRC.out.lt
    omega
  have hno := HBV.out.wk.out.kept hk3 (fun g e1 e2 => by subst e2; exact hneR e1) (fun y hy g e1 e2 => by subst e2; exact own_blk_ne' (HBV.out.wk.out.2 y hy) HR5.out (by decide) e1)
  have hbf : Below w.heap.size w (((w5.setCell ⟨pR, 0, none⟩ (.int .i64 (Y.q : Int))).setCell ⟨pR, 1, none⟩ (.slice hA Y.L hc)).setCell ⟨pR, 2, none⟩ (.slice oA os.length oc)) := (HB1.out.trans HB5.out).trans (hk3.to_below (by have := HB1.out.size; have := HB5.out.size; omega) (fun g hg e => by have := HNE.out.2; omega))
  have hq : Blk (((w5.setCell ⟨pR, 0, none⟩ (.int .i64 (Y.q : Int))).setCell ⟨pR, 1, none⟩ (.slice hA Y.L hc)).setCell ⟨pR, 2, none⟩ (.slice oA os.length oc)) pR 25 #[.int .i64 (Y.q : Int), .slice hA Y.L hc, .slice oA os.length oc] := ((HR5.out.set_ 0 (.int .i64 (Y.q : Int))).set_ 1 (.slice hA Y.L hc)).set_ 2 (.slice oA os.length oc)
  exact bodyPost_ret (results_cell_row Tryz.results38 _ _ pR 25 #[.int .i64 (Y.q : Int), .slice hA Y.L hc, .slice oA os.length oc] (0, 0) _ rfl hq Tryz.underlying25 rfl Tryz.sizeTree) rfl
    ⟨oA, oc, os, rfl, by rw [HC.out] at hno; exact hno, HBV.out.wk.eq, hbf⟩
end Go.Proofs.YtmlhkbgifnifdaaGreatDoor
namespace Go.Proofs.YtmlhkbgifnifdaaGreatDoor
open Go.RowKit
set_option maxRecDepth 100000
set_option linter.unusedVariables false
set_option linter.unusedSimpArgs false

/-- the digits of a number at a base, the lowest first; what is left of it -/
def digT (q : Int) : Nat → Int → List Int
  | 0, _ => []
  | k + 1, n => (n % q) :: digT q k (n / q)
def digR (q : Int) : Nat → Int → Int
  | 0, n => n
  | k + 1, n => digR q k (n / q)
theorem digT_snoc (q : Int) : ∀ (k : Nat) (n : Int), digT q (k + 1) n = digT q k n ++ [digR q k n % q]
  | 0, n => rfl
  | k + 1, n => by
    show (n % q) :: digT q (k + 1) (n / q) = _
    rw [digT_snoc q k (n / q)]
    rfl
theorem digR_snoc (q : Int) : ∀ (k : Nat) (n : Int), digR q (k + 1) n = digR q k n / q
  | 0, n => rfl
  | k + 1, n => digR_snoc q k (n / q)
theorem digT_len (q : Int) : ∀ (k : Nat) (n : Int), (digT q k n).length = k
  | 0, n => rfl
  | k + 1, n => by rw [digT, List.length_cons, digT_len q k]
theorem digR_rng {q : Int} (hq : 1 ≤ q) : ∀ (k : Nat) (n : Int), 0 ≤ n → 0 ≤ digR q k n ∧ digR q k n ≤ n
  | 0, n, h => ⟨h, Int.le_refl _⟩
  | k + 1, n, h => by
    have h1 : 0 ≤ n / q := Int.ediv_nonneg h (by omega)
    have h2 : n / q ≤ n := Int.ediv_le_self q h
    obtain ⟨a, b⟩ := digR_rng hq k (n / q) h1
    exact ⟨a, Int.le_trans b h2⟩
theorem digT_rng {q : Int} (hq : 1 ≤ q) : ∀ (k : Nat) (n : Int), ∀ z ∈ digT q k n, 0 ≤ z ∧ z < q
  | 0, n, z, h => absurd h (by simp [digT])
  | k + 1, n, z, h => by
    rcases List.mem_cons.1 h with rfl | h
    · exact ⟨Int.emod_nonneg _ (by omega), Int.emod_lt_of_pos _ (by omega)⟩
    · exact digT_rng hq k (n / q) z h
/-- wolfram.Digits -/
def digsT (q n : Int) : List Int × Int :=
  if q < 2 ∨ 8 < q then ([], 2) else if n < 0 then ([], 5) else if 0 < digR q (3 * q - 2).toNat n then ([], 5) else (digT q (3 * q - 2).toNat n, 0)
def RetIE (ze : List Int × Int) (w : World) (e : Ending) (w' : World) : Prop := ∃ A c, e = .returned (.tuple #[.slice A ze.1.length c, .int .i64 ze.2]) ∧ Ints w' A ze.1 ∧ Below w.heap.size w w'
set_option maxHeartbeats 4000000 in
theorem sums_any (q : Int) (w : World) (h1 : 2 ≤ q) (h2 : q ≤ 8) : Calls Tryz.prog 75 #[.int .i64 q] w fun e w' => e = .returned (.int .i64 (3 * q - 2)) ∧ w' = w := by
  have e1 : wrap64 (3 * q) = 3 * q := by unfold wrap64; omega
  have e2 : wrap64 (3 * q - 2) = 3 * q - 2 := by unfold wrap64; omega
  clear h1 h2
  go_enter Tryz.func75, Tryz.ntmps75
  go_wp2
  go_ret
  exact ⟨ret_int e2, rfl⟩
theorem quo_ok {r q n : Int} (h0 : 0 ≤ r) (h1 : r ≤ n) (hn : n ≤ 9223372036854775807) (hq : 2 ≤ q) : wrap64 (r.tdiv q) = r / q := by
  rw [Int.tdiv_eq_ediv_of_nonneg h0]
  have h2 : 0 ≤ r / q := Int.ediv_nonneg h0 (by omega)
  have h3 : r / q ≤ r := Int.ediv_le_self q h0
  generalize r / q = t at *
  unfold wrap64
  omega
set_option maxHeartbeats 4000000 in
theorem digits_any (q n : Int) (w : World) (hn64 : n ≤ 9223372036854775807) : Calls Tryz.prog 49 #[.int .i64 q, .int .i64 n] w (RetIE (digsT q n) w) := by
  have HN := Lib.hid hn64
  clear hn64
  by_cases h2 : q < 2
  · have d1 : decide (q < 2) = true := decide_eq_true h2
    have HE : Hid (digsT q n = ([], 2)) := Lib.hid (by unfold digsT; rw [if_pos (.inl h2)])
    clear h2
    go_enter Tryz.func49, Tryz.ntmps49
    go_wp2
    go_ret2
    rw [HE.out]
    exact ⟨none, 0, rfl, Ints.nil, Below.refl _ _⟩
  have d1 : decide (q < 2) = false := decide_eq_false h2
  by_cases h8 : 8 < q
  · have d2 : decide (8 < q) = true := decide_eq_true h8
    have HE : Hid (digsT q n = ([], 2)) := Lib.hid (by unfold digsT; rw [if_pos (.inr h8)])
    clear h2 h8
    go_enter Tryz.func49, Tryz.ntmps49
    go_wp2
    go_ret2
    rw [HE.out]
    exact ⟨none, 0, rfl, Ints.nil, Below.refl _ _⟩
  have d2 : decide (8 < q) = false := decide_eq_false h8
  by_cases hn : n < 0
  · have d3 : decide (n < 0) = true := decide_eq_true hn
    have HE : Hid (digsT q n = ([], 5)) := Lib.hid (by unfold digsT; rw [if_neg (by omega), if_pos hn])
    clear h2 h8 hn
    go_enter Tryz.func49, Tryz.ntmps49
    go_wp2
    go_ret2
    rw [HE.out]
    exact ⟨none, 0, rfl, Ints.nil, Below.refl _ _⟩
  have d3 : decide (n < 0) = false := decide_eq_false hn
  have HS := Lib.hid (sums_any q w (by omega) (by omega))
  have HQ : Hid (2 ≤ q ∧ q ≤ 8 ∧ 0 ≤ n) := Lib.hid (by omega)
  obtain ⟨K, hK⟩ : ∃ K : Nat, K = (3 * q - 2).toNat := ⟨_, rfl⟩
  have hKi : 3 * q - 2 = (K : Int) := by omega
  have HK : Hid (K ≤ 22) := Lib.hid (by omega)
  have HE0 : Hid (digsT q n = if 0 < digR q K n then ([], 5) else (digT q K n, 0)) := Lib.hid (by unfold digsT; rw [if_neg (by omega), if_neg hn, hK])
  rw [hKi] at HS
  clear h2 h8 hn hK hKi
  go_enter Tryz.func49, Tryz.ntmps49
  go_wp2_with (go_at_call 75; refine HS.out.mono ?_; intro e w9 hx9; obtain ⟨rfl, hw9⟩ := hx9; subst hw9; refine Hid.out ?_)
  refine Lib.hid ?_
  clear d1 d2 d3
  go_wp2
  go_loopw [1, 6, 17] (fun nv lv iv wr => ∃ k : Nat, k ≤ K ∧ iv = .int .i64 k ∧ nv = .int .i64 (digR q k n) ∧ Hid (OwnI 3 wr w9.heap.size lv (digT q k n)) ∧ Hid (Below w9.heap.size w9 wr)) (fun _ _ iv _ => K - (intOf iv).toNat)
  case atStart => exact ⟨0, Nat.zero_le _, rfl, rfl, Lib.hid (OwnI.nil _ _ _), Lib.hid (Below.refl _ _)⟩
  case round =>
    obtain ⟨k, hk, rfl, rfl, HO, HB⟩ := hrel
    have hwk : wrap64 ((k : Int) + 1) = (k : Int) + 1 := by have := HK.out; unfold wrap64; omega
    obtain ⟨r, hr⟩ : ∃ r, r = digR q k n := ⟨_, rfl⟩
    have hrr := digR_rng (q := q) (by have := HQ.out; omega) k n HQ.out.2.2
    rw [← hr] at hrr ⊢
    by_cases hkK : k < K
    · have hown := HO.out
      have hln : (digT q k n).length < 1000000000000 := by rw [digT_len]; have := HK.out; omega
      have hq0 : ¬ q = 0 := by have := HQ.out; omega
      have HKK := Lib.hid hkK
      have HR := Lib.hid hr
      have HRR := Lib.hid hrr
      have hws : w9.heap.size ≤ wr.heap.size := HB.out.size
      clear hr hk
      go_wp2_with (at_builtin; refine wpList_pushI rfl _ _ _ rfl w9.heap.size 3 Tryz.underlying28 Tryz.infoInt _ _ rfl hown _ rfl hln hws ?_)
      intro v6 w6 ho6 hb6
      have HO6 : Hid (OwnI 3 w6 w9.heap.size v6 (digT q (k + 1) n)) := Lib.hid (by rw [digT_snoc, ← HR.out]; exact ho6)
      have HB6 : Hid (Below w9.heap.size w9 w6) := Lib.hid (HB.out.trans hb6)
      clear ho6 hb6 hown hws hln
      go_wp2
      go_roundw
      case rel => exact ⟨k + 1, HKK.out, (by first | rfl | (rw [hwk]; rfl)), (by rw [digR_snoc, HR.out]; exact congrArg (Value.int .i64) (by rw [← HR.out]; exact quo_ok HRR.out.1 HRR.out.2 HN.out HQ.out.1)), HO6, HB6⟩
      case measure => (try rw [hwk]); exact meas_step HKK.out
    · have hke : k = K := Nat.le_antisymm hk (Nat.le_of_not_lt hkK)
      have HO2 := HO
      obtain ⟨dA, dc, edv, hdi, -⟩ := HO.out.ints
      have HDI := Lib.hid hdi
      subst edv
      clear hdi hk
      by_cases hpos : 0 < r
      · have d4 : decide (0 < r) = true := decide_eq_true hpos
        have HE : Hid (digsT q n = ([], 5)) := Lib.hid (by rw [HE0.out, ← hke, ← hr, if_pos hpos])
        clear hpos hke hr
        go_wp2
        go_ret2
        rw [HE.out]
        exact ⟨none, 0, rfl, Ints.nil, HB.out⟩
      · have d4 : decide (0 < r) = false := decide_eq_false hpos
        have HE : Hid (digsT q n = (digT q k n, 0)) := Lib.hid (by rw [HE0.out, ← hke, ← hr, if_neg hpos])
        clear hpos hke hr
        go_wp2
        go_ret2
        rw [HE.out]
        exact ⟨dA, dc, rfl, HDI.out, HB.out⟩
end Go.Proofs.YtmlhkbgifnifdaaGreatDoor
