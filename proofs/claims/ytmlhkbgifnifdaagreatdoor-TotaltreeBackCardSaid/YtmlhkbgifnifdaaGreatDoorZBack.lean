/-
  totaltree.Back. No condition but that the library's table is there.
-/
import Derived.Test.YtmlhkbgifnifdaaGreatDoorZG20
namespace Go.Proofs.YtmlhkbgifnifdaaGreatDoor
open Go.RowKit
set_option maxRecDepth 100000
set_option linter.unusedVariables false
set_option linter.unusedSimpArgs false

theorem Tryz.sizeTot : (Tryz.prog.info? 30).map (·.size) = some 4 := by kernel_rfl
def TotL.zero : TotL := ⟨[], 0, [], []⟩
def totOf (t : PT) : TotL := ⟨t.ps, t.st, numsP t 0, numsP t 1⟩
def backB (t : PT) : Bool := t.right && rightT ⟨t.ps, t.st, [], []⟩
def backP (t : PT) : TotL × Bool := if backB t = true then (if sameP (totT (totOf t)).1 (redT t) = true then (totOf t, true) else (TotL.zero, false)) else (TotL.zero, false)
theorem asc_range (f : Nat → Bool) : ∀ (m a : Nat) (last n : Int), last < a → (a : Int) + m - 1 ≤ n → asc last n (((List.range' a m).filter f).map (fun (k : Nat) => (k : Int))) = true
  | 0, a, last, n, _, _ => rfl
  | m + 1, a, last, n, h1, h2 => by
    rw [List.range'_succ, List.filter_cons]
    by_cases hf : f a = true
    · rw [if_pos hf, List.map_cons]
      unfold asc
      rw [asc_range f m (a + 1) a n (by omega) (by omega), decide_eq_true h1, decide_eq_true (by omega)]
      rfl
    · rw [if_neg hf]
      exact asc_range f m (a + 1) last n (by omega) (by omega)
theorem asc_nums (t : PT) (s : Int) : asc (-1) ((t.ps.length : Int) - 1) (numsP t s) = true := by
  unfold numsP numsTo
  rw [List.range_eq_range']
  exact asc_range _ _ _ _ _ (by omega) (by omega)
theorem totOf_right {t : PT} (h : rightT ⟨t.ps, t.st, [], []⟩ = true) : rightT (totOf t) = true := by
  unfold rightT totOf at *
  dsimp only at h ⊢
  rw [asc_nums, asc_nums]
  simp only [Bool.and_eq_true, decide_eq_true_eq] at h ⊢
  exact ⟨⟨h.1.1, trivial⟩, trivial⟩
theorem nums_le {t : PT} (s : Int) (h : knownB t.ps = true) : (numsP t s).length ≤ 9 := Nat.le_trans (numsTo_len t s _) (known_len h).2
def RetTot (y : TotL × Bool) (w : World) (e : Ending) (w' : World) : Prop := ∃ A a B b C c, e = .returned (.tuple #[totV A a B b C c y.1, .bool y.2]) ∧ TotR w' A B C y.1 ∧ Below w.heap.size w w'
structure Bk5J (w0 : World) (Pt : Nat) (Px : Nat) (st : Int) (A : Option Addr) (n : Nat) (c : Nat) (B : Option Addr) (m : Nat) (d : Nat) (zb : List Int) (zs : List Int) (b0 b1 b2 b3 b4 b5 b6 b7 : Bool) (v25 v26 v27 v28 v29 v30 : Value) (w : World) : Prop where
  h0 : b0 = true → v25 = .agg #[.int .i64 st, .slice A n c, .slice B m d]
  h2 : b2 = true → v27 = .agg #[.int .i64 st, .slice A n c, .slice B m d]
  h4 : b4 = true → v29 = .pointer (some ⟨Px, 2, none⟩)
  h6 : b6 = true → v30 = .pointer (some ⟨Px, 3, none⟩)
  below : b5 = false → Below w0.heap.size w0 w
  ord5 : b5 = true → b0 = true ∧ b1 = true ∧ b2 = true ∧ b3 = true ∧ b4 = true
  ord7 : b7 = true → b5 = true ∧ b6 = true
  ord3 : b3 = true → b1 = true ∧ b2 = true
  n1 : b1 = true → b5 = false → ∃ A1 c1, v26 = .slice A1 zb.length c1 ∧ Ints w A1 zb ∧ NewA w0.heap.size A1
  n3 : b3 = true → b5 = false → ∃ A1 c1, v28 = .slice A1 zs.length c1 ∧ Ints w A1 zs ∧ NewA w0.heap.size A1
  n5 : b5 = true → b7 = false → ∃ A1 c1 A3 c3 w5, v26 = .slice A1 zb.length c1 ∧ v28 = .slice A3 zs.length c3 ∧ Below w0.heap.size w0 w5 ∧ (Ints w5 A1 zb ∧ NewA w0.heap.size A1) ∧ (Ints w5 A3 zs ∧ NewA w0.heap.size A3) ∧ w = w5.setCell ⟨Px, 2, none⟩ v26
  n7 : b7 = true → ∃ A1 c1 A3 c3 w5, v26 = .slice A1 zb.length c1 ∧ v28 = .slice A3 zs.length c3 ∧ Below w0.heap.size w0 w5 ∧ (Ints w5 A1 zb ∧ NewA w0.heap.size A1) ∧ (Ints w5 A3 zs ∧ NewA w0.heap.size A3) ∧ w = (w5.setCell ⟨Px, 2, none⟩ v26).setCell ⟨Px, 3, none⟩ v28
structure Bk7J (W : World) (agU : Value) (agT : Value) (t : PT) (sb : Bool) (b0 b1 b2 b3 b4 b5 b6 b7 b8 : Bool) (v36 v37 v38 v39 v40 v41 v42 v43 v44 : Value) (w : World) : Prop where
  h0 : b0 = true → v36 = .int .i64 0
  h1 : b1 = true → v37 = .bool false
  h2 : b2 = true → v38 = .bool false
  h3 : b3 = true → v39 = agU
  h4 : b4 = true → v40 = agT
  h6 : b6 = true → v42 = .bool sb
  h7 : b7 = true → v43 = .bool (!sb)
  h8 : b8 = true → v44 = .bool (!sb)
  below : Below W.heap.size W w
  t5 : b5 = true → TreeAt w v41 (redT t)
section
variable {W : World} {agU : Value} {agT : Value} {t : PT} {sb : Bool} {b0 b1 b2 b3 b4 b5 b6 b7 b8 : Bool} {v36 v37 v38 v39 v40 v41 v42 v43 v44 : Value} {w w' : World}
theorem Bk7J.world (H : Bk7J W agU agT t sb b0 b1 b2 b3 b4 b5 b6 b7 b8 v36 v37 v38 v39 v40 v41 v42 v43 v44 w) (hb : Below w.heap.size w w') : Bk7J W agU agT t sb b0 b1 b2 b3 b4 b5 b6 b7 b8 v36 v37 v38 v39 v40 v41 v42 v43 v44 w' :=
  ⟨H.h0, H.h1, H.h2, H.h3, H.h4, H.h6, H.h7, H.h8, H.below.trans (hb.mono H.below.size), fun h => (H.t5 h).ext hb⟩
end

set_option maxHeartbeats 16000000 in
theorem tback_any (st : Int) (A : Option Addr) (c : Nat) (ps : List (Int × Int)) (B : Option Addr) (d : Nat) (hs : List Hd) (w : World) (hp : Pts w A ps) (hN : Nds w B hs) (hT : TabB w.heap.size w) :
    Calls Tryz.prog 7 #[.agg #[.int .i64 st, .slice A ps.length c, .slice B hs.length d]] w (RetTot (backP ⟨st, ps, hs.map Hd.nd⟩) w) := by
  have hn := hN.le
  have hpl := hp.le
  obtain ⟨w0, hw0⟩ : ∃ w0, w0 = ((w.alloc (.cells #[.int .i64 st, .slice A ps.length c, .slice B hs.length d] 25)).alloc (.cells #[.slice none 0 0, .int .i64 0, .slice none 0 0, .slice none 0 0] 30)).alloc (.cells #[.slice A ps.length c, .int .i64 st, .slice none 0 0, .slice none 0 0] 30) := ⟨_, rfl⟩
  have hb1 := below_new w (.cells #[.int .i64 st, .slice A ps.length c, .slice B hs.length d] 25)
  have hb2 : Below w.heap.size w ((w.alloc (.cells #[.int .i64 st, .slice A ps.length c, .slice B hs.length d] 25)).alloc (.cells #[.slice none 0 0, .int .i64 0, .slice none 0 0, .slice none 0 0] 30)) := hb1.alloc hb1.size _
  have hb0 : Below w.heap.size w w0 := by rw [hw0]; exact hb2.alloc hb2.size _
  have p0 : Blk w0 w.heap.size 25 #[.int .i64 st, .slice A ps.length c, .slice B hs.length d] := by rw [hw0]; exact ((Blk.new w _ _).alloc _).alloc _
  have q0 : Blk w0 (w.heap.size + 1) 30 #[.slice none 0 0, .int .i64 0, .slice none 0 0, .slice none 0 0] := by rw [hw0]; exact (blk_two _ _ _ _).alloc _
  have r0 : Blk w0 (w.heap.size + 1 + 1) 30 #[.slice A ps.length c, .int .i64 st, .slice none 0 0, .slice none 0 0] := by
    rw [hw0]
    have h := blk_two (w.alloc (.cells #[.int .i64 st, .slice A ps.length c, .slice B hs.length d] 25)) (.cells #[.slice none 0 0, .int .i64 0, .slice none 0 0, .slice none 0 0] 30) 30 #[.slice A ps.length c, .int .i64 st, .slice none 0 0, .slice none 0 0]
    rwa [show (w.alloc (.cells #[.int .i64 st, .slice A ps.length c, .slice B hs.length d] 25)).heap.size = w.heap.size + 1 by simp] at h
  have HR := Lib.hid (right_any st A c ps B d hs w0 (hp.ext hb0) (hN.ext hb0))
  have HLR := Lib.hid (fun W (hW : Below w0.heap.size w0 W) => lright_any A none none c 0 0 ⟨ps, st, [], []⟩ W ⟨(hp.ext hb0).ext hW, Ints.nil, Ints.nil⟩)
  obtain ⟨t, ht⟩ : ∃ t : PT, t = ⟨st, ps, hs.map Hd.nd⟩ := ⟨_, rfl⟩
  have hta : TreeAt w0 (.agg #[.int .i64 st, .slice A ps.length c, .slice B hs.length d]) t := ⟨A, c, B, d, hs, by rw [ht], by rw [ht]; exact hp.ext hb0, hN.ext hb0, by rw [ht]⟩
  have hRt : rightN st ps (hs.map Hd.nd) = t.right := by rw [ht]; rfl
  have htps : t.ps = ps := by rw [ht]
  have htst : t.st = st := by rw [ht]
  rw [← ht]
  rw [hRt] at HR
  unfold totV at HLR
  dsimp only at HLR
  have HTA := Lib.hid hta
  have HNW := Lib.hid (And.intro hp hN)
  have HTB := Lib.hid hT
  have HB0 := Lib.hid hb0
  have HP0 := Lib.hid p0
  have HQ0 := Lib.hid q0
  have HRX := Lib.hid r0
  have HW0 := Lib.hid hw0
  have HTE := Lib.hid (And.intro ht (And.intro htps htst))
  have c0 := p0.cell_ 0 (.int .i64 st) rfl
  have c1 := p0.cell_ 1 (.slice A ps.length c) rfl
  have c2 := p0.cell_ 2 (.slice B hs.length d) rfl
  clear hb1 hb2 hb0 p0 q0 r0 hw0 hp hN hT hta hRt htps htst ht
  cases hr : t.right with
  | false =>
    have HE : Hid (backP t = (TotL.zero, false)) := Lib.hid (by unfold backP backB; rw [hr]; rfl)
    rw [hr] at HR
    clear hr
    go_enter Tryz.func7, Tryz.ntmps7
    go_upto_region 2 with fail
    rw [← HW0.out]
    go_wp2_with (go_at_call 22; refine HR.out.mono ?_; rintro e w1 ⟨rfl, hb⟩; refine Hid.out ?_)
    refine Lib.hid ?_
    have q1 := HQ0.out.below hb HQ0.out.lt
    have HQ1 := Lib.hid q1
    have d0 := q1.cell_ 0 (.slice none 0 0) rfl
    have d1 := q1.cell_ 1 (.int .i64 0) rfl
    have d2 := q1.cell_ 2 (.slice none 0 0) rfl
    have d3 := q1.cell_ 3 (.slice none 0 0) rfl
    have f0 := q1.frozen 0
    have f1 := q1.frozen 1
    have f2 := q1.frozen 2
    have f3 := q1.frozen 3
    have HBX := Lib.hid (HB0.out.trans (hb.mono HB0.out.size))
    clear q1 hb c0 c1 c2
    go_wp2
    have hq : Blk ((((w1.setCell ⟨w.heap.size + 1, 0, none⟩ (.slice none 0 0)).setCell ⟨w.heap.size + 1, 1, none⟩ (.int .i64 0)).setCell ⟨w.heap.size + 1, 2, none⟩ (.slice none 0 0)).setCell ⟨w.heap.size + 1, 3, none⟩ (.slice none 0 0)) (w.heap.size + 1) 30 #[.slice none 0 0, .int .i64 0, .slice none 0 0, .slice none 0 0] := (((HQ1.out.set_ 0 (.slice none 0 0)).set_ 1 (.int .i64 0)).set_ 2 (.slice none 0 0)).set_ 3 (.slice none 0 0)
    rw [HE.out]
    exact bodyPost_ret (results_ct Tryz.results7 _ _ (w.heap.size + 1) 30 #[.slice none 0 0, .int .i64 0, .slice none 0 0, .slice none 0 0] (0, 0) _ rfl hq Tryz.underlying30 rfl Tryz.sizeTot) rfl
      ⟨none, 0, none, 0, none, 0, rfl, ⟨Pts.nil, Ints.nil, Ints.nil⟩, (((HBX.out.setCell (p := ⟨w.heap.size + 1, 0, none⟩) (by simp) _).setCell (p := ⟨w.heap.size + 1, 1, none⟩) (by simp) _).setCell (p := ⟨w.heap.size + 1, 2, none⟩) (by simp) _).setCell (p := ⟨w.heap.size + 1, 3, none⟩) (by simp) _⟩
  | true =>
    rw [hr] at HR
    cases hlr : rightT (⟨ps, st, [], []⟩ : TotL) with
    | false =>
      have hlr' : rightT (⟨t.ps, t.st, [], []⟩ : TotL) = false := by rw [HTE.out.2.1, HTE.out.2.2]; exact hlr
      have HE : Hid (backP t = (TotL.zero, false)) := Lib.hid (by unfold backP backB; rw [hr, hlr']; rfl)
      rw [hlr] at HLR
      clear hr hlr hlr'
      go_enter Tryz.func7, Tryz.ntmps7
      go_upto_region 2 with fail
      rw [← HW0.out]
      go_wp2_with (go_at_call 22; refine HR.out.mono ?_; rintro e w1 ⟨rfl, hb⟩; refine Hid.out ?_)
      refine Lib.hid ?_
      have HB1 := Lib.hid hb
      have r1 := HRX.out.below hb HRX.out.lt
      have x0 := r1.cell_ 0 (.slice A ps.length c) rfl
      have x1 := r1.cell_ 1 (.int .i64 st) rfl
      have x2 := r1.cell_ 2 (.slice none 0 0) rfl
      have x3 := r1.cell_ 3 (.slice none 0 0) rfl
      have HLX := Lib.hid (HLR.out w1 hb)
      clear r1 hb c0 c1 c2
      go_wp2_with (go_at_call 23; refine HLX.out.mono ?_; rintro e w2 ⟨rfl, hb3⟩; refine Hid.out ?_)
      refine Lib.hid ?_
      have hb := HB1.out.trans (hb3.mono HB1.out.size)
      clear hb3 x0 x1 x2 x3 HLX HLR
      have q1 := HQ0.out.below hb HQ0.out.lt
      have HQ1 := Lib.hid q1
      have d0 := q1.cell_ 0 (.slice none 0 0) rfl
      have d1 := q1.cell_ 1 (.int .i64 0) rfl
      have d2 := q1.cell_ 2 (.slice none 0 0) rfl
      have d3 := q1.cell_ 3 (.slice none 0 0) rfl
      have f0 := q1.frozen 0
      have f1 := q1.frozen 1
      have f2 := q1.frozen 2
      have f3 := q1.frozen 3
      have HBX := Lib.hid (HB0.out.trans (hb.mono HB0.out.size))
      clear q1 hb 
      go_wp2
      have hq : Blk ((((w2.setCell ⟨w.heap.size + 1, 0, none⟩ (.slice none 0 0)).setCell ⟨w.heap.size + 1, 1, none⟩ (.int .i64 0)).setCell ⟨w.heap.size + 1, 2, none⟩ (.slice none 0 0)).setCell ⟨w.heap.size + 1, 3, none⟩ (.slice none 0 0)) (w.heap.size + 1) 30 #[.slice none 0 0, .int .i64 0, .slice none 0 0, .slice none 0 0] := (((HQ1.out.set_ 0 (.slice none 0 0)).set_ 1 (.int .i64 0)).set_ 2 (.slice none 0 0)).set_ 3 (.slice none 0 0)
      rw [HE.out]
      exact bodyPost_ret (results_ct Tryz.results7 _ _ (w.heap.size + 1) 30 #[.slice none 0 0, .int .i64 0, .slice none 0 0, .slice none 0 0] (0, 0) _ rfl hq Tryz.underlying30 rfl Tryz.sizeTot) rfl
        ⟨none, 0, none, 0, none, 0, rfl, ⟨Pts.nil, Ints.nil, Ints.nil⟩, (((HBX.out.setCell (p := ⟨w.heap.size + 1, 0, none⟩) (by simp) _).setCell (p := ⟨w.heap.size + 1, 1, none⟩) (by simp) _).setCell (p := ⟨w.heap.size + 1, 2, none⟩) (by simp) _).setCell (p := ⟨w.heap.size + 1, 3, none⟩) (by simp) _⟩
    | true =>
      have hlr' : rightT (⟨t.ps, t.st, [], []⟩ : TotL) = true := by rw [HTE.out.2.1, HTE.out.2.2]; exact hlr
      have hkn : knownB t.ps = true := (rightT_parts hlr').1
      have HKN : Hid (knownB ps = true) := Lib.hid (by rw [← HTE.out.2.1]; exact hkn)
      have HL9 : Hid (1 ≤ ps.length ∧ ps.length ≤ 9) := Lib.hid (known_len HKN.out)
      have HBK : Hid (backP t = if sameP (totT (totOf t)).1 (redT t) = true then (totOf t, true) else (TotL.zero, false)) := Lib.hid (by unfold backP backB; rw [hr, hlr']; rfl)
      have HTR : Hid (rightT (totOf t) = true) := Lib.hid (totOf_right hlr')
      rw [hlr] at HLR
      clear hr hlr hlr' hkn
      go_enter Tryz.func7, Tryz.ntmps7
      go_upto_region 2 with fail
      rw [← HW0.out]
      go_wp2_with (go_at_call 22; refine HR.out.mono ?_; rintro e w1 ⟨rfl, hb⟩; refine Hid.out ?_)
      refine Lib.hid ?_
      have HB1 := Lib.hid hb
      have r1 := HRX.out.below hb HRX.out.lt
      have x0 := r1.cell_ 0 (.slice A ps.length c) rfl
      have x1 := r1.cell_ 1 (.int .i64 st) rfl
      have x2 := r1.cell_ 2 (.slice none 0 0) rfl
      have x3 := r1.cell_ 3 (.slice none 0 0) rfl
      have HLX := Lib.hid (HLR.out w1 hb)
      clear r1 hb c0 c1 c2 HR
      go_wp2_with (go_at_call 23; refine HLX.out.mono ?_; rintro e w2 ⟨rfl, hb3⟩; refine Hid.out ?_)
      refine Lib.hid ?_
      have HB2 := Lib.hid (HB1.out.trans (hb3.mono HB1.out.size))
      clear hb3 x0 x1 x2 x3 HLX HLR HB1
      have p2 := HP0.out.below HB2.out HP0.out.lt
      have HR2 := Lib.hid (HRX.out.below HB2.out HRX.out.lt)
      have c1 := p2.cell_ 1 (.slice A ps.length c) rfl
      have HCX := Lib.hid (clone_pts A c ps w2 ((HNW.out.1.ext HB0.out).ext HB2.out) (by have := HL9.out; omega))
      have f0 := HR2.out.frozen 0
      have x0 := HR2.out.cell_ 0 (.slice A ps.length c) rfl
      clear p2
      go_wp2_with (go_at_call 24; refine HCX.out.mono ?_; rintro e w3 ⟨v3, rfl, ho3, hb3⟩; refine Hid.out ?_)
      refine Lib.hid ?_
      obtain ⟨A3, c3, e3, hp3, hn3⟩ := ho3.pts
      subst e3
      have HB3 := Lib.hid (HB2.out.trans (hb3.mono HB2.out.size))
      have HPN3 := Lib.hid (And.intro hp3 hn3)
      have r3 := HR2.out.below hb3 HR2.out.lt
      have x0' := r3.cell_ 0 (.slice A ps.length c) rfl
      have f0' := r3.frozen 0
      obtain ⟨w4, hw4⟩ : ∃ w4, w4 = w3.setCell ⟨w.heap.size + 1 + 1, 0, none⟩ (.slice A3 ps.length c3) := ⟨_, rfl⟩
      have HR4 : Hid (Blk w4 (w.heap.size + 1 + 1) 30 #[.slice A3 ps.length c3, .int .i64 st, .slice none 0 0, .slice none 0 0]) := Lib.hid (by rw [hw4]; exact r3.set_ 0 (.slice A3 ps.length c3))
      have hlt2 := HR2.out.lt
      have HP4 : Hid (Pts w4 A3 ps) := Lib.hid (by rw [hw4]; exact hp3.set_new (p := ⟨w.heap.size + 1 + 1, 0, none⟩) hn3 hlt2 _)
      have HN3 : Hid (NewA w2.heap.size A3) := Lib.hid hn3
      have hk4 : Kept (fun g => g = w.heap.size + 1 + 1) w3 w4 := by rw [hw4]; exact (Kept.refl (fun g => g = w.heap.size + 1 + 1) w3).setCell (p := ⟨w.heap.size + 1 + 1, 0, none⟩) (Or.inl rfl) _
      have hb4 : Below w.heap.size w w4 := (HB0.out.trans (HB3.out.mono HB0.out.size)).trans (hk4.to_below (by have := HB0.out.size; have := HB3.out.size; omega) (fun g hg e => by omega))
      have HB4 := Lib.hid hb4
      have HQ4 : Hid (Blk w4 (w.heap.size + 1) 30 #[.slice none 0 0, .int .i64 0, .slice none 0 0, .slice none 0 0]) := Lib.hid (hk4.blk (HQ0.out.below HB3.out HQ0.out.lt) (by omega))
      have HP40 : Hid (Blk w4 w.heap.size 25 #[.int .i64 st, .slice A ps.length c, .slice B hs.length d]) := Lib.hid (hk4.blk (HP0.out.below HB3.out HP0.out.lt) (by omega))
      have HLT4 : Hid (w.heap.size + 1 + 1 < w4.heap.size) := Lib.hid HR4.out.lt
      have HW4 := Lib.hid hw4
      clear ho3 hp3 hn3 hb3 r3 hw4 hk4 hb4 hlt2 HCX c1 x0 f0
      go_upto_region 5 with fail
      rw [← HW4.out]
      clear x0' f0'
      obtain ⟨zb, hzb⟩ : ∃ zb, zb = numsP t 0 := ⟨_, rfl⟩
      obtain ⟨zs, hzs⟩ : ∃ zs, zs = numsP t 1 := ⟨_, rfl⟩
      have HZ := Lib.hid (And.intro hzb hzs)
      have HNUM : Hid (∀ W s, Below w.heap.size w W → Calls Tryz.prog 25 #[.agg #[.int .i64 st, .slice A ps.length c, .slice B hs.length d], .int .i64 s] W (RetInts (numsP t s) W)) := Lib.hid (fun W s hW => by
        have h := numbers_any st A c ps B d hs s W (HNW.out.1.ext hW) (HNW.out.2.ext hW) HKN.out
        rw [← HTE.out.1] at h
        exact h)
      have HNB : Hid (∀ W, Below w.heap.size w W → Calls Tryz.prog 25 #[.agg #[.int .i64 st, .slice A ps.length c, .slice B hs.length d], .int .i64 0] W (RetInts zb W)) := Lib.hid (fun W hW => by rw [hzb]; exact HNUM.out W 0 hW)
      have HNS : Hid (∀ W, Below w.heap.size w W → Calls Tryz.prog 25 #[.agg #[.int .i64 st, .slice A ps.length c, .slice B hs.length d], .int .i64 1] W (RetInts zs W)) := Lib.hid (fun W hW => by rw [hzs]; exact HNUM.out W 1 hW)
      have hzl : zb.length ≤ 9223372036854775807 ∧ zs.length ≤ 9223372036854775807 := by
        have h1 := nums_le (t := t) 0 (by rw [HTE.out.2.1]; exact HKN.out)
        have h2 := nums_le (t := t) 1 (by rw [HTE.out.2.1]; exact HKN.out)
        rw [hzb, hzs]; omega
      obtain ⟨hzl1, hzl2⟩ := hzl
      clear hzb hzs HNUM
      refine wp_region_J (by kernel_rfl) (fun listed act w' => ∃ b0 b1 b2 b3 b4 b5 b6 b7 v25 v26 v27 v28 v29 v30, listed = #[b0, b1, b2, b3, b4, b5, b6, b7] ∧ act = Act.mk #[.agg #[.int .i64 st, .slice A ps.length c, .slice B hs.length d], .pointer (some ⟨w.heap.size, 0, none⟩), .pointer (some ⟨w.heap.size + 1, 0, none⟩), .bool false, .pointer (some ⟨w.heap.size + 1 + 1, 0, none⟩), undef, undef, .pointer (some ⟨w.heap.size, 1, none⟩), .slice A ps.length c, .pointer (some ⟨w.heap.size, 0, none⟩), .int .i64 st, .agg #[.slice A ps.length c, .int .i64 st, .slice none 0 0, .slice none 0 0], .agg #[.int .i64 st, .slice A ps.length c, .slice B hs.length d], .bool true, .bool false, .bool false, .agg #[.slice A ps.length c, .int .i64 st, .slice none 0 0, .slice none 0 0], .bool true, .bool false, .bool false, undef, .pointer (some ⟨w.heap.size, 1, none⟩), .slice A ps.length c, .slice A3 ps.length c3, .pointer (some ⟨w.heap.size + 1 + 1, 0, none⟩), v25, v26, v27, v28, v29, v30, undef, undef, undef, undef, undef, undef, undef, undef, undef, undef, undef, undef, undef, undef, undef, undef] [] ∧ Bk5J w4 w.heap.size (w.heap.size + 1 + 1) st A ps.length c B hs.length d zb zs b0 b1 b2 b3 b4 b5 b6 b7 v25 v26 v27 v28 v29 v30 w') ?_ ?_ ?_
      · exact ⟨_, _, _, _, _, _, _, _, _, _, _, _, _, _, rfl, rfl, ⟨(by simp), (by simp), (by simp), (by simp), (fun _ => (Below.refl _ w4).drew), (by simp), (by simp), (by simp), (by simp), (by simp), (by simp), (by simp)⟩⟩
      · rintro i listed act w' hi ⟨b0, b1, b2, b3, b4, b5, b6, b7, v25, v26, v27, v28, v29, v30, rfl, rfl, H⟩
        have hi16 : i < 8 := by
          obtain ⟨-, o, ho, -⟩ := mem_ready.1 hi
          exact (Array.getElem?_eq_some_iff.1 ho).1
        obtain rfl | rfl | rfl | rfl | rfl | rfl | rfl | rfl : i = 0 ∨ i = 1 ∨ i = 2 ∨ i = 3 ∨ i = 4 ∨ i = 5 ∨ i = 6 ∨ i = 7 := by omega
        all_goals simp [mem_ready, Region.binds] at hi
        · have b5f : b5 = false := by
            cases hb : b5 with
            | false => rfl
            | true => exact absurd (H.ord5 hb).1 (by simp [hi])
          have pw := HP40.out.below (H.below b5f) HP40.out.lt
          have cc0 := pw.cell_ 0 (.int .i64 st) rfl
          have cc1 := pw.cell_ 1 (.slice A ps.length c) rfl
          have cc2 := pw.cell_ 2 (.slice B hs.length d) rfl
          clear pw
          clear b5f
          refine wpOp_hidden rfl fun K hK => ?_
          go_wp2
          refine OnlyN.mk (hK.out _ _ ⟨true, _, _, _, _, _, _, _, .agg #[.int .i64 st, .slice A ps.length c, .slice B hs.length d], _, _, _, _, _, rfl, rfl, ⟨fun _ => rfl, H.h2, H.h4, H.h6, H.below, fun h => ⟨rfl, (H.ord5 h).2.1, (H.ord5 h).2.2.1, (H.ord5 h).2.2.2.1, (H.ord5 h).2.2.2.2⟩, H.ord7, H.ord3, H.n1, H.n3, H.n5, H.n7⟩⟩)
        · have b5f : b5 = false := by
            cases hb : b5 with
            | false => rfl
            | true => exact absurd (H.ord5 hb).2.1 (by simp [hi])
          obtain rfl := H.h0 (by simp [hi])
          have HB0' := Lib.hid (H.below b5f)
          have HCX := Lib.hid (HNB.out w' (HB4.out.trans (HB0'.out.mono HB4.out.size)))
          clear b5f
          refine wpOp_hidden rfl fun K hK => ?_
          go_wp2_with (go_at_call 25; refine HCX.out.mono ?_)
          rintro e w9 ⟨A9, c9, rfl, hi9, hn9, hb9⟩
          have HI9 := Lib.hid (And.intro hi9 (hn9.mono HB0'.out.size))
          have HB9 := Lib.hid hb9
          clear hi9 hn9 hb9 HCX
          go_wp2
          refine OnlyN.mk (hK.out _ _ ⟨_, true, _, _, _, _, _, _, _, .slice A9 zb.length c9, _, _, _, _, rfl, rfl, ⟨H.h0, H.h2, H.h4, H.h6, fun h => (H.below h).trans (HB9.out.mono (H.below h).size), fun h => ⟨(H.ord5 h).1, rfl, (H.ord5 h).2.2.1, (H.ord5 h).2.2.2.1, (H.ord5 h).2.2.2.2⟩, H.ord7, fun h => ⟨rfl, (H.ord3 h).2⟩, fun _ _ => ⟨A9, c9, rfl, HI9.out.1, HI9.out.2⟩, fun h h2 => (by obtain ⟨A1, c1, y1, y2, y3⟩ := H.n3 h h2; exact ⟨A1, c1, y1, y2.ext HB9.out, y3⟩), fun h => absurd (H.ord5 h).2.1 (by simp [hi]), fun h => absurd (H.ord5 (H.ord7 h).1).2.1 (by simp [hi])⟩⟩)
        · have b5f : b5 = false := by
            cases hb : b5 with
            | false => rfl
            | true => exact absurd (H.ord5 hb).2.2.1 (by simp [hi])
          have pw := HP40.out.below (H.below b5f) HP40.out.lt
          have cc0 := pw.cell_ 0 (.int .i64 st) rfl
          have cc1 := pw.cell_ 1 (.slice A ps.length c) rfl
          have cc2 := pw.cell_ 2 (.slice B hs.length d) rfl
          clear pw
          clear b5f
          refine wpOp_hidden rfl fun K hK => ?_
          go_wp2
          refine OnlyN.mk (hK.out _ _ ⟨_, _, true, _, _, _, _, _, _, _, .agg #[.int .i64 st, .slice A ps.length c, .slice B hs.length d], _, _, _, rfl, rfl, ⟨H.h0, fun _ => rfl, H.h4, H.h6, H.below, fun h => ⟨(H.ord5 h).1, (H.ord5 h).2.1, rfl, (H.ord5 h).2.2.2.1, (H.ord5 h).2.2.2.2⟩, H.ord7, fun h => ⟨(H.ord3 h).1, rfl⟩, H.n1, H.n3, H.n5, H.n7⟩⟩)
        · have b5f : b5 = false := by
            cases hb : b5 with
            | false => rfl
            | true => exact absurd (H.ord5 hb).2.2.2.1 (by simp [hi])
          obtain rfl := H.h2 (by simp [hi])
          have HB0' := Lib.hid (H.below b5f)
          have HCX := Lib.hid (HNS.out w' (HB4.out.trans (HB0'.out.mono HB4.out.size)))
          clear b5f
          refine wpOp_hidden rfl fun K hK => ?_
          go_wp2_with (go_at_call 25; refine HCX.out.mono ?_)
          rintro e w9 ⟨A9, c9, rfl, hi9, hn9, hb9⟩
          have HI9 := Lib.hid (And.intro hi9 (hn9.mono HB0'.out.size))
          have HB9 := Lib.hid hb9
          clear hi9 hn9 hb9 HCX
          go_wp2
          refine OnlyN.mk (hK.out _ _ ⟨_, _, _, true, _, _, _, _, _, _, _, .slice A9 zs.length c9, _, _, rfl, rfl, ⟨H.h0, H.h2, H.h4, H.h6, fun h => (H.below h).trans (HB9.out.mono (H.below h).size), fun h => ⟨(H.ord5 h).1, (H.ord5 h).2.1, (H.ord5 h).2.2.1, rfl, (H.ord5 h).2.2.2.2⟩, H.ord7, fun h => (by simp [hi]), fun h h2 => (by obtain ⟨A1, c1, y1, y2, y3⟩ := H.n1 h h2; exact ⟨A1, c1, y1, y2.ext HB9.out, y3⟩), fun _ _ => ⟨A9, c9, rfl, HI9.out.1, HI9.out.2⟩, fun h => absurd (H.ord5 h).2.2.2.1 (by simp [hi]), fun h => absurd (H.ord5 (H.ord7 h).1).2.2.2.1 (by simp [hi])⟩⟩)
        · refine wpOp_hidden rfl fun K hK => ?_
          go_wp2
          refine OnlyN.mk (hK.out _ _ ⟨_, _, _, _, true, _, _, _, _, _, _, _, .pointer (some ⟨w.heap.size + 1 + 1, 2, none⟩), _, rfl, rfl, ⟨H.h0, H.h2, fun _ => rfl, H.h6, H.below, fun h => ⟨(H.ord5 h).1, (H.ord5 h).2.1, (H.ord5 h).2.2.1, (H.ord5 h).2.2.2.1, rfl⟩, H.ord7, H.ord3, H.n1, H.n3, H.n5, H.n7⟩⟩)
        · obtain rfl := H.h4 (by simp [hi])
          have b5f : b5 = false := by simp [hi]
          obtain ⟨A8, c8, e26, hi8, hn8⟩ := H.n1 (by simp [hi]) b5f
          obtain ⟨A9, c9, e28, hi9, hn9⟩ := H.n3 (by simp [hi]) b5f
          subst e26 e28
          have HBL := Lib.hid (H.below b5f)
          have HI8 := Lib.hid (And.intro (And.intro hi8 hn8) (And.intro hi9 hn9))
          have rw := HR4.out.below HBL.out HR4.out.lt
          have xx2 := rw.cell_ 2 (.slice none 0 0) rfl
          have ff2 := rw.frozen 2
          clear hi8 hn8 hi9 hn9 rw b5f
          refine wpOp_hidden rfl fun K hK => ?_
          go_wp2
          refine OnlyN.mk (hK.out _ _ ⟨_, _, _, _, _, true, _, _, _, _, _, _, _, _, rfl, rfl, ⟨H.h0, H.h2, H.h4, H.h6, fun h => (by cases h), fun _ => (by have := H.ord3 (by simp [hi]); simp [hi, this]), fun h => absurd (H.ord7 h).1 (by simp [hi]), H.ord3, fun _ h => (by cases h), fun _ h => (by cases h), fun _ _ => ⟨A8, c8, A9, c9, _, rfl, rfl, HBL.out, HI8.out.1, HI8.out.2, rfl⟩, fun h => absurd (H.ord7 h).1 (by simp [hi])⟩⟩)
        · refine wpOp_hidden rfl fun K hK => ?_
          go_wp2
          refine OnlyN.mk (hK.out _ _ ⟨_, _, _, _, _, _, true, _, _, _, _, _, _, .pointer (some ⟨w.heap.size + 1 + 1, 3, none⟩), rfl, rfl, ⟨H.h0, H.h2, H.h4, fun _ => rfl, H.below, H.ord5, fun h => ⟨(H.ord7 h).1, rfl⟩, H.ord3, H.n1, H.n3, H.n5, H.n7⟩⟩)
        · obtain rfl := H.h6 (by simp [hi])
          obtain ⟨A8, c8, A9, c9, w5, e26, e28, hb5, h8, h9, hw5⟩ := H.n5 (by simp [hi]) (by simp [hi])
          subst e26 e28
          have HI8 := Lib.hid (And.intro hb5 (And.intro h8 (And.intro h9 hw5)))
          have rw := (HR4.out.below hb5 HR4.out.lt).set_ 2 (.slice A8 zb.length c8)
          rw [← hw5] at rw
          have xx3 := rw.cell_ 3 (.slice none 0 0) rfl
          have ff3 := rw.frozen 3
          clear hb5 h8 h9 hw5 rw
          refine wpOp_hidden rfl fun K hK => ?_
          go_wp2
          refine OnlyN.mk (hK.out _ _ ⟨_, _, _, _, _, _, _, true, _, _, _, _, _, _, rfl, rfl, ⟨H.h0, H.h2, H.h4, H.h6, fun h => absurd h (by simp [hi]), H.ord5, fun _ => (by simp [hi]), H.ord3, fun _ h => absurd h (by simp [hi]), fun _ h => absurd h (by simp [hi]), fun _ h => (by cases h), fun _ => ⟨A8, c8, A9, c9, w5, rfl, rfl, HI8.out.1, HI8.out.2.1, HI8.out.2.2.1, (by rw [← HI8.out.2.2.2])⟩⟩⟩)
      · rintro listed act w' hr ⟨b0, b1, b2, b3, b4, b5, b6, b7, v25, v26, v27, v28, v29, v30, rfl, rfl, H⟩
        have hn := List.eq_nil_iff_forall_not_mem.1 hr
        have r0 := hn 0
        simp [mem_ready, Region.binds] at r0
        subst r0
        have r1 := hn 1
        simp [mem_ready, Region.binds] at r1
        subst r1
        have r2 := hn 2
        simp [mem_ready, Region.binds] at r2
        subst r2
        have r3 := hn 3
        simp [mem_ready, Region.binds] at r3
        subst r3
        have r4 := hn 4
        simp [mem_ready, Region.binds] at r4
        subst r4
        have r5 := hn 5
        simp [mem_ready, Region.binds] at r5
        subst r5
        have r6 := hn 6
        simp [mem_ready, Region.binds] at r6
        subst r6
        have r7 := hn 7
        simp [mem_ready, Region.binds] at r7
        subst r7
        try dsimp only
        obtain ⟨A8, c8, A9, c9, w5, e26, e28, hb5, ⟨hi8, hn8⟩, ⟨hi9, hn9⟩, hw5⟩ := H.n7 rfl
        have e25 := H.h0 rfl
        have e27 := H.h2 rfl
        have e29 := H.h4 rfl
        have e30 := H.h6 rfl
        subst e26 e28 e25 e27 e29 e30
        have hk6 : Kept (fun g => g = w.heap.size + 1 + 1) w5 w' := by rw [hw5]; exact ((Kept.refl (fun g => g = w.heap.size + 1 + 1) w5).setCell (p := ⟨w.heap.size + 1 + 1, 2, none⟩) (Or.inl rfl) _).setCell (p := ⟨w.heap.size + 1 + 1, 3, none⟩) (Or.inl rfl) _
        have hb45 : Below w.heap.size w w5 := HB4.out.trans (hb5.mono HB4.out.size)
        have HB6 : Hid (Below w.heap.size w w') := Lib.hid (hb45.trans (hk6.to_below hb45.size (fun g hg e => by omega)))
        have HR6 : Hid (Blk w' (w.heap.size + 1 + 1) 30 #[.slice A3 ps.length c3, .int .i64 st, .slice A8 zb.length c8, .slice A9 zs.length c9]) := Lib.hid (by rw [hw5]; exact ((HR4.out.below hb5 HR4.out.lt).set_ 2 (.slice A8 zb.length c8)).set_ 3 (.slice A9 zs.length c9))
        have hlt4 := HLT4.out
        have hlt2 : w.heap.size + 1 + 1 < w2.heap.size := HR2.out.lt
        have HQ6 : Hid (Blk w' (w.heap.size + 1) 30 #[.slice none 0 0, .int .i64 0, .slice none 0 0, .slice none 0 0]) := Lib.hid (hk6.blk (HQ4.out.below hb5 HQ4.out.lt) (by omega))
        have HP06 : Hid (Blk w' w.heap.size 25 #[.int .i64 st, .slice A ps.length c, .slice B hs.length d]) := Lib.hid (hk6.blk (HP40.out.below hb5 HP40.out.lt) (by omega))
        obtain ⟨y, hy⟩ : ∃ y : TotL, y = ⟨ps, st, zb, zs⟩ := ⟨_, rfl⟩
        have hty : totOf t = y := by unfold totOf; rw [hy, HTE.out.2.1, HTE.out.2.2, HZ.out.1, HZ.out.2]
        have HTR6 : Hid (TotR w' A3 A8 A9 y) := Lib.hid (by
          rw [hy, hw5]
          exact ⟨((HP4.out.ext hb5).set_new (p := ⟨w.heap.size + 1 + 1, 2, none⟩) HN3.out hlt2 _).set_new (p := ⟨w.heap.size + 1 + 1, 3, none⟩) HN3.out hlt2 _, (hi8.set_new (p := ⟨w.heap.size + 1 + 1, 2, none⟩) hn8 hlt4 _).set_new (p := ⟨w.heap.size + 1 + 1, 3, none⟩) hn8 hlt4 _, (hi9.set_new (p := ⟨w.heap.size + 1 + 1, 2, none⟩) hn9 hlt4 _).set_new (p := ⟨w.heap.size + 1 + 1, 3, none⟩) hn9 hlt4 _⟩)
        have htot := totals_any A3 A8 A9 c3 c8 c9 y w' HTR6.out ((HTB.out.on HB6.out).up HB6.out.size)
        obtain ⟨u, hu⟩ : ∃ u, u = (totT y).1 := ⟨_, rfl⟩
        have hte : totT y = (u, 0) := by
          have h1 := HTR.out
          rw [hty] at h1
          rw [hu]
          unfold totT
          rw [if_pos h1]
        rw [hte] at htot
        unfold RetAE totV at htot
        rw [hy] at htot
        dsimp only at htot
        have H30 := Lib.hid htot
        have HBK6 : Hid (backP t = if sameP u (redT t) = true then (y, true) else (TotL.zero, false)) := Lib.hid (by rw [HBK.out, hty, hu])
        have HY := Lib.hid hy
        have HN8 := Lib.hid hn8
        have HN9 := Lib.hid hn9
        have x0 := HR6.out.cell_ 0 (.slice A3 ps.length c3) rfl
        have x1 := HR6.out.cell_ 1 (.int .i64 st) rfl
        have x2 := HR6.out.cell_ 2 (.slice A8 zb.length c8) rfl
        have x3 := HR6.out.cell_ 3 (.slice A9 zs.length c9) rfl
        clear H hr hn hk6 hb45 hb5 hi8 hn8 hi9 hn9 hw5 hlt4 hlt2 hy hty hu hte htot HNB HNS HZ HKN HTR HBK HP4 HQ4 HP40 HR4
        go_wp2_with (go_at_call 10; refine H30.out.mono ?_; intro e w7 hx; obtain ⟨s7, A7, n7, c7, B7, m7, d7, rfl, hat7, hb7⟩ := hx; refine Hid.out ?_)
        refine Lib.hid ?_
        obtain ⟨w8, hw8⟩ : ∃ w8, w8 = w7.alloc (.cells #[.int .i64 s7, .slice A7 n7 c7, .slice B7 m7 d7] 25) := ⟨_, rfl⟩
        obtain ⟨pU, hpU⟩ : ∃ p, p = w7.heap.size := ⟨_, rfl⟩
        have hv8 := TrV.new hat7
        rw [← hw8, ← hpU] at hv8
        have HU := Lib.hid hv8
        have hb78 : Below w7.heap.size w7 w8 := by rw [hw8]; exact below_new _ _
        have hb68 : Below w'.heap.size w' w8 := hb7.trans (hb78.mono hb7.size)
        have HB := Lib.hid (HB6.out.trans (hb68.mono HB6.out.size))
        have HR8 := Lib.hid (HR6.out.below hb68 HR6.out.lt)
        have HQ8 := Lib.hid (HQ6.out.below hb68 HQ6.out.lt)
        have HTR8 := Lib.hid (HTR6.out.ext hb68)
        have HT : Hid (TrV w8 w.heap.size st A ps.length c B hs.length d t) := Lib.hid ⟨HP06.out.below hb68 HP06.out.lt, ⟨A, c, B, d, hs, by rw [HTE.out.1], by rw [HTE.out.1]; exact HNW.out.1.ext HB.out, HNW.out.2.ext HB.out, by rw [HTE.out.1]⟩⟩
        have HW8 := Lib.hid (And.intro hw8 hpU)
        clear x0 x1 x2 x3 hat7 hb7 hv8 hb78 hb68 hw8 hpU H30 HR6 HQ6 HTR6 HP06
        go_upto_region 7 with fail
        rw [← HW8.out.1, ← HW8.out.2]
        obtain ⟨sb, hsb⟩ : ∃ sb, sb = sameP u (redT t) := ⟨_, rfl⟩
        have HSB := Lib.hid hsb.symm
        rw [← hsb] at HBK6
        clear hsb
        refine wp_region_J (by kernel_rfl) (fun listed act w' => ∃ b0 b1 b2 b3 b4 b5 b6 b7 b8 v36 v37 v38 v39 v40 v41 v42 v43 v44, listed = #[b0, b1, b2, b3, b4, b5, b6, b7, b8] ∧ act = Act.mk #[.agg #[.int .i64 st, .slice A ps.length c, .slice B hs.length d], .pointer (some ⟨w.heap.size, 0, none⟩), .pointer (some ⟨w.heap.size + 1, 0, none⟩), .bool false, .pointer (some ⟨w.heap.size + 1 + 1, 0, none⟩), .pointer (some ⟨pU, 0, none⟩), .int .i64 0, .pointer (some ⟨w.heap.size, 1, none⟩), .slice A ps.length c, .pointer (some ⟨w.heap.size, 0, none⟩), .int .i64 st, .agg #[.slice A ps.length c, .int .i64 st, .slice none 0 0, .slice none 0 0], .agg #[.int .i64 st, .slice A ps.length c, .slice B hs.length d], .bool true, .bool false, .bool false, .agg #[.slice A ps.length c, .int .i64 st, .slice none 0 0, .slice none 0 0], .bool true, .bool false, .bool false, undef, .pointer (some ⟨w.heap.size, 1, none⟩), .slice A ps.length c, .slice A3 ps.length c3, .pointer (some ⟨w.heap.size + 1 + 1, 0, none⟩), .agg #[.int .i64 st, .slice A ps.length c, .slice B hs.length d], .slice A8 zb.length c8, .agg #[.int .i64 st, .slice A ps.length c, .slice B hs.length d], .slice A9 zs.length c9, .pointer (some ⟨w.heap.size + 1 + 1, 2, none⟩), .pointer (some ⟨w.heap.size + 1 + 1, 3, none⟩), .tuple #[.agg #[.int .i64 s7, .slice A7 n7 c7, .slice B7 m7 d7], .int .i64 0], .agg #[.slice A3 ps.length c3, .int .i64 st, .slice A8 zb.length c8, .slice A9 zs.length c9], .tuple #[.agg #[.int .i64 s7, .slice A7 n7 c7, .slice B7 m7 d7], .int .i64 0], .agg #[.int .i64 s7, .slice A7 n7 c7, .slice B7 m7 d7], .int .i64 0, v36, v37, v38, v39, v40, v41, v42, v43, v44, undef, undef] [] ∧ Bk7J w8 (.agg #[.int .i64 s7, .slice A7 n7 c7, .slice B7 m7 d7]) (.agg #[.int .i64 st, .slice A ps.length c, .slice B hs.length d]) t sb b0 b1 b2 b3 b4 b5 b6 b7 b8 v36 v37 v38 v39 v40 v41 v42 v43 v44 w') ?_ ?_ ?_
        · exact ⟨_, _, _, _, _, _, _, _, _, _, _, _, _, _, _, _, _, _, rfl, rfl, ⟨(by simp), (by simp), (by simp), (by simp), (by simp), (by simp), (by simp), (by simp), (Below.refl _ w8).drew, (by simp)⟩⟩
        · rintro i listed act w' hi ⟨b0, b1, b2, b3, b4, b5, b6, b7, b8, v36, v37, v38, v39, v40, v41, v42, v43, v44, rfl, rfl, H⟩
          have hi16 : i < 9 := by
            obtain ⟨-, o, ho, -⟩ := mem_ready.1 hi
            exact (Array.getElem?_eq_some_iff.1 ho).1
          obtain rfl | rfl | rfl | rfl | rfl | rfl | rfl | rfl | rfl : i = 0 ∨ i = 1 ∨ i = 2 ∨ i = 3 ∨ i = 4 ∨ i = 5 ∨ i = 6 ∨ i = 7 ∨ i = 8 := by omega
          all_goals simp [mem_ready, Region.binds] at hi
          · refine wpOp_hidden rfl fun K hK => ?_
            go_wp2
            refine OnlyN.mk (hK.out _ _ ⟨true, _, _, _, _, _, _, _, _, .int .i64 0, _, _, _, _, _, _, _, _, rfl, rfl, ⟨fun _ => rfl, H.h1, H.h2, H.h3, H.h4, H.h6, H.h7, H.h8, H.below, H.t5⟩⟩)
          · obtain rfl := H.h0 (by simp [hi])
            refine wpOp_hidden rfl fun K hK => ?_
            go_wp2
            refine OnlyN.mk (hK.out _ _ ⟨_, true, _, _, _, _, _, _, _, _, .bool false, _, _, _, _, _, _, _, rfl, rfl, ⟨H.h0, fun _ => rfl, H.h2, H.h3, H.h4, H.h6, H.h7, H.h8, H.below, H.t5⟩⟩)
          · obtain rfl := H.h1 (by simp [hi])
            refine wpOp_hidden rfl fun K hK => ?_
            go_wp2
            refine OnlyN.mk (hK.out _ _ ⟨_, _, true, _, _, _, _, _, _, _, _, .bool false, _, _, _, _, _, _, rfl, rfl, ⟨H.h0, H.h1, fun _ => rfl, H.h3, H.h4, H.h6, H.h7, H.h8, H.below, H.t5⟩⟩)
          · obtain rfl := H.h2 (by simp [hi])
            obtain ⟨g0, g1, g2⟩ := (HU.out.ext H.below).cells
            refine wpOp_hidden rfl fun K hK => ?_
            go_wp2
            refine OnlyN.mk (hK.out _ _ ⟨_, _, _, true, _, _, _, _, _, _, _, _, .agg #[.int .i64 s7, .slice A7 n7 c7, .slice B7 m7 d7], _, _, _, _, _, rfl, rfl, ⟨H.h0, H.h1, H.h2, fun _ => rfl, H.h4, H.h6, H.h7, H.h8, H.below, H.t5⟩⟩)
          · obtain rfl := H.h2 (by simp [hi])
            obtain ⟨g0, g1, g2⟩ := (HT.out.ext H.below).cells
            refine wpOp_hidden rfl fun K hK => ?_
            go_wp2
            refine OnlyN.mk (hK.out _ _ ⟨_, _, _, _, true, _, _, _, _, _, _, _, _, .agg #[.int .i64 st, .slice A ps.length c, .slice B hs.length d], _, _, _, _, rfl, rfl, ⟨H.h0, H.h1, H.h2, H.h3, fun _ => rfl, H.h6, H.h7, H.h8, H.below, H.t5⟩⟩)
          · obtain rfl := H.h2 (by simp [hi])
            obtain rfl := H.h4 (by simp [hi])
            have HB0 := Lib.hid (H.below)
            have hcall := red_tv (HT.out.ext HB0.out).at_ ((HTB.out.on (HB.out.trans (HB0.out.mono HB.out.size))).up (HB.out.trans (HB0.out.mono HB.out.size)).size)
            have HCALL := Lib.hid hcall
            clear hcall
            refine wpOp_hidden rfl fun K hK => ?_
            go_wp2_with (go_at_call 27; refine HCALL.out.mono ?_; intro e w9 hx; obtain ⟨s9, A9, n9, c9, B9, m9, d9, rfl, hat, hb9⟩ := hx; refine Hid.out ?_)
            refine Lib.hid ?_
            have HB9 := Lib.hid hb9
            have HAT := Lib.hid hat
            clear hat
            clear hb9 HCALL
            go_wp2
            refine OnlyN.mk (hK.out _ _ ⟨_, _, _, _, _, true, _, _, _, _, _, _, _, _, .agg #[.int .i64 s9, .slice A9 n9 c9, .slice B9 m9 d9], _, _, _, rfl, rfl, ⟨(H.world HB9.out).h0, (H.world HB9.out).h1, (H.world HB9.out).h2, (H.world HB9.out).h3, (H.world HB9.out).h4, (H.world HB9.out).h6, (H.world HB9.out).h7, (H.world HB9.out).h8, (H.world HB9.out).below, fun _ => HAT.out⟩⟩)
          · obtain rfl := H.h2 (by simp [hi])
            obtain rfl := H.h3 (by simp [hi])
            have ht5 := H.t5 (by simp [hi])
            have HB0 := Lib.hid (H.below)
            have hcall := tsame_at (HU.out.ext HB0.out).at_ ht5
            rw [HSB.out] at hcall
            have HCALL := Lib.hid hcall
            clear hcall
            refine wpOp_hidden rfl fun K hK => ?_
            go_wp2_with (go_at_call 26; refine HCALL.out.mono ?_; intro e w9 hx; obtain ⟨rfl, hb9⟩ := hx; refine Hid.out ?_)
            refine Lib.hid ?_
            have HB9 := Lib.hid hb9
            clear hb9 HCALL
            go_wp2
            refine OnlyN.mk (hK.out _ _ ⟨_, _, _, _, _, _, true, _, _, _, _, _, _, _, _, .bool sb, _, _, rfl, rfl, ⟨(H.world HB9.out).h0, (H.world HB9.out).h1, (H.world HB9.out).h2, (H.world HB9.out).h3, (H.world HB9.out).h4, fun _ => rfl, (H.world HB9.out).h7, (H.world HB9.out).h8, (H.world HB9.out).below, (H.world HB9.out).t5⟩⟩)
          · obtain rfl := H.h2 (by simp [hi])
            obtain rfl := H.h6 (by simp [hi])
            refine wpOp_hidden rfl fun K hK => ?_
            go_wp2
            refine OnlyN.mk (hK.out _ _ ⟨_, _, _, _, _, _, _, true, _, _, _, _, _, _, _, _, .bool (!sb), _, rfl, rfl, ⟨H.h0, H.h1, H.h2, H.h3, H.h4, H.h6, fun _ => rfl, H.h8, H.below, H.t5⟩⟩)
          · obtain rfl := H.h2 (by simp [hi])
            obtain rfl := H.h7 (by simp [hi])
            refine wpOp_hidden rfl fun K hK => ?_
            go_wp2
            refine OnlyN.mk (hK.out _ _ ⟨_, _, _, _, _, _, _, _, true, _, _, _, _, _, _, _, _, .bool (!sb), rfl, rfl, ⟨H.h0, H.h1, H.h2, H.h3, H.h4, H.h6, H.h7, fun _ => rfl, H.below, H.t5⟩⟩)
        · rintro listed act w' hr ⟨b0, b1, b2, b3, b4, b5, b6, b7, b8, v36, v37, v38, v39, v40, v41, v42, v43, v44, rfl, rfl, H⟩
          have hn := List.eq_nil_iff_forall_not_mem.1 hr
          have r0 := hn 0
          simp [mem_ready, Region.binds] at r0
          subst r0
          have r1 := hn 1
          simp [mem_ready, Region.binds] at r1
          subst r1
          have r2 := hn 2
          simp [mem_ready, Region.binds] at r2
          subst r2
          have r3 := hn 3
          simp [mem_ready, Region.binds] at r3
          subst r3
          have r4 := hn 4
          simp [mem_ready, Region.binds] at r4
          subst r4
          have r5 := hn 5
          simp [mem_ready, Region.binds] at r5
          subst r5
          have r6 := hn 6
          simp [mem_ready, Region.binds] at r6
          subst r6
          have r7 := hn 7
          simp [mem_ready, Region.binds] at r7
          subst r7
          have r8 := hn 8
          simp [mem_ready, Region.binds] at r8
          subst r8
          try dsimp only
          obtain rfl := H.h8 rfl
          obtain rfl := H.h0 rfl
          obtain rfl := H.h1 rfl
          obtain rfl := H.h2 rfl
          have HBF := Lib.hid H.below
          have HR9 := Lib.hid (HR8.out.below H.below HR8.out.lt)
          have HQ9 := Lib.hid (HQ8.out.below H.below HQ8.out.lt)
          have HTR9 := Lib.hid (HTR8.out.ext H.below)
          have HBX := Lib.hid (HB.out.trans (H.below.mono HB.out.size))
          have d0 := HQ9.out.cell_ 0 (.slice none 0 0) rfl
          have d1 := HQ9.out.cell_ 1 (.int .i64 0) rfl
          have d2 := HQ9.out.cell_ 2 (.slice none 0 0) rfl
          have d3 := HQ9.out.cell_ 3 (.slice none 0 0) rfl
          have f0 := HQ9.out.frozen 0
          have f1 := HQ9.out.frozen 1
          have f2 := HQ9.out.frozen 2
          have f3 := HQ9.out.frozen 3
          clear H hr hn HBF HR8 HQ8 HTR8 HB HU HT
          cases sb with
          | false =>
            have HE : Hid (backP t = (TotL.zero, false)) := Lib.hid (by rw [HBK6.out]; rfl)
            go_wp2
            have hq : Blk ((((w'.setCell ⟨w.heap.size + 1, 0, none⟩ (.slice none 0 0)).setCell ⟨w.heap.size + 1, 1, none⟩ (.int .i64 0)).setCell ⟨w.heap.size + 1, 2, none⟩ (.slice none 0 0)).setCell ⟨w.heap.size + 1, 3, none⟩ (.slice none 0 0)) (w.heap.size + 1) 30 #[.slice none 0 0, .int .i64 0, .slice none 0 0, .slice none 0 0] := (((HQ9.out.set_ 0 (.slice none 0 0)).set_ 1 (.int .i64 0)).set_ 2 (.slice none 0 0)).set_ 3 (.slice none 0 0)
            rw [HE.out]
            exact bodyPost_ret (results_ct Tryz.results7 _ _ (w.heap.size + 1) 30 #[.slice none 0 0, .int .i64 0, .slice none 0 0, .slice none 0 0] (0, 0) _ rfl hq Tryz.underlying30 rfl Tryz.sizeTot) rfl
              ⟨none, 0, none, 0, none, 0, rfl, ⟨Pts.nil, Ints.nil, Ints.nil⟩, (((HBX.out.setCell (p := ⟨w.heap.size + 1, 0, none⟩) (by simp) _).setCell (p := ⟨w.heap.size + 1, 1, none⟩) (by simp) _).setCell (p := ⟨w.heap.size + 1, 2, none⟩) (by simp) _).setCell (p := ⟨w.heap.size + 1, 3, none⟩) (by simp) _⟩
          | true =>
            have HE : Hid (backP t = (y, true)) := Lib.hid (by rw [HBK6.out]; rfl)
            have x0 := HR9.out.cell_ 0 (.slice A3 ps.length c3) rfl
            have x1 := HR9.out.cell_ 1 (.int .i64 st) rfl
            have x2 := HR9.out.cell_ 2 (.slice A8 zb.length c8) rfl
            have x3 := HR9.out.cell_ 3 (.slice A9 zs.length c9) rfl
            go_wp2
            have hq : Blk ((((w'.setCell ⟨w.heap.size + 1, 0, none⟩ (.slice A3 ps.length c3)).setCell ⟨w.heap.size + 1, 1, none⟩ (.int .i64 st)).setCell ⟨w.heap.size + 1, 2, none⟩ (.slice A8 zb.length c8)).setCell ⟨w.heap.size + 1, 3, none⟩ (.slice A9 zs.length c9)) (w.heap.size + 1) 30 #[.slice A3 ps.length c3, .int .i64 st, .slice A8 zb.length c8, .slice A9 zs.length c9] := (((HQ9.out.set_ 0 (.slice A3 ps.length c3)).set_ 1 (.int .i64 st)).set_ 2 (.slice A8 zb.length c8)).set_ 3 (.slice A9 zs.length c9)
            have hbf := (((HBX.out.setCell (p := ⟨w.heap.size + 1, 0, none⟩) (by simp) (.slice A3 ps.length c3)).setCell (p := ⟨w.heap.size + 1, 1, none⟩) (by simp) (.int .i64 st)).setCell (p := ⟨w.heap.size + 1, 2, none⟩) (by simp) (.slice A8 zb.length c8)).setCell (p := ⟨w.heap.size + 1, 3, none⟩) (by simp) (.slice A9 zs.length c9)
            have htr : TotR ((((w'.setCell ⟨w.heap.size + 1, 0, none⟩ (.slice A3 ps.length c3)).setCell ⟨w.heap.size + 1, 1, none⟩ (.int .i64 st)).setCell ⟨w.heap.size + 1, 2, none⟩ (.slice A8 zb.length c8)).setCell ⟨w.heap.size + 1, 3, none⟩ (.slice A9 zs.length c9)) A3 A8 A9 y := by
              obtain ⟨z1, z2, z3⟩ := HTR9.out
              have k1 : w.heap.size + 1 < w2.heap.size := Nat.lt_of_succ_lt HR2.out.lt
              have k4 : w.heap.size + 1 < w4.heap.size := Nat.lt_of_succ_lt HLT4.out
              exact ⟨((((z1.set_new (p := ⟨w.heap.size + 1, 0, none⟩) HN3.out k1 _).set_new (p := ⟨w.heap.size + 1, 1, none⟩) HN3.out k1 _).set_new (p := ⟨w.heap.size + 1, 2, none⟩) HN3.out k1 _).set_new (p := ⟨w.heap.size + 1, 3, none⟩) HN3.out k1 _), ((((z2.set_new (p := ⟨w.heap.size + 1, 0, none⟩) HN8.out k4 _).set_new (p := ⟨w.heap.size + 1, 1, none⟩) HN8.out k4 _).set_new (p := ⟨w.heap.size + 1, 2, none⟩) HN8.out k4 _).set_new (p := ⟨w.heap.size + 1, 3, none⟩) HN8.out k4 _), ((((z3.set_new (p := ⟨w.heap.size + 1, 0, none⟩) HN9.out k4 _).set_new (p := ⟨w.heap.size + 1, 1, none⟩) HN9.out k4 _).set_new (p := ⟨w.heap.size + 1, 2, none⟩) HN9.out k4 _).set_new (p := ⟨w.heap.size + 1, 3, none⟩) HN9.out k4 _)⟩
            rw [HE.out]
            refine bodyPost_ret (results_ct Tryz.results7 _ _ (w.heap.size + 1) 30 #[.slice A3 ps.length c3, .int .i64 st, .slice A8 zb.length c8, .slice A9 zs.length c9] (0, 0) _ rfl hq Tryz.underlying30 rfl Tryz.sizeTot) rfl
              ⟨A3, c3, A8, c8, A9, c9, ?_, htr, hbf⟩
            rw [HY.out]
            rfl
end Go.Proofs.YtmlhkbgifnifdaaGreatDoor
