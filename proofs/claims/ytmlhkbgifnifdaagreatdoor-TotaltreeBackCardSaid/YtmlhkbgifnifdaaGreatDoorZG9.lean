/-
  reduce.Reduce. No condition but that the library's table is there.
  hood.Same, tree.Same. No condition.
  Trees as values; tree.Same over them. No condition.
  cellularref13.same. No condition.
-/
import Derived.Test.YtmlhkbgifnifdaaGreatDoorZG8
namespace Go.Proofs.YtmlhkbgifnifdaaGreatDoor
open Go.RowKit
set_option maxRecDepth 100000
set_option linter.unusedVariables false
set_option linter.unusedSimpArgs false

/-- a tree as it is meant: states, neighbourhood, nodes -/
structure PT where
  st : Int
  ps : List (Int × Int)
  ns : List Nd
def PT.zero : PT := ⟨0, [], []⟩
def PT.right (t : PT) : Bool := rightN t.st t.ps t.ns
def RetT (t : PT) (w : World) (e : Ending) (w' : World) : Prop := RetTree t.st t.ps t.ns w e w'
def redT (t : PT) : PT := if t.right then ⟨t.st, t.ps, redN chR t.ns⟩ else PT.zero
theorem RetTree.mono {st : Int} {ps : List (Int × Int)} {ns : List Nd} {w w0 w' : World} {e : Ending} (h : RetTree st ps ns w e w') (hb : Below w0.heap.size w0 w) : RetTree st ps ns w0 e w' := by
  obtain ⟨hv, nv, os, h1, h2, h3, h4, h5⟩ := h
  exact ⟨hv, nv, os, h1, own_down h2 hb.size, ⟨own_down h3.1 hb.size, fun x hx => (h3.2 x hx).down hb.size⟩, h4, hb.trans (h5.mono hb.size)⟩
/-- the tree is a value of two slices -/
theorem RetTree.form {st : Int} {ps : List (Int × Int)} {ns : List Nd} {w w' : World} {e : Ending} (h : RetTree st ps ns w e w') :
    ∃ A c B d os, e = .returned (.agg #[.int .i64 st, .slice A ps.length c, .slice B os.length d]) ∧ OwnP 51 w' w.heap.size (.slice A ps.length c) ps ∧ OwnNA w' w.heap.size (.slice B os.length d) os ∧ Pts w' A ps ∧ Nds w' B os ∧ os.map Hd.nd = ns ∧ Below w.heap.size w w' := by
  obtain ⟨hv, nv, os, h1, h2, h3, h4, h5⟩ := h
  obtain ⟨A, c, e1, p1, -⟩ := h2.pts
  obtain ⟨B, d, e2, p2, -⟩ := h3.nds
  subst e1 e2
  exact ⟨A, c, B, d, os, h1, h2, h3, p1, p2, h4, h5⟩
theorem redn_any (st : Int) (A : Option Addr) (c : Nat) (ps : List (Int × Int)) (B : Option Addr) (d : Nat) (hs : List Hd) (w : World) (hp : Pts w A ps) (hN : Nds w B hs) (ht : TabB w.heap.size w) (hr : rightN st ps (hs.map Hd.nd) = true) :
    Calls Tryz.prog 61 #[.agg #[.int .i64 st, .slice A ps.length c, .slice B hs.length d], .func (.func 62) #[] #[]] w (RetTree st ps (redN chR (hs.map Hd.nd)) w) := by
  obtain ⟨a1, a2, a3, a4, a5, a6, a7, a8, a9⟩ := rightN_parts hr
  rw [List.length_map] at a4 a5
  exact rebuilt_red chR st A c ps B d hs w hp hN st.toNat (by omega) (by omega) a8 (fun i hi => by have := a9 i (by rw [List.length_map]; exact hi); omega) (chR_chg _) (by omega) (by omega) (by omega) ht
    (fun W base g cx zs lv _ _ _ _ _ _ ho => clR_any W base g cx zs lv ho)
set_option maxHeartbeats 4000000 in
theorem reduce_any (st : Int) (A : Option Addr) (c : Nat) (ps : List (Int × Int)) (B : Option Addr) (d : Nat) (hs : List Hd) (w : World) (hp : Pts w A ps) (hN : Nds w B hs) (ht : TabB w.heap.size w) :
    Calls Tryz.prog 27 #[.agg #[.int .i64 st, .slice A ps.length c, .slice B hs.length d]] w (RetT (redT ⟨st, ps, hs.map Hd.nd⟩) w) := by
  obtain ⟨w0, hw0⟩ : ∃ w0, w0 = (w.alloc (.cells #[.int .i64 st, .slice A ps.length c, .slice B hs.length d] 25)).alloc (.cells #[.int .i64 0, .slice none 0 0, .slice none 0 0] 25) := ⟨_, rfl⟩
  have hb1 := below_new w (.cells #[.int .i64 st, .slice A ps.length c, .slice B hs.length d] 25)
  have hb0 : Below w.heap.size w w0 := by rw [hw0]; exact hb1.alloc hb1.size _
  have p0 : Blk w0 w.heap.size 25 #[.int .i64 st, .slice A ps.length c, .slice B hs.length d] := by rw [hw0]; exact (Blk.new w _ _).alloc _
  have q0 : Blk w0 (w.heap.size + 1) 25 #[.int .i64 0, .slice none 0 0, .slice none 0 0] := by
    rw [hw0]
    have := Blk.new (w.alloc (.cells #[.int .i64 st, .slice A ps.length c, .slice B hs.length d] 25)) 25 #[.int .i64 0, .slice none 0 0, .slice none 0 0]
    simpa using this
  have HR := Lib.hid (right_any st A c ps B d hs w0 (hp.ext hb0) (hN.ext hb0))
  have HP := Lib.hid (hp.ext hb0)
  have HN := Lib.hid (hN.ext hb0)
  have HT := Lib.hid (ht.on hb0)
  have HB0 := Lib.hid hb0
  have HP0 := Lib.hid p0
  have HQ0 := Lib.hid q0
  have HW0 := Lib.hid hw0
  have c0 := p0.cell_ 0 (.int .i64 st) rfl
  have c1 := p0.cell_ 1 (.slice A ps.length c) rfl
  have c2 := p0.cell_ 2 (.slice B hs.length d) rfl
  have hred : redT ⟨st, ps, hs.map Hd.nd⟩ = if rightN st ps (hs.map Hd.nd) then ⟨st, ps, redN chR (hs.map Hd.nd)⟩ else PT.zero := rfl
  rw [hred]
  clear hb1 hb0 p0 q0 hw0 hp hN ht hred
  cases hr : rightN st ps (hs.map Hd.nd) with
  | false =>
    rw [hr] at HR
    clear hr
    go_enter Tryz.func27, Tryz.ntmps27
    go_upto_region 1 with fail
    rw [← HW0.out]
    go_wp2_with (go_at_call 22; refine HR.out.mono ?_)
    rintro e w1 ⟨rfl, hb⟩
    have q1 := HQ0.out.below hb HQ0.out.lt
    have HQ1 := Lib.hid q1
    have d0 := q1.cell_ 0 (.int .i64 0) rfl
    have d1 := q1.cell_ 1 (.slice none 0 0) rfl
    have d2 := q1.cell_ 2 (.slice none 0 0) rfl
    have f0 := q1.frozen 0
    have f1 := q1.frozen 1
    have f2 := q1.frozen 2
    have HB := Lib.hid (HB0.out.trans (hb.mono HB0.out.size))
    clear q1 hb c0 c1 c2
    go_wp2
    have hq : Blk (((w1.setCell ⟨w.heap.size + 1, 0, none⟩ (.int .i64 0)).setCell ⟨w.heap.size + 1, 1, none⟩ (.slice none 0 0)).setCell ⟨w.heap.size + 1, 2, none⟩ (.slice none 0 0)) (w.heap.size + 1) 25 #[.int .i64 0, .slice none 0 0, .slice none 0 0] := ((HQ1.out.set_ 0 (.int .i64 0)).set_ 1 (.slice none 0 0)).set_ 2 (.slice none 0 0)
    exact bodyPost_ret (results_cell_row Tryz.results27 _ _ (w.heap.size + 1) 25 #[.int .i64 0, .slice none 0 0, .slice none 0 0] (0, 0) _ rfl hq Tryz.underlying25 rfl Tryz.sizeTree) rfl
      ⟨_, _, [], rfl, OwnP.nil _ _ _, OwnN.nil _ _ _ _, rfl, ((HB.out.setCell (p := ⟨w.heap.size + 1, 0, none⟩) (by simp) _).setCell (p := ⟨w.heap.size + 1, 1, none⟩) (by simp) _).setCell (p := ⟨w.heap.size + 1, 2, none⟩) (by simp) _⟩
  | true =>
    rw [hr] at HR
    have HRR := Lib.hid hr
    clear hr
    go_enter Tryz.func27, Tryz.ntmps27
    go_upto_region 1 with fail
    rw [← HW0.out]
    go_wp2_with (go_at_call 22; refine HR.out.mono ?_)
    rintro e w1 ⟨rfl, hb⟩
    have q1 := HQ0.out.below hb HQ0.out.lt
    have p1 := HP0.out.below hb HP0.out.lt
    have HQ1 := Lib.hid q1
    have c0' := p1.cell_ 0 (.int .i64 st) rfl
    have c1' := p1.cell_ 1 (.slice A ps.length c) rfl
    have c2' := p1.cell_ 2 (.slice B hs.length d) rfl
    have HBw := Lib.hid (HB0.out.trans (hb.mono HB0.out.size))
    have HCALL := Lib.hid (redn_any st A c ps B d hs w1 (HP.out.ext hb) (HN.out.ext hb) ((HT.out.on (hb.mono HB0.out.size)).up (Nat.le_trans HB0.out.size hb.size)) HRR.out)
    clear q1 p1 hb c0 c1 c2
    go_wp2_with (go_at_call 61; refine HCALL.out.mono ?_; intro e w2 hrt; obtain ⟨A2, c2, B2, d2, os, rfl, h1, h2, -, -, h3, h4⟩ := hrt.form; refine Hid.out ?_)
    refine Lib.hid ?_
    have q2 := HQ1.out.below h4 HQ1.out.lt
    have HQ2 := Lib.hid q2
    have d0 := q2.cell_ 0 (.int .i64 0) rfl
    have d1 := q2.cell_ 1 (.slice none 0 0) rfl
    have d2' := q2.cell_ 2 (.slice none 0 0) rfl
    have f0 := q2.frozen 0
    have f1 := q2.frozen 1
    have f2 := q2.frozen 2
    have HO1 := Lib.hid h1
    have HO2 := Lib.hid h2
    have HO3 := Lib.hid h3
    have HB2 := Lib.hid h4
    clear hrt h1 h2 h3 h4 q2 HCALL c0' c1' c2'
    go_wp2
    have hq : Blk (((w2.setCell ⟨w.heap.size + 1, 0, none⟩ (.int .i64 st)).setCell ⟨w.heap.size + 1, 1, none⟩ (.slice A2 ps.length c2)).setCell ⟨w.heap.size + 1, 2, none⟩ (.slice B2 os.length d2)) (w.heap.size + 1) 25 #[.int .i64 st, .slice A2 ps.length c2, .slice B2 os.length d2] := ((HQ2.out.set_ 0 (.int .i64 st)).set_ 1 (.slice A2 ps.length c2)).set_ 2 (.slice B2 os.length d2)
    have hk : Kept (fun g => g = w.heap.size + 1) w2 (((w2.setCell ⟨w.heap.size + 1, 0, none⟩ (.int .i64 st)).setCell ⟨w.heap.size + 1, 1, none⟩ (.slice A2 ps.length c2)).setCell ⟨w.heap.size + 1, 2, none⟩ (.slice B2 os.length d2)) := (((Kept.refl (fun g => g = w.heap.size + 1) w2).setCell (p := ⟨w.heap.size + 1, 0, none⟩) (Or.inl rfl) _).setCell (p := ⟨w.heap.size + 1, 1, none⟩) (Or.inl rfl) _).setCell (p := ⟨w.heap.size + 1, 2, none⟩) (Or.inl rfl) _
    refine bodyPost_ret (results_cell_row Tryz.results27 _ _ (w.heap.size + 1) 25 #[.int .i64 st, .slice A2 ps.length c2, .slice B2 os.length d2] (0, 0) _ rfl hq Tryz.underlying25 rfl Tryz.sizeTree) rfl
      ⟨_, _, os, rfl, ?_, ?_, HO3.out, ?_⟩
    · exact hk.own (own_down HO1.out HBw.out.size) (fun g e e2 => by subst e2; exact own_blk_ne' HO1.out HQ2.out (by decide) e)
    · exact OwnN.kept ⟨own_down HO2.out.1 HBw.out.size, fun x hx => (HO2.out.2 x hx).down HBw.out.size⟩ hk (fun g e e2 => by subst e2; exact own_blk_ne' HO2.out.1 HQ2.out (by decide) e) (fun x hx g e e2 => by subst e2; exact own_blk_ne' (HO2.out.2 x hx) HQ2.out (by decide) e)
    · exact (HBw.out.trans (HB2.out.mono HBw.out.size)).trans (hk.to_below (by have := HBw.out.size; have := HB2.out.size; omega) (fun g hg e => by omega))
end Go.Proofs.YtmlhkbgifnifdaaGreatDoor
namespace Go.Proofs.YtmlhkbgifnifdaaGreatDoor
open Go.RowKit
set_option maxRecDepth 100000
set_option linter.unusedVariables false
set_option linter.unusedSimpArgs false

set_option maxHeartbeats 1000000 in
theorem hsame_any (A B : Option Addr) (c d : Nat) (xs ys : List (Int × Int)) (w : World) (ha : Pts w A xs) (hb : Pts w B ys) :
    Calls Tryz.prog 57 #[.slice A xs.length c, .slice B ys.length d] w fun e w' => e = .returned (.bool (decide (xs = ys))) ∧ Below w.heap.size w w' := by
  have HC := Lib.hid (equalPts A B xs ys c d w ha hb)
  obtain ⟨q, hq⟩ : ∃ q, q = decide (xs = ys) := ⟨_, rfl⟩
  rw [← hq] at HC ⊢
  clear ha hb hq
  go_enter Tryz.func57, Tryz.ntmps57
  go_wp2_with (go_at_call 81; refine HC.out.mono ?_)
  rintro e w1 ⟨rfl, hq⟩
  have HQ := Lib.hid (hq.below w.heap.size)
  clear hq
  go_wp2
  go_ret
  exact ⟨rfl, HQ.out⟩
set_option maxHeartbeats 2000000 in
theorem nsame_any (l1 l2 : Int) (A B : Option Addr) (c d : Nat) (xs ys : List Int) (w : World) (ha : Ints w A xs) (hb : Ints w B ys) :
    Calls Tryz.prog 59 #[.agg #[.int .i64 l1, .slice A xs.length c], .agg #[.int .i64 l2, .slice B ys.length d]] w fun e w' => e = .returned (.bool (decide ((l1, xs) = (l2, ys)))) ∧ Below w.heap.size w w' := by
  obtain ⟨w1, hw1⟩ : ∃ w1, w1 = w.alloc (.cells #[.int .i64 l1, .slice A xs.length c] 42) := ⟨_, rfl⟩
  obtain ⟨w0, hw0⟩ : ∃ w0, w0 = w1.alloc (.cells #[.int .i64 l2, .slice B ys.length d] 42) := ⟨_, rfl⟩
  have b1 : Below w.heap.size w w1 := by rw [hw1]; exact below_new _ _
  have b2 : Below w1.heap.size w1 w0 := by rw [hw0]; exact below_new _ _
  have z1 : w1.heap.size = w.heap.size + 1 := by rw [hw1]; simp
  have p1 : Blk w1 w.heap.size 42 #[.int .i64 l1, .slice A xs.length c] := by rw [hw1]; exact Blk.new _ _ _
  have p2 : Blk w0 w1.heap.size 42 #[.int .i64 l2, .slice B ys.length d] := by rw [hw0]; exact Blk.new _ _ _
  have p1' := p1.below b2 p1.lt
  rw [z1] at p2
  have hb0 := b1.trans (b2.mono b1.size)
  rw [hw1] at hw0
  have HW := Lib.hid hw0
  have HC := Lib.hid (equalInts A B xs ys c d w0 (ha.ext hb0) (hb.ext hb0))
  have HB := Lib.hid hb0
  have c0 := p1'.cell_ 0 (.int .i64 l1) rfl
  have c1 := p1'.cell_ 1 (.slice A xs.length c) rfl
  have d0 := p2.cell_ 0 (.int .i64 l2) rfl
  have d1 := p2.cell_ 1 (.slice B ys.length d) rfl
  clear hw1 hw0 b1 b2 z1 p1 p2 p1' hb0 ha hb
  by_cases hl : l1 = l2
  · have e1 : (l1 == l2) = true := by simp [hl]
    have HE : Hid (decide ((l1, xs) = (l2, ys)) = decide (xs = ys)) := Lib.hid (by subst hl; simp)
    rw [HE.out]
    obtain ⟨q, hq⟩ : ∃ q, q = decide (xs = ys) := ⟨_, rfl⟩
    rw [← hq] at HC ⊢
    clear hl hq HE
    go_enter Tryz.func59, Tryz.ntmps59
    go_upto_region 1 with fail
    rw [← HW.out]
    go_wp2_with (go_at_call 60; refine HC.out.mono ?_)
    rintro e w2 ⟨rfl, hq⟩
    have HQ := Lib.hid (HB.out.trans ((hq.below w0.heap.size).mono HB.out.size))
    clear hq
    go_wp2
    go_ret
    exact ⟨rfl, HQ.out⟩
  · have e1 : (l1 == l2) = false := by simpa using hl
    have HE : Hid (decide ((l1, xs) = (l2, ys)) = false) := Lib.hid (decide_eq_false (fun h => hl (congrArg Prod.fst h)))
    clear hl
    go_enter Tryz.func59, Tryz.ntmps59
    go_upto_region 1 with fail
    rw [← HW.out]
    go_wp2
    go_ret
    exact ⟨by rw [HE.out] <;> rfl, HB.out⟩
theorem nd_take {hs ks : List Hd} {k : Nat} (h1 : k < hs.length) (h2 : k < ks.length) (h : (hs.take k).map Hd.nd = (ks.take k).map Hd.nd) (h3 : hs[k].nd = ks[k].nd) : (hs.take (k + 1)).map Hd.nd = (ks.take (k + 1)).map Hd.nd := by
  rw [List.take_succ_eq_append_getElem h1, List.take_succ_eq_append_getElem h2, List.map_append, List.map_append, h]
  simp [h3]
set_option maxHeartbeats 4000000 in
theorem eqf_any (A B : Option Addr) (c d : Nat) (hs ks : List Hd) (w : World) (ha : Nds w A hs) (hb : Nds w B ks) :
    Calls Tryz.prog 58 #[.slice A hs.length c, .slice B ks.length d, .func (.func 59) #[] #[]] w
      fun e w' => e = .returned (.bool (decide (hs.map Hd.nd = ks.map Hd.nd))) ∧ Below w.heap.size w w' := by
  have hn := ha.le
  have hm := hb.le
  by_cases hl : hs.length = ks.length
  · have d1 : ((hs.length : Int) != ks.length) = false := by simp [hl]
    have HL := Lib.hid hl
    have HA := Lib.hid ha
    have HBk := Lib.hid hb
    have HN := Lib.hid hn
    clear hl ha hb
    go_enter Tryz.func58, Tryz.ntmps58
    go_wp2
    clear d1
    go_loopw [17] (fun i wr => ∃ k : Nat, k ≤ hs.length ∧ i = .int .i64 k ∧ Hid (Below w.heap.size w wr) ∧ Hid ((hs.take k).map Hd.nd = (ks.take k).map Hd.nd)) (fun i _ => hs.length - (intOf i).toNat)
    case atStart => exact ⟨0, Nat.zero_le _, rfl, Lib.hid (Below.refl _ _), Lib.hid rfl⟩
    case round =>
      obtain ⟨k, hk, rfl, HB, HT⟩ := hrel
      by_cases hlt : k < hs.length
      · have hlt2 : k < ks.length := by have := HL.out; omega
        obtain ⟨b1, o1, e1, hb1, x0, x1, xi⟩ := (HA.out.ext HB.out).at_ hlt
        obtain ⟨b2, o2, e2, hb2, y0, y1, yi⟩ := (HBk.out.ext HB.out).at_ hlt2
        have HTK := Lib.hid (fun h3 => nd_take hlt hlt2 HT.out h3)
        have HNE : Hid (hs[k].nd ≠ ks[k].nd → hs.map Hd.nd ≠ ks.map Hd.nd) := Lib.hid (fun h1 h2 => h1 (by
          have h3 := congrArg (fun l => l[k]?) h2
          simp only [List.getElem?_map, List.getElem?_eq_getElem hlt, List.getElem?_eq_getElem hlt2, Option.map_some, Option.some.injEq] at h3
          exact h3))
        obtain ⟨p, hp⟩ : ∃ p, p = hs[k] := ⟨_, rfl⟩
        obtain ⟨q, hq⟩ : ∃ q, q = ks[k] := ⟨_, rfl⟩
        rw [← hp] at x0 x1 xi HTK HNE
        rw [← hq] at y0 y1 yi HTK HNE
        obtain ⟨l1, A1, c1, z1⟩ := p
        obtain ⟨l2, A2, c2, z2⟩ := q
        dsimp only at x0 x1 xi y0 y1 yi
        have hw1 : wrap64 ((k : Int) + 1) = (k : Int) + 1 := by have := HN.out; unfold wrap64; omega
        obtain ⟨v1, hv1⟩ : ∃ v1, v1 = wr.alloc (.cells #[.int .i64 l1, .slice A1 z1.length c1] 42) := ⟨_, rfl⟩
        have q1 : Below wr.heap.size wr v1 := by rw [hv1]; exact below_new _ _
        have r1 : Blk v1 wr.heap.size 42 #[.int .i64 l1, .slice A1 z1.length c1] := by rw [hv1]; exact Blk.new _ _ _
        have s1 : v1.heap.size = wr.heap.size + 1 := by rw [hv1]; simp
        have y0' : v1.cell? ⟨b2, o2 + k * 2, none⟩ = some (.int .i64 l2) := (q1.cell (p := ⟨b2, o2 + k * 2, none⟩) hb2).trans y0
        have y1' : v1.cell? ⟨b2, o2 + k * 2 + 1, none⟩ = some (.slice A2 z2.length c2) := (q1.cell (p := ⟨b2, o2 + k * 2 + 1, none⟩) hb2).trans y1
        obtain ⟨v2, hv2⟩ : ∃ v2, v2 = v1.alloc (.cells #[.int .i64 l2, .slice A2 z2.length c2] 42) := ⟨_, rfl⟩
        have q2 : Below v1.heap.size v1 v2 := by rw [hv2]; exact below_new _ _
        have r2 : Blk v2 v1.heap.size 42 #[.int .i64 l2, .slice A2 z2.length c2] := by rw [hv2]; exact Blk.new _ _ _
        have r1' := r1.below q2 r1.lt
        have q12 := q1.trans (q2.mono q1.size)
        have g0 := r1'.cell_ 0 (.int .i64 l1) rfl
        have g1 := r1'.cell_ 1 (.slice A1 z1.length c1) rfl
        have i0 := r2.cell_ 0 (.int .i64 l2) rfl
        have i1 := r2.cell_ 1 (.slice A2 z2.length c2) rfl
        have HC := Lib.hid (nsame_any l1 l2 A1 A2 c1 c2 z1 z2 v2 (xi.ext q12) (yi.ext q12))
        have HB2 := Lib.hid (HB.out.trans (q12.mono HB.out.size))
        have HV1 := Lib.hid hv1
        have HV2 := Lib.hid hv2
        have hltk := hlt2
        subst e1 e2
        clear hp hq hv1 hv2 q1 q2 q12 r1 r1' r2 s1 xi yi hb1 hb2 hk
        go_upto_region 6 with fail
        rw [← HV1.out]
        go_upto_region 7 with fail
        rw [← HV2.out]
        by_cases he : (l1, z1) = (l2, z2)
        · have hde : decide ((l1, z1) = (l2, z2)) = true := decide_eq_true he
          rw [hde] at HC
          have HT2 := Lib.hid (HTK.out he)
          clear hde he
          go_wp2_with (go_at_call 59; refine HC.out.mono ?_)
          rintro e w9 ⟨rfl, hb9⟩
          have HB9 := Lib.hid (HB2.out.trans (hb9.mono HB2.out.size))
          clear hb9
          go_wp2
          go_roundw
          case rel => exact ⟨k + 1, hlt, rfl, HB9, HT2⟩
          case measure => simp [intOf]; omega
        · have hde : decide ((l1, z1) = (l2, z2)) = false := decide_eq_false he
          rw [hde] at HC
          have HF : Hid (decide (hs.map Hd.nd = ks.map Hd.nd) = false) := Lib.hid (decide_eq_false (HNE.out he))
          clear hde he
          go_wp2_with (go_at_call 59; refine HC.out.mono ?_)
          rintro e w9 ⟨rfl, hb9⟩
          have HB9 := Lib.hid (HB2.out.trans (hb9.mono HB2.out.size))
          clear hb9
          go_wp2
          go_ret
          exact ⟨by rw [HF.out] <;> rfl, HB9.out⟩
      · have HF : Hid (decide (hs.map Hd.nd = ks.map Hd.nd) = true) := Lib.hid (decide_eq_true (by
          have h := HT.out
          have hl := HL.out
          rw [List.take_of_length_le (by omega), List.take_of_length_le (by omega)] at h
          exact h))
        go_wp2
        go_ret
        exact ⟨by rw [HF.out] <;> rfl, HB.out⟩
  · have d1 : ((hs.length : Int) != ks.length) = true := by simp; omega
    have HF : Hid (decide (hs.map Hd.nd = ks.map Hd.nd) = false) := Lib.hid (decide_eq_false (fun h => hl (by have := congrArg List.length h; simpa using this)))
    clear hl ha hb
    go_enter Tryz.func58, Tryz.ntmps58
    go_wp2
    go_ret
    exact ⟨by rw [HF.out] <;> rfl, Below.refl _ _⟩
/-- two trees as values are the same tree -/
def sameP (a b : PT) : Bool := decide (a.st = b.st) && decide (a.ps = b.ps) && decide (a.ns = b.ns)
set_option maxHeartbeats 4000000 in
theorem tsame_any (s1 s2 : Int) (A1 : Option Addr) (c1 : Nat) (p1 : List (Int × Int)) (B1 : Option Addr) (d1 : Nat) (h1 : List Hd) (A2 : Option Addr) (c2 : Nat) (p2 : List (Int × Int)) (B2 : Option Addr) (d2 : Nat) (h2 : List Hd) (w : World)
    (hp1 : Pts w A1 p1) (hn1 : Nds w B1 h1) (hp2 : Pts w A2 p2) (hn2 : Nds w B2 h2) :
    Calls Tryz.prog 26 #[.agg #[.int .i64 s1, .slice A1 p1.length c1, .slice B1 h1.length d1], .agg #[.int .i64 s2, .slice A2 p2.length c2, .slice B2 h2.length d2]] w
      fun e w' => e = .returned (.bool (sameP ⟨s1, p1, h1.map Hd.nd⟩ ⟨s2, p2, h2.map Hd.nd⟩)) ∧ Below w.heap.size w w' := by
  obtain ⟨v1, hv1⟩ : ∃ v1, v1 = w.alloc (.cells #[.int .i64 s1, .slice A1 p1.length c1, .slice B1 h1.length d1] 25) := ⟨_, rfl⟩
  obtain ⟨w0, hw0⟩ : ∃ w0, w0 = v1.alloc (.cells #[.int .i64 s2, .slice A2 p2.length c2, .slice B2 h2.length d2] 25) := ⟨_, rfl⟩
  have b1 : Below w.heap.size w v1 := by rw [hv1]; exact below_new _ _
  have b2 : Below v1.heap.size v1 w0 := by rw [hw0]; exact below_new _ _
  have z1 : v1.heap.size = w.heap.size + 1 := by rw [hv1]; simp
  have q1 : Blk v1 w.heap.size 25 #[.int .i64 s1, .slice A1 p1.length c1, .slice B1 h1.length d1] := by rw [hv1]; exact Blk.new _ _ _
  have q2 : Blk w0 v1.heap.size 25 #[.int .i64 s2, .slice A2 p2.length c2, .slice B2 h2.length d2] := by rw [hw0]; exact Blk.new _ _ _
  have q1' := q1.below b2 q1.lt
  rw [z1] at q2
  have hb0 := b1.trans (b2.mono b1.size)
  rw [hv1] at hw0
  have HW := Lib.hid hw0
  have HB := Lib.hid hb0
  have HC1 := Lib.hid (fun W (hb : Below w0.heap.size w0 W) => hsame_any A1 A2 c1 c2 p1 p2 W ((hp1.ext hb0).ext hb) ((hp2.ext hb0).ext hb))
  have HC2 := Lib.hid (fun W (hb : Below w0.heap.size w0 W) => eqf_any B1 B2 d1 d2 h1 h2 W ((hn1.ext hb0).ext hb) ((hn2.ext hb0).ext hb))
  have HQ1 := Lib.hid q1'
  have HQ2 := Lib.hid q2
  have x0 := q1'.cell_ 0 (.int .i64 s1) rfl
  have x1 := q1'.cell_ 1 (.slice A1 p1.length c1) rfl
  have x2 := q1'.cell_ 2 (.slice B1 h1.length d1) rfl
  have y0 := q2.cell_ 0 (.int .i64 s2) rfl
  have y1 := q2.cell_ 1 (.slice A2 p2.length c2) rfl
  have y2 := q2.cell_ 2 (.slice B2 h2.length d2) rfl
  clear hv1 hw0 b1 b2 z1 q1 q2 q1' hb0 hp1 hp2 hn1 hn2
  unfold sameP
  dsimp only
  by_cases hs : s1 = s2
  · have e1 : (s1 == s2) = true := by simp [hs]
    rw [decide_eq_true hs, Bool.true_and]
    clear hs
    by_cases hp : p1 = p2
    · rw [decide_eq_true hp, Bool.true_and]
      have hC := HC1.out w0 (Below.refl _ _)
      rw [decide_eq_true hp] at hC
      have HC := Lib.hid hC
      obtain ⟨q, hq⟩ : ∃ q, q = decide (h1.map Hd.nd = h2.map Hd.nd) := ⟨_, rfl⟩
      rw [← hq] at HC2 ⊢
      clear hC hp hq HC1
      go_enter Tryz.func26, Tryz.ntmps26
      go_upto_region 1 with fail
      rw [← HW.out]
      go_wp2_with (go_at_call 57; refine HC.out.mono ?_)
      rintro e w1 ⟨rfl, hb⟩
      have r1 := HQ1.out.below hb HQ1.out.lt
      have r2 := HQ2.out.below hb HQ2.out.lt
      have x2' := r1.cell_ 2 (.slice B1 h1.length d1) rfl
      have y2' := r2.cell_ 2 (.slice B2 h2.length d2) rfl
      have HCC := Lib.hid (HC2.out w1 hb)
      have HB1 := Lib.hid (HB.out.trans (hb.mono HB.out.size))
      clear r1 r2 hb x0 x1 x2 y0 y1 y2
      go_wp2_with (go_at_call 58; refine HCC.out.mono ?_)
      rintro e w2 ⟨rfl, hb⟩
      have HB2 := Lib.hid (HB1.out.trans (hb.mono HB1.out.size))
      clear hb
      go_wp2
      go_ret
      exact ⟨rfl, HB2.out⟩
    · rw [decide_eq_false hp, Bool.false_and]
      have hC := HC1.out w0 (Below.refl _ _)
      rw [decide_eq_false hp] at hC
      have HC := Lib.hid hC
      clear hC hp HC1 HC2
      go_enter Tryz.func26, Tryz.ntmps26
      go_upto_region 1 with fail
      rw [← HW.out]
      go_wp2_with (go_at_call 57; refine HC.out.mono ?_)
      rintro e w1 ⟨rfl, hb⟩
      have HB1 := Lib.hid (HB.out.trans (hb.mono HB.out.size))
      clear hb
      go_wp2
      go_ret
      exact ⟨rfl, HB1.out⟩
  · have e1 : (s1 == s2) = false := by simpa using hs
    rw [decide_eq_false hs, Bool.false_and, Bool.false_and]
    clear hs HC1 HC2
    go_enter Tryz.func26, Tryz.ntmps26
    go_upto_region 1 with fail
    rw [← HW.out]
    go_wp2
    go_ret
    exact ⟨rfl, HB.out⟩
end Go.Proofs.YtmlhkbgifnifdaaGreatDoor
namespace Go.Proofs.YtmlhkbgifnifdaaGreatDoor
open Go.RowKit
set_option maxRecDepth 100000
set_option linter.unusedVariables false
set_option linter.unusedSimpArgs false

/-- the value reads as the tree -/
def TreeAt (w : World) (v : Value) (t : PT) : Prop := ∃ A c B d os, v = .agg #[.int .i64 t.st, .slice A t.ps.length c, .slice B os.length d] ∧ Pts w A t.ps ∧ Nds w B os ∧ os.map Hd.nd = t.ns
theorem TreeAt.ext {w w' : World} {v : Value} {t : PT} (h : TreeAt w v t) (hb : Below w.heap.size w w') : TreeAt w' v t := by
  obtain ⟨A, c, B, d, os, h1, h2, h3, h4⟩ := h
  exact ⟨A, c, B, d, os, h1, h2.ext hb, h3.ext hb, h4⟩
theorem RetT.treeAt {t : PT} {w w' : World} {e : Ending} (h : RetT t w e w') : ∃ v, e = .returned v ∧ TreeAt w' v t ∧ Below w.heap.size w w' := by
  obtain ⟨A, c, B, d, os, h1, -, -, h2, h3, h4, h5⟩ := RetTree.form h
  exact ⟨_, h1, ⟨A, c, B, d, os, rfl, h2, h3, h4⟩, h5⟩
theorem tsame_at {t u : PT} {v x : Value} {w : World} (h : TreeAt w v t) (k : TreeAt w x u) : Calls Tryz.prog 26 #[v, x] w fun e w' => e = .returned (.bool (sameP t u)) ∧ Below w.heap.size w w' := by
  obtain ⟨A, c, B, d, os, rfl, h2, h3, h4⟩ := h
  obtain ⟨A', c', B', d', os', rfl, k2, k3, k4⟩ := k
  have := tsame_any t.st u.st A c t.ps B d os A' c' u.ps B' d' os' w h2 h3 k2 k3
  rw [h4, k4] at this
  exact this
def equalP (a b : PT) : Bool := a.right && b.right && decide (a.st = b.st) && decide (a.ps = b.ps) && sameP (redT a) (redT b)
end Go.Proofs.YtmlhkbgifnifdaaGreatDoor
namespace Go.Proofs.YtmlhkbgifnifdaaGreatDoor
set_option linter.unusedSimpArgs false
set_option linter.unusedVariables false
open Go.RowKit
set_option maxRecDepth 100000
set_option maxHeartbeats 1000000 in
theorem rsame_any (A B : Option Addr) (xs ys : List Int) (c d : Nat) (w : World) (ha : Ints w A xs) (hb : Ints w B ys) :
    Calls Tryz.prog 88 #[.slice A xs.length c, .slice B ys.length d] w fun e w' => e = .returned (.bool (decide (xs = ys))) ∧ Qt w w' := by
  have hn := ha.le
  have hm := hb.le
  by_cases hl : xs.length = ys.length
  · have hd : ((xs.length : Int) != ys.length) = false := by simp [hl]
    have HL := Lib.hid hl
    clear hl
    go_enter Tryz.func88, Tryz.ntmps88
    go_wp2
    go_loopw [5] (fun i wr => ∃ k q : Nat, k ≤ xs.length ∧ i = .int .i64 k ∧ wr = w.drewN q ∧ Hid (xs.take k = ys.take k)) (fun i _ => xs.length - (intOf i).toNat)
    case atStart => exact ⟨0, 0, Nat.zero_le _, rfl, rfl, Lib.hid rfl⟩
    case round =>
      obtain ⟨k, q, hk, rfl, rfl, HT⟩ := hrel
      by_cases hlt : k < xs.length
      · have hlt2 : k < ys.length := by have := HL.out; omega
        obtain ⟨b1, o1, rfl, -, hc⟩ := ha.at_ hlt
        obtain ⟨b2, o2, rfl, -, hc2⟩ := hb.at_ hlt2
        go_wp2
        go_quiet (fail)
        go_wp2
        · have hne : ¬ xs[k] = ys[k] := by simpa using ‹(xs[k] != ys[k]) = true›
          go_ret
          refine ⟨ret_bool (decide_eq_false ?_).symm, (Qt.drewN _ _).step _⟩
          rintro rfl
          exact hne rfl
        · have he : xs[k] = ys[k] := by simpa using ‹(xs[k] != ys[k]) = false›
          go_roundw
          case rel => exact ⟨k + 1, _, by omega, by go_num, rfl, Lib.hid (take_eq_snoc HT.out hlt hlt2 he)⟩
          case measure => simp [intOf]; omega
      · have hk' : k = xs.length := by omega
        have hfin : xs = ys := by
          have := HT.out
          rwa [hk', List.take_of_length_le (Nat.le_refl _), List.take_of_length_le (by rw [HL.out]; exact Nat.le_refl _)] at this
        clear hk'
        have HF := Lib.hid hfin
        clear hfin
        go_wp2
        go_ret
        exact ⟨ret_bool (decide_eq_true HF.out).symm, Qt.drewN _ _⟩
  · have hd : ((xs.length : Int) != ys.length) = true := by simp; omega
    have hf : ¬ xs = ys := by
      rintro rfl
      exact hl rfl
    have HF := Lib.hid hf
    clear hl hf
    go_enter Tryz.func88, Tryz.ntmps88
    go_wp2
    go_ret
    exact ⟨ret_bool (decide_eq_false HF.out).symm, Qt.refl _⟩
end Go.Proofs.YtmlhkbgifnifdaaGreatDoor
