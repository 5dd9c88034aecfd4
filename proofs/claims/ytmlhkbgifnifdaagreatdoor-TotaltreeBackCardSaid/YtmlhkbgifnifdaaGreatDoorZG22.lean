/-
  cellularref14.Same. No condition but the reach.
  Trees that are built from the leaves on, in plain lists; the tree of a rule of rows. No condition.
  The memory of a tree of rows that is being built: the tree's box, its nodes, two free rows of numbers, a node. No condition.
  cellularref14.row. No condition but bounds, and that the list holds what f says.
-/
import Derived.Test.YtmlhkbgifnifdaaGreatDoorZG21
import Derived.Test.YtmlhkbgifnifdaaGreatDoorZG5
import Derived.Test.YtmlhkbgifnifdaaGreatDoorZG17
import Derived.Test.YtmlhkbgifnifdaaGreatDoorZG14
import Derived.Test.YtmlhkbgifnifdaaGreatDoorZG13
namespace Go.Proofs.YtmlhkbgifnifdaaGreatDoor
open Go.RowKit
set_option maxRecDepth 100000
set_option linter.unusedVariables false
set_option linter.unusedSimpArgs false

def sameTot (x y : TotL) : Bool := decide (x.states = y.states) && decide (x.hood = y.hood) && decide (x.birth = y.birth) && decide (x.survive = y.survive)
set_option maxHeartbeats 16000000 in
theorem rtsame_any (x y : TotL) (A B C : Option Addr) (a b c : Nat) (A' B' C' : Option Addr) (a' b' c' : Nat) (w : World) (hx : TotR w A B C x) (hy : TotR w A' B' C' y) :
    Calls Tryz.prog 9 #[totV A a B b C c x, totV A' a' B' b' C' c' y] w fun e w' => e = .returned (.bool (sameTot x y)) ∧ Below w.heap.size w w' := by
  unfold totV
  obtain ⟨w0, hw0⟩ : ∃ w0, w0 = (w.alloc (.cells #[.slice A x.hood.length a, .int .i64 x.states, .slice B x.birth.length b, .slice C x.survive.length c] 30)).alloc (.cells #[.slice A' y.hood.length a', .int .i64 y.states, .slice B' y.birth.length b', .slice C' y.survive.length c'] 30) := ⟨_, rfl⟩
  have hb0 : Below w.heap.size w w0 := by rw [hw0]; exact (below_new _ _).alloc (by simp) _
  have p0 : Blk w0 w.heap.size 30 #[.slice A x.hood.length a, .int .i64 x.states, .slice B x.birth.length b, .slice C x.survive.length c] := by rw [hw0]; exact (Blk.new w _ _).alloc _
  have q0 : Blk w0 (w.heap.size + 1) 30 #[.slice A' y.hood.length a', .int .i64 y.states, .slice B' y.birth.length b', .slice C' y.survive.length c'] := by rw [hw0]; exact blk_two _ _ _ _
  have HC1 := Lib.hid (fun W (hW : Below w0.heap.size w0 W) => samePtsR A A' x.hood y.hood a a' W ((hx.ext hb0).hood.ext hW) ((hy.ext hb0).hood.ext hW))
  have HC2 := Lib.hid (fun W (hW : Below w0.heap.size w0 W) => sameIntsR B B' x.birth y.birth b b' W ((hx.ext hb0).birth.ext hW) ((hy.ext hb0).birth.ext hW))
  have HC3 := Lib.hid (fun W (hW : Below w0.heap.size w0 W) => sameIntsR C C' x.survive y.survive c c' W ((hx.ext hb0).survive.ext hW) ((hy.ext hb0).survive.ext hW))
  have HB := Lib.hid hb0
  have HW := Lib.hid hw0
  have HP := Lib.hid p0
  have HQ := Lib.hid q0
  clear hb0 hw0 p0 q0 hx hy
  unfold sameTot
  cases h1 : decide (x.states = y.states) with
  | false =>
    have hd : (x.states == y.states) = false := by simpa using h1
    have HD := Lib.hid hd
    clear h1 hd
    have x0 := HP.out.cell_ 0 (.slice A x.hood.length a) rfl
    have y0 := HQ.out.cell_ 0 (.slice A' y.hood.length a') rfl
    have x1 := HP.out.cell_ 1 (.int .i64 x.states) rfl
    have y1 := HQ.out.cell_ 1 (.int .i64 y.states) rfl
    have x2 := HP.out.cell_ 2 (.slice B x.birth.length b) rfl
    have y2 := HQ.out.cell_ 2 (.slice B' y.birth.length b') rfl
    have x3 := HP.out.cell_ 3 (.slice C x.survive.length c) rfl
    have y3 := HQ.out.cell_ 3 (.slice C' y.survive.length c') rfl
    go_enter Tryz.func9, Tryz.ntmps9
    go_upto_region 1 with fail
    rw [← HW.out]
    have hdd := HD.out
    go_wp2
    go_ret
    exact ⟨ret_bool (by simp), HB.out⟩
  | true =>
    have hd : (x.states == y.states) = true := by simpa using h1
    have HD := Lib.hid hd
    clear h1 hd
    cases h2 : decide (x.hood = y.hood) with
    | false =>
      rw [h2] at HC1
      clear h2
      have x0 := HP.out.cell_ 0 (.slice A x.hood.length a) rfl
      have y0 := HQ.out.cell_ 0 (.slice A' y.hood.length a') rfl
      have x1 := HP.out.cell_ 1 (.int .i64 x.states) rfl
      have y1 := HQ.out.cell_ 1 (.int .i64 y.states) rfl
      have x2 := HP.out.cell_ 2 (.slice B x.birth.length b) rfl
      have y2 := HQ.out.cell_ 2 (.slice B' y.birth.length b') rfl
      have x3 := HP.out.cell_ 3 (.slice C x.survive.length c) rfl
      have y3 := HQ.out.cell_ 3 (.slice C' y.survive.length c') rfl
      go_enter Tryz.func9, Tryz.ntmps9
      go_upto_region 1 with fail
      rw [← HW.out]
      have hdd := HD.out
      have HB0 : Hid (Below w0.heap.size w0 w0) := Lib.hid (Below.refl _ _)
      have HX0 := Lib.hid (HC1.out _ HB0.out)
      go_wp2_with (go_at_call 32; refine HX0.out.mono ?_; rintro e z1 ⟨rfl, hq⟩; refine Hid.out ?_)
      refine Lib.hid ?_
      have HB1 : Hid (Below w0.heap.size w0 z1) := Lib.hid (HB0.out.trans ((hq.below _).mono HB0.out.size))
      clear hq HX0
      clear x0 y0 x1 y1 x2 y2 x3 y3
      have HP1 := Lib.hid (HP.out.below HB1.out HP.out.lt)
      have HQ1 := Lib.hid (HQ.out.below HB1.out HQ.out.lt)
      have x0 := HP1.out.cell_ 0 (.slice A x.hood.length a) rfl
      have y0 := HQ1.out.cell_ 0 (.slice A' y.hood.length a') rfl
      have x1 := HP1.out.cell_ 1 (.int .i64 x.states) rfl
      have y1 := HQ1.out.cell_ 1 (.int .i64 y.states) rfl
      have x2 := HP1.out.cell_ 2 (.slice B x.birth.length b) rfl
      have y2 := HQ1.out.cell_ 2 (.slice B' y.birth.length b') rfl
      have x3 := HP1.out.cell_ 3 (.slice C x.survive.length c) rfl
      have y3 := HQ1.out.cell_ 3 (.slice C' y.survive.length c') rfl
      go_wp2
      go_ret
      exact ⟨ret_bool (by simp), HB.out.trans (HB1.out.mono HB.out.size)⟩
    | true =>
      rw [h2] at HC1
      clear h2
      cases h3 : decide (x.birth = y.birth) with
      | false =>
        rw [h3] at HC2
        clear h3
        have x0 := HP.out.cell_ 0 (.slice A x.hood.length a) rfl
        have y0 := HQ.out.cell_ 0 (.slice A' y.hood.length a') rfl
        have x1 := HP.out.cell_ 1 (.int .i64 x.states) rfl
        have y1 := HQ.out.cell_ 1 (.int .i64 y.states) rfl
        have x2 := HP.out.cell_ 2 (.slice B x.birth.length b) rfl
        have y2 := HQ.out.cell_ 2 (.slice B' y.birth.length b') rfl
        have x3 := HP.out.cell_ 3 (.slice C x.survive.length c) rfl
        have y3 := HQ.out.cell_ 3 (.slice C' y.survive.length c') rfl
        go_enter Tryz.func9, Tryz.ntmps9
        go_upto_region 1 with fail
        rw [← HW.out]
        have hdd := HD.out
        have HB0 : Hid (Below w0.heap.size w0 w0) := Lib.hid (Below.refl _ _)
        have HX0 := Lib.hid (HC1.out _ HB0.out)
        go_wp2_with (go_at_call 32; refine HX0.out.mono ?_; rintro e z1 ⟨rfl, hq⟩; refine Hid.out ?_)
        refine Lib.hid ?_
        have HB1 : Hid (Below w0.heap.size w0 z1) := Lib.hid (HB0.out.trans ((hq.below _).mono HB0.out.size))
        clear hq HX0
        clear x0 y0 x1 y1 x2 y2 x3 y3
        have HP1 := Lib.hid (HP.out.below HB1.out HP.out.lt)
        have HQ1 := Lib.hid (HQ.out.below HB1.out HQ.out.lt)
        have x0 := HP1.out.cell_ 0 (.slice A x.hood.length a) rfl
        have y0 := HQ1.out.cell_ 0 (.slice A' y.hood.length a') rfl
        have x1 := HP1.out.cell_ 1 (.int .i64 x.states) rfl
        have y1 := HQ1.out.cell_ 1 (.int .i64 y.states) rfl
        have x2 := HP1.out.cell_ 2 (.slice B x.birth.length b) rfl
        have y2 := HQ1.out.cell_ 2 (.slice B' y.birth.length b') rfl
        have x3 := HP1.out.cell_ 3 (.slice C x.survive.length c) rfl
        have y3 := HQ1.out.cell_ 3 (.slice C' y.survive.length c') rfl
        have HX1 := Lib.hid (HC2.out _ HB1.out)
        go_wp2_with (go_at_call 33; refine HX1.out.mono ?_; rintro e z2 ⟨rfl, hq⟩; refine Hid.out ?_)
        refine Lib.hid ?_
        have HB2 : Hid (Below w0.heap.size w0 z2) := Lib.hid (HB1.out.trans ((hq.below _).mono HB1.out.size))
        clear hq HX1
        clear x0 y0 x1 y1 x2 y2 x3 y3
        have HP2 := Lib.hid (HP.out.below HB2.out HP.out.lt)
        have HQ2 := Lib.hid (HQ.out.below HB2.out HQ.out.lt)
        have x0 := HP2.out.cell_ 0 (.slice A x.hood.length a) rfl
        have y0 := HQ2.out.cell_ 0 (.slice A' y.hood.length a') rfl
        have x1 := HP2.out.cell_ 1 (.int .i64 x.states) rfl
        have y1 := HQ2.out.cell_ 1 (.int .i64 y.states) rfl
        have x2 := HP2.out.cell_ 2 (.slice B x.birth.length b) rfl
        have y2 := HQ2.out.cell_ 2 (.slice B' y.birth.length b') rfl
        have x3 := HP2.out.cell_ 3 (.slice C x.survive.length c) rfl
        have y3 := HQ2.out.cell_ 3 (.slice C' y.survive.length c') rfl
        go_wp2
        go_ret
        exact ⟨ret_bool (by simp), HB.out.trans (HB2.out.mono HB.out.size)⟩
      | true =>
        rw [h3] at HC2
        clear h3
        obtain ⟨sb, hsb⟩ : ∃ sb, sb = decide (x.survive = y.survive) := ⟨_, rfl⟩
        rw [← hsb] at HC3 ⊢
        clear hsb
        have x0 := HP.out.cell_ 0 (.slice A x.hood.length a) rfl
        have y0 := HQ.out.cell_ 0 (.slice A' y.hood.length a') rfl
        have x1 := HP.out.cell_ 1 (.int .i64 x.states) rfl
        have y1 := HQ.out.cell_ 1 (.int .i64 y.states) rfl
        have x2 := HP.out.cell_ 2 (.slice B x.birth.length b) rfl
        have y2 := HQ.out.cell_ 2 (.slice B' y.birth.length b') rfl
        have x3 := HP.out.cell_ 3 (.slice C x.survive.length c) rfl
        have y3 := HQ.out.cell_ 3 (.slice C' y.survive.length c') rfl
        go_enter Tryz.func9, Tryz.ntmps9
        go_upto_region 1 with fail
        rw [← HW.out]
        have hdd := HD.out
        have HB0 : Hid (Below w0.heap.size w0 w0) := Lib.hid (Below.refl _ _)
        have HX0 := Lib.hid (HC1.out _ HB0.out)
        go_wp2_with (go_at_call 32; refine HX0.out.mono ?_; rintro e z1 ⟨rfl, hq⟩; refine Hid.out ?_)
        refine Lib.hid ?_
        have HB1 : Hid (Below w0.heap.size w0 z1) := Lib.hid (HB0.out.trans ((hq.below _).mono HB0.out.size))
        clear hq HX0
        clear x0 y0 x1 y1 x2 y2 x3 y3
        have HP1 := Lib.hid (HP.out.below HB1.out HP.out.lt)
        have HQ1 := Lib.hid (HQ.out.below HB1.out HQ.out.lt)
        have x0 := HP1.out.cell_ 0 (.slice A x.hood.length a) rfl
        have y0 := HQ1.out.cell_ 0 (.slice A' y.hood.length a') rfl
        have x1 := HP1.out.cell_ 1 (.int .i64 x.states) rfl
        have y1 := HQ1.out.cell_ 1 (.int .i64 y.states) rfl
        have x2 := HP1.out.cell_ 2 (.slice B x.birth.length b) rfl
        have y2 := HQ1.out.cell_ 2 (.slice B' y.birth.length b') rfl
        have x3 := HP1.out.cell_ 3 (.slice C x.survive.length c) rfl
        have y3 := HQ1.out.cell_ 3 (.slice C' y.survive.length c') rfl
        have HX1 := Lib.hid (HC2.out _ HB1.out)
        go_wp2_with (go_at_call 33; refine HX1.out.mono ?_; rintro e z2 ⟨rfl, hq⟩; refine Hid.out ?_)
        refine Lib.hid ?_
        have HB2 : Hid (Below w0.heap.size w0 z2) := Lib.hid (HB1.out.trans ((hq.below _).mono HB1.out.size))
        clear hq HX1
        clear x0 y0 x1 y1 x2 y2 x3 y3
        have HP2 := Lib.hid (HP.out.below HB2.out HP.out.lt)
        have HQ2 := Lib.hid (HQ.out.below HB2.out HQ.out.lt)
        have x0 := HP2.out.cell_ 0 (.slice A x.hood.length a) rfl
        have y0 := HQ2.out.cell_ 0 (.slice A' y.hood.length a') rfl
        have x1 := HP2.out.cell_ 1 (.int .i64 x.states) rfl
        have y1 := HQ2.out.cell_ 1 (.int .i64 y.states) rfl
        have x2 := HP2.out.cell_ 2 (.slice B x.birth.length b) rfl
        have y2 := HQ2.out.cell_ 2 (.slice B' y.birth.length b') rfl
        have x3 := HP2.out.cell_ 3 (.slice C x.survive.length c) rfl
        have y3 := HQ2.out.cell_ 3 (.slice C' y.survive.length c') rfl
        have HX2 := Lib.hid (HC3.out _ HB2.out)
        go_wp2_with (go_at_call 33; refine HX2.out.mono ?_; rintro e z3 ⟨rfl, hq⟩; refine Hid.out ?_)
        refine Lib.hid ?_
        have HB3 : Hid (Below w0.heap.size w0 z3) := Lib.hid (HB2.out.trans ((hq.below _).mono HB2.out.size))
        clear hq HX2
        clear x0 y0 x1 y1 x2 y2 x3 y3
        have HP3 := Lib.hid (HP.out.below HB3.out HP.out.lt)
        have HQ3 := Lib.hid (HQ.out.below HB3.out HQ.out.lt)
        have x0 := HP3.out.cell_ 0 (.slice A x.hood.length a) rfl
        have y0 := HQ3.out.cell_ 0 (.slice A' y.hood.length a') rfl
        have x1 := HP3.out.cell_ 1 (.int .i64 x.states) rfl
        have y1 := HQ3.out.cell_ 1 (.int .i64 y.states) rfl
        have x2 := HP3.out.cell_ 2 (.slice B x.birth.length b) rfl
        have y2 := HQ3.out.cell_ 2 (.slice B' y.birth.length b') rfl
        have x3 := HP3.out.cell_ 3 (.slice C x.survive.length c) rfl
        have y3 := HQ3.out.cell_ 3 (.slice C' y.survive.length c') rfl
        go_wp2
        go_ret
        exact ⟨ret_bool (by simp), HB.out.trans (HB3.out.mono HB.out.size)⟩
end Go.Proofs.YtmlhkbgifnifdaaGreatDoor
namespace Go.Proofs.YtmlhkbgifnifdaaGreatDoor
set_option linter.unusedVariables false
set_option linter.unusedSimpArgs false

theorem allF_of {f : Nat → Bool} : ∀ (m k : Nat), (∀ i, k ≤ i → i < k + m → f i = true) → allF f m k = true
  | 0, k, _ => rfl
  | m + 1, k, h => by
    simp only [allF, Bool.and_eq_true]
    exact ⟨h k (Nat.le_refl _) (by omega), allF_of m (k + 1) fun i h1 h2 => h i (by omega) (by omega)⟩
theorem rightN_of {st : Int} {ps : List (Int × Int)} {ns : List Nd} (h1 : 2 ≤ st) (h2 : st ≤ 8) (h3 : hoodB ps = true) (h4 : 1 ≤ ns.length) (h5 : ns.length ≤ 4096) (h6 : (ndAt ns (ns.length - 1)).1 = (ps.length : Int)) (h7 : VNd st.toNat ns)
    (h8 : ∀ i, i < ns.length → (ndAt ns i).1 ≤ (ps.length : Int)) : rightN st ps ns = true := by
  unfold rightN headB
  simp only [Bool.and_eq_true, decide_eq_true_eq]
  refine ⟨⟨⟨⟨⟨⟨h1, h2⟩, h3⟩, h4⟩, h5⟩, h6⟩, allF_of _ _ fun i _ hi => ?_⟩
  have hi' : i < ns.length := by omega
  unfold nodeB
  simp only [Bool.and_eq_true, decide_eq_true_eq, List.all_eq_true]
  have hl := h7.lev.len i hi'
  refine ⟨⟨⟨h7.lev.one i hi', h8 i hi'⟩, by omega⟩, fun z hz => ?_⟩
  unfold kidB
  rcases Int.lt_or_le 1 (ndAt ns i).1 with hlv | hlv
  · obtain ⟨p1, p2, p3⟩ := h7.lev.kids i hi' hlv z hz
    have p4 := h7.ordk i hi' hlv z hz
    have hne : ((ndAt ns i).1 == 1) = false := by simp; omega
    rw [decide_eq_true p1, hne, decide_eq_true hlv, decide_eq_true p4, show ((ndAt ns z.toNat).1 == (ndAt ns i).1 - 1) = true by simpa using p3]
    rfl
  · have ho := h7.lev.one i hi'
    have hl1 : (ndAt ns i).1 = 1 := by omega
    obtain ⟨p1, p2⟩ := h7.low i hi' hl1 z hz
    rw [decide_eq_true p1, hl1, decide_eq_true (show z < st by omega)]
    rfl
/-- a node of level L that leads to what g says -/
structure Ld (q L : Nat) (ns : List Nd) (k : Int) (g : List Nat → Int) : Prop where
  h0 : 0 ≤ k
  lt : k.toNat < ns.length
  lv : (ndAt ns k.toNat).1 = (L : Int)
  vl : ∀ ins : List Nat, ins.length = L → (∀ t ∈ ins, t < q) → val ns k ins = g ins
section
variable {q L : Nat} {ns : List Nd} {k : Int} {g : List Nat → Int}
theorem Ld.grow (hv : VNd q ns) (h : Ld q L ns k g) (ys : List Nd) : Ld q L (ns ++ ys) k g :=
  ⟨h.h0, by rw [List.length_append]; have := h.lt; omega, by rw [ndAt_app_lt h.lt]; exact h.lv, fun ins hl hq => by
    rw [← h.vl ins hl hq]
    exact val_growB hv.lev ys (L := L) h.h0 (fun _ => ⟨h.lt, h.lv⟩) hl hq⟩
theorem Ld.leaf (hv : VNd q ns) {zs : List Int} (hl : zs.length = q) (hz : ∀ z ∈ zs, 0 ≤ z ∧ z < (q : Int)) : VNd q (ns ++ [(1, zs)]) ∧ Ld q 1 (ns ++ [(1, zs)]) (ns.length : Int) (fun ins => zs.getD (ins.headD 0) 0) := by
  refine ⟨hv.push (by decide) hl (fun _ => hz) (fun h => absurd h (by decide)), Int.natCast_nonneg _, by rw [Int.toNat_natCast, List.length_append]; simp, by rw [Int.toNat_natCast, ndAt_app_len]; rfl, fun ins h1 h2 => ?_⟩
  match ins, h1 with
  | [t], _ =>
    simp only [val, Int.toNat_natCast, ndAt_app_len]
    rfl
theorem Ld.node (hv : VNd q ns) {ks : List Int} (hl : ks.length = q) {gs : Nat → List Nat → Int} (hL : 1 ≤ L) (hk : ∀ t, t < q → Ld q L ns (ks.getD t 0) (gs t)) :
    VNd q (ns ++ [(((L + 1 : Nat) : Int), ks)]) ∧ Ld q (L + 1) (ns ++ [(((L + 1 : Nat) : Int), ks)]) (ns.length : Int) (fun ins => gs (ins.headD 0) ins.tail) := by
  have hmem : ∀ z ∈ ks, ∃ t, t < q ∧ ks.getD t 0 = z := fun z hz => by
    obtain ⟨t, ht, e⟩ := List.getElem_of_mem hz
    exact ⟨t, by omega, by rw [List.getD_eq_getElem?_getD, List.getElem?_eq_getElem ht, e]; rfl⟩
  refine ⟨hv.push (by omega) hl (fun h => by omega) (fun _ z hz => ?_), Int.natCast_nonneg _, by rw [Int.toNat_natCast, List.length_append]; simp, by rw [Int.toNat_natCast, ndAt_app_len], fun ins h1 h2 => ?_⟩
  · obtain ⟨t, ht, e⟩ := hmem z hz
    have h := hk t ht
    rw [e] at h
    exact ⟨h.h0, h.lt, by rw [h.lv]; omega⟩
  · match ins, h1 with
    | t :: r, h1 =>
      have ht : t < q := h2 t (by simp)
      have hrl : r.length = L := by simpa using h1
      have hrq : ∀ x ∈ r, x < q := fun x hx => h2 x (by simp [hx])
      simp only [val, Int.toNat_natCast, ndAt_app_len]
      exact ((hk t ht).grow hv _).vl r hrl hrq
end
/-- no node of a level above B -/
def LvB (B : Int) (ns : List Nd) : Prop := ∀ i, i < ns.length → (ndAt ns i).1 ≤ B
theorem LvB.nil (B : Int) : LvB B [] := fun i h => absurd h (by simp)
theorem LvB.push {B lv : Int} {ns : List Nd} {zs : List Int} (h : LvB B ns) (hl : lv ≤ B) : LvB B (ns ++ [(lv, zs)]) := fun i hi => by
  rcases Nat.lt_or_ge i ns.length with h2 | h2
  · rw [ndAt_app_lt h2]; exact h i h2
  · rw [List.length_append, List.length_singleton] at hi
    obtain rfl : i = ns.length := by omega
    rw [ndAt_app_len]; exact hl
/-! the tree of a rule of rows -/
section
variable (q : Nat) (f : Nat → Nat → Nat → Int)
def leafL (x y : Nat) : List Int := (List.range q).map (f x y)
def midTo (ns : List Nd) (x : Nat) : Nat → List Nd × List Int
  | 0 => (ns, [])
  | y + 1 => ((midTo ns x y).1 ++ [(1, leafL q f x y)], (midTo ns x y).2 ++ [((midTo ns x y).1.length : Int)])
def rootTo : Nat → List Nd × List Int
  | 0 => ([], [])
  | x + 1 => ((midTo q f (rootTo x).1 x q).1 ++ [(2, (midTo q f (rootTo x).1 x q).2)], (rootTo x).2 ++ [((midTo q f (rootTo x).1 x q).1.length : Int)])
def rowN : List Nd := (rootTo q f q).1 ++ [(3, (rootTo q f q).2)]
end
section
variable {q : Nat} {f : Nat → Nat → Nat → Int}
theorem getD_app_lt {xs : List Int} {z : Int} {t : Nat} (h : t < xs.length) : (xs ++ [z]).getD t 0 = xs.getD t 0 := by
  rw [List.getD_eq_getElem?_getD, List.getElem?_append_left h, ← List.getD_eq_getElem?_getD]
theorem getD_app_len {xs : List Int} {z : Int} : (xs ++ [z]).getD xs.length 0 = z := by
  rw [List.getD_eq_getElem?_getD, List.getElem?_append_right (Nat.le_refl _), Nat.sub_self]; rfl
theorem leaf_get {x y t : Nat} (h : t < q) : (leafL q f x y).getD t 0 = f x y t := by
  unfold leafL
  rw [List.getD_eq_getElem?_getD, List.getElem?_map, List.getElem?_range h]
  rfl
structure MidOk (q : Nat) (f : Nat → Nat → Nat → Int) (ns : List Nd) (x : Nat) (y : Nat) (p : List Nd × List Int) : Prop where
  v : VNd q p.1
  lv : LvB 3 p.1
  len : p.2.length = y
  size : p.1.length = ns.length + y
  ext : ∃ ys, p.1 = ns ++ ys
  kid : ∀ t, t < y → Ld q 1 p.1 (p.2.getD t 0) (fun ins => f x t (ins.headD 0))
theorem mid_ok (hf : ∀ x y z, x < q → y < q → z < q → 0 ≤ f x y z ∧ f x y z < (q : Int)) {ns : List Nd} (hv : VNd q ns) (hl : LvB 3 ns) {x : Nat} (hx : x < q) : ∀ y, y ≤ q → MidOk q f ns x y (midTo q f ns x y)
  | 0, _ => ⟨hv, hl, rfl, rfl, ⟨[], by simp [midTo]⟩, fun t h => absurd h (by omega)⟩
  | y + 1, hy => by
    have h := mid_ok hf hv hl hx y (by omega)
    have hlf : (leafL q f x y).length = q := by simp [leafL]
    obtain ⟨l1, l2⟩ := Ld.leaf h.v hlf (fun z hz => by
      unfold leafL at hz
      obtain ⟨t, ht, rfl⟩ := List.mem_map.1 hz
      exact hf x y t hx (by omega) (List.mem_range.1 ht))
    obtain ⟨ys, ey⟩ := h.ext
    refine ⟨l1, h.lv.push (by decide), by show ((midTo q f ns x y).2 ++ _).length = _; rw [List.length_append, h.len]; rfl, by show ((midTo q f ns x y).1 ++ _).length = _; rw [List.length_append, h.size]; rfl, ⟨ys ++ [(1, leafL q f x y)], by show (midTo q f ns x y).1 ++ _ = _; rw [ey, List.append_assoc]⟩, fun t ht => ?_⟩
    show Ld q 1 ((midTo q f ns x y).1 ++ _) (((midTo q f ns x y).2 ++ _).getD t 0) _
    rcases Nat.lt_or_ge t y with h1 | h1
    · rw [getD_app_lt (by rw [h.len]; exact h1)]
      exact (h.kid t h1).grow h.v _
    · obtain rfl : t = y := by omega
      have e : ((midTo q f ns x t).2 ++ [((midTo q f ns x t).1.length : Int)]).getD t 0 = ((midTo q f ns x t).1.length : Int) := by
        have := getD_app_len (xs := (midTo q f ns x t).2) (z := ((midTo q f ns x t).1.length : Int))
        rwa [h.len] at this
      rw [e]
      refine ⟨l2.h0, l2.lt, l2.lv, fun ins h2 h3 => ?_⟩
      rw [l2.vl ins h2 h3]
      match ins, h2 with
      | [u], _ => exact leaf_get (h3 u (by simp))
structure RootOk (q : Nat) (f : Nat → Nat → Nat → Int) (x : Nat) (p : List Nd × List Int) : Prop where
  v : VNd q p.1
  lv : LvB 3 p.1
  len : p.2.length = x
  size : p.1.length = x * (q + 1)
  kid : ∀ t, t < x → Ld q 2 p.1 (p.2.getD t 0) (fun ins => f t (ins.headD 0) (ins.tail.headD 0))
theorem vnd_nil : VNd q [] := ⟨⟨fun i h => h, fun i h => absurd h (by simp), fun i h => absurd h (by simp), fun i h => absurd h (by simp)⟩, fun i h => absurd h (by simp), fun i h => absurd h (by simp)⟩
theorem root_ok (hf : ∀ x y z, x < q → y < q → z < q → 0 ≤ f x y z ∧ f x y z < (q : Int)) : ∀ x, x ≤ q → RootOk q f x (rootTo q f x)
  | 0, _ => ⟨vnd_nil, LvB.nil _, rfl, by simp [rootTo], fun t h => absurd h (by omega)⟩
  | x + 1, hx => by
    have h := root_ok hf x (by omega)
    have m := mid_ok hf h.v h.lv (x := x) (by omega) q (Nat.le_refl _)
    obtain ⟨l1, l2⟩ := Ld.node (L := 1) m.v m.len (gs := fun t ins => f x t (ins.headD 0)) (Nat.le_refl _) m.kid
    obtain ⟨ys, ey⟩ := m.ext
    refine ⟨l1, m.lv.push (by decide), by show ((rootTo q f x).2 ++ _).length = _; rw [List.length_append, h.len]; rfl, ?_, fun t ht => ?_⟩
    · show ((midTo q f (rootTo q f x).1 x q).1 ++ _).length = _
      rw [List.length_append, m.size, h.size, List.length_singleton, Nat.succ_mul]
      omega
    · show Ld q 2 ((midTo q f (rootTo q f x).1 x q).1 ++ _) (((rootTo q f x).2 ++ _).getD t 0) _
      rcases Nat.lt_or_ge t x with h1 | h1
      · rw [getD_app_lt (by rw [h.len]; exact h1)]
        have h3 := (h.kid t h1).grow h.v ys
        rw [← ey] at h3
        exact h3.grow m.v _
      · obtain rfl : t = x := by omega
        have e : ((rootTo q f t).2 ++ [((midTo q f (rootTo q f t).1 t q).1.length : Int)]).getD t 0 = ((midTo q f (rootTo q f t).1 t q).1.length : Int) := by
          have := getD_app_len (xs := (rootTo q f t).2) (z := ((midTo q f (rootTo q f t).1 t q).1.length : Int))
          rwa [h.len] at this
        rw [e]
        exact l2
theorem rowN_ok (hf : ∀ x y z, x < q → y < q → z < q → 0 ≤ f x y z ∧ f x y z < (q : Int)) : VNd q (rowN q f) ∧ LvB 3 (rowN q f) ∧ (rowN q f).length = q * (q + 1) + 1 ∧ Ld q 3 (rowN q f) ((q * (q + 1) : Nat) : Int) (fun ins => f (ins.headD 0) (ins.tail.headD 0) (ins.tail.tail.headD 0)) := by
  have h := root_ok hf q (Nat.le_refl _)
  obtain ⟨l1, l2⟩ := Ld.node (L := 2) h.v h.len (gs := fun t ins => f t (ins.headD 0) (ins.tail.headD 0)) (by decide) h.kid
  rw [h.size] at l2
  exact ⟨l1, h.lv.push (by decide), by show ((rootTo q f q).1 ++ _).length = _; rw [List.length_append, h.size]; rfl, l2⟩
end
theorem chgR (l : List Nd) : chgL chR l = l := by
  unfold chgL chR
  simp
/-- the reduced tree is any tree of which nothing is left to be reduced, and which leads to the same -/
theorem red_uniq {q L : Nat} {st : Int} {ps : List (Int × Int)} {n0 ns : List Nd} (hr : rightN st ps n0 = true) (hst : st.toNat = q) (hps : ps.length = L) (hc : Can q L ns)
    (hv : ∀ ins : List Nat, ins.length = L → (∀ t ∈ ins, t < q) → val n0 ((n0.length - 1 : Nat) : Int) ins = val ns ((ns.length - 1 : Nat) : Int) ins) : redT ⟨st, ps, n0⟩ = ⟨st, ps, ns⟩ := by
  obtain ⟨a1, a2, a3, a4, a5, a6, a7, a8, a9⟩ := rightN_parts hr
  rw [hst] at a8
  have hL : L ≤ 100 := by omega
  have hlv : (ndAt n0 (n0.length - 1)).1 = (L : Int) := by rw [a6, hps]
  have hcan : Can q L (redN chR n0) := red_can a8 (chR_chg _) (by omega) hL hlv
  obtain ⟨b1, b2, b3, b4, b5⟩ := redN_ok a8 (chR_chg q) (by omega) (by rw [hlv]; omega)
  rw [chgR] at b4
  have hr' : PT.right ⟨st, ps, n0⟩ = true := hr
  unfold redT
  rw [if_pos hr']
  dsimp only
  rw [hcan.uniq hc hL (fun ins hl hs => ?_)]
  rw [← hv ins hl hs]
  exact b4.2 ins (by rw [hcan.root]; omega) hs
section
variable {q : Nat} {f : Nat → Nat → Nat → Int}
/-- the reduced tree of rows is any tree of which nothing is left to be reduced, and which leads to the same -/
theorem row_red (hq : 2 ≤ q) (hq8 : q ≤ 8) (hf : ∀ x y z, x < q → y < q → z < q → 0 ≤ f x y z ∧ f x y z < (q : Int)) {ns : List Nd} (hc : Can q 3 ns) (hv : ∀ a b c, a < q → b < q → c < q → val ns ((ns.length - 1 : Nat) : Int) [a, b, c] = f a b c) :
    redT ⟨(q : Int), rowP, rowN q f⟩ = ⟨(q : Int), rowP, ns⟩ := by
  obtain ⟨r1, r2, r3, r4⟩ := rowN_ok hf
  have hlen : (rowN q f).length - 1 = q * (q + 1) := by omega
  have hsz : q * (q + 1) ≤ 8 * 9 := Nat.mul_le_mul hq8 (by omega)
  have hlv : (ndAt (rowN q f) ((rowN q f).length - 1)).1 = 3 := by
    have := r4.lv
    rw [Int.toNat_natCast] at this
    rw [hlen]; exact this
  have hr : rightN (q : Int) rowP (rowN q f) = true :=
    rightN_of (by omega) (by omega) (by decide) (by omega) (by omega) hlv (by rw [Int.toNat_natCast]; exact r1) r2
  refine red_uniq hr (Int.toNat_natCast q) rfl hc (fun ins hl hs => ?_)
  match ins, hl with
  | [a, b, c], _ =>
    rw [hv a b c (hs a (by simp)) (hs b (by simp)) (hs c (by simp)), hlen]
    exact r4.vl [a, b, c] rfl hs
end
end Go.Proofs.YtmlhkbgifnifdaaGreatDoor
namespace Go.Proofs.YtmlhkbgifnifdaaGreatDoor
set_option linter.unusedSimpArgs false
open Go.RowKit Go.Maps
set_option maxRecDepth 100000
set_option linter.unusedVariables false

/-- a node that is being built -/
structure NxL (gX : Nat) (W : World) (lv : Int) (acc : List Int) (xv : Value) (wr : World) : Prop where
  G : Blk wr gX 42 #[.int .i64 lv, xv]
  R : OwnIA wr W.heap.size xv acc
  below : Below W.heap.size W wr
  hX : W.heap.size ≤ gX
section
variable {gX : Nat} {W : World} {lv : Int} {acc : List Int} {xv : Value} {wr : World}
theorem NxL.new (W : World) (lv : Int) : NxL W.heap.size W lv [] (.slice none 0 0) (W.alloc (.cells #[.int .i64 lv, .slice none 0 0] 42)) :=
  ⟨Blk.new _ _ _, OwnI.nil _ _ _, below_new _ _, Nat.le_refl _⟩
theorem NxL.drewN (h : NxL gX W lv acc xv wr) (k : Nat) : NxL gX W lv acc xv (wr.drewN k) := ⟨h.G, h.R, below_drewN h.below k, h.hX⟩
theorem NxL.push (h : NxL gX W lv acc xv wr) {z : Int} {xv' : Value} {w6 : World} (ho : OwnIA w6 W.heap.size xv' (acc ++ [z])) (hk : Kept (fun g => xv.ownBlock = some g) wr w6) :
    NxL gX W lv (acc ++ [z]) xv' (w6.setCell ⟨gX, 1, none⟩ xv') := by
  have a3 := hk.blk h.G (own_blk_ne' h.R h.G (by decide))
  have k7 : Kept (fun g => g = gX) w6 (w6.setCell ⟨gX, 1, none⟩ xv') := (Kept.refl (fun g => g = gX) w6).setCell (p := ⟨gX, 1, none⟩) (Or.inl rfl) xv'
  have hb6 : Below W.heap.size W w6 := h.below.trans (hk.to_below h.below.size (fun g hg e => by have := (own_lt' h.R e).2; omega))
  exact ⟨a3.set_ 1 xv', k7.own ho (fun g e1 e2 => by subst e2; exact own_blk_ne' ho a3 (by decide) e1), hb6.trans (k7.to_below hb6.size (fun g hg e => by have := h.hX; omega)), h.hX⟩
end
/-- the tree's box, its nodes, two free rows -/
structure RW (B p : Nat) (c0 c1 nv : Value) (os : List Hd) (ns : List Nd) (rv : Value) (rz : List Int) (kv : Value) (kz : List Int) (w : World) : Prop where
  blk : Blk w p 25 #[c0, c1, nv]
  own : OwnNA w B nv os
  eq : os.map Hd.nd = ns
  rr : OwnIA w B rv rz
  kr : OwnIA w B kv kz
  ra : ∀ x ∈ os, ∀ g, rv.ownBlock = some g → x.val.ownBlock ≠ some g
  ka : ∀ x ∈ os, ∀ g, kv.ownBlock = some g → x.val.ownBlock ≠ some g
  rk : ∀ g, rv.ownBlock = some g → kv.ownBlock ≠ some g
section
variable {B p : Nat} {c0 c1 nv : Value} {os : List Hd} {ns : List Nd} {rv : Value} {rz : List Int} {kv : Value} {kz : List Int} {w w' : World}
theorem RW.ext (h : RW B p c0 c1 nv os ns rv rz kv kz w) (hb : Below w.heap.size w w') : RW B p c0 c1 nv os ns rv rz kv kz w' :=
  ⟨h.blk.below hb h.blk.lt, h.own.ext hb, h.eq, h.rr.ext hb, h.kr.ext hb, h.ra, h.ka, h.rk⟩
theorem RW.dropK (h : RW B p c0 c1 nv os ns rv rz kv kz w) : RW B p c0 c1 nv os ns rv rz (.slice none 0 0) [] w :=
  ⟨h.blk, h.own, h.eq, h.rr, OwnI.nil _ _ _, h.ra, fun x hx g e => by simp [Value.ownBlock] at e, fun g e => by simp [Value.ownBlock]⟩
theorem RW.dropR (h : RW B p c0 c1 nv os ns rv rz kv kz w) : RW B p c0 c1 nv os ns (.slice none 0 0) [] kv kz w :=
  ⟨h.blk, h.own, h.eq, OwnI.nil _ _ _, h.kr, fun x hx g e => by simp [Value.ownBlock] at e, h.ka, fun g e => by simp [Value.ownBlock] at e⟩
theorem RW.swap (h : RW B p c0 c1 nv os ns rv rz kv kz w) : RW B p c0 c1 nv os ns kv kz rv rz w :=
  ⟨h.blk, h.own, h.eq, h.kr, h.rr, h.ka, h.ra, fun g e e2 => h.rk g e2 e⟩
theorem RW.pushK (h : RW B p c0 c1 nv os ns rv rz kv kz w) {z : Int} {kv' : Value} (ho : OwnIA w' B kv' (kz ++ [z])) (hk : Kept (fun g => kv.ownBlock = some g) w w') (hn : kv'.ownBlock = kv.ownBlock ∨ ∃ g, kv'.ownBlock = some g ∧ w.heap.size ≤ g) :
    RW B p c0 c1 nv os ns rv rz kv' (kz ++ [z]) w' := by
  refine ⟨hk.blk h.blk (own_blk_ne' h.kr h.blk (by decide)), OwnN.kept h.own hk (fun g e1 e2 => own_ne h.kr h.own.1 (by decide) e2 e1) (fun y hy g e1 e2 => h.ka y hy g e2 e1), h.eq, hk.own h.rr (fun g e1 e2 => h.rk g e1 e2), ho, h.ra, fun x hx g e1 e2 => ?_, fun g e1 e2 => ?_⟩
  · rcases hn with hn | ⟨g', hg, hs⟩
    · exact h.ka x hx g (by rw [← hn]; exact e1) e2
    · rw [hg] at e1
      injection e1 with e1
      have := (own_lt' (h.own.2 x hx) e2).1
      omega
  · rcases hn with hn | ⟨g', hg, hs⟩
    · exact h.rk g e1 (by rw [← hn]; exact e2)
    · rw [hg] at e2
      injection e2 with e2
      have := (own_lt' h.rr e1).1
      omega
theorem RW.node (h : RW B p c0 c1 nv os ns rv rz kv kz w) {nv' : Value} {x : Hd} (hI : OwnIA w B x.val x.zs) (ho : OwnNA w' B nv' (os ++ [x])) (hk : Kept (fun g => nv.ownBlock = some g) w w')
    (hr : ∀ g, rv.ownBlock = some g → x.val.ownBlock ≠ some g) (hkk : ∀ g, kv.ownBlock = some g → x.val.ownBlock ≠ some g) :
    RW B p c0 c1 nv' (os ++ [x]) (ns ++ [x.nd]) rv rz kv kz (w'.setCell ⟨p, 2, none⟩ nv') := by
  have b1 := hk.blk h.blk (own_blk_ne' h.own.1 h.blk (by decide))
  have r1 := hk.own h.rr (fun g e1 e2 => own_ne h.rr h.own.1 (by decide) e1 e2)
  have k1 := hk.own h.kr (fun g e1 e2 => own_ne h.kr h.own.1 (by decide) e1 e2)
  have k7 : Kept (fun g => g = p) w' (w'.setCell ⟨p, 2, none⟩ nv') := (Kept.refl (fun g => g = p) w').setCell (p := ⟨p, 2, none⟩) (Or.inl rfl) nv'
  refine ⟨b1.set_ 2 nv', OwnN.kept ho k7 (fun g e1 e2 => by subst e2; exact own_blk_ne' ho.1 b1 (by decide) e1) (fun y hy g e1 e2 => by subst e2; exact own_blk_ne' (ho.2 y hy) b1 (by decide) e1), by rw [List.map_append, h.eq]; rfl,
    k7.own r1 (fun g e1 e2 => by subst e2; exact own_blk_ne' r1 b1 (by decide) e1), k7.own k1 (fun g e1 e2 => by subst e2; exact own_blk_ne' k1 b1 (by decide) e1), fun y hy g e1 => ?_, fun y hy g e1 => ?_, h.rk⟩
  · rcases List.mem_append.1 hy with hy | hy
    · exact h.ra y hy g e1
    · rw [List.mem_singleton.1 hy]; exact hr g e1
  · rcases List.mem_append.1 hy with hy | hy
    · exact h.ka y hy g e1
    · rw [List.mem_singleton.1 hy]; exact hkk g e1
end
end Go.Proofs.YtmlhkbgifnifdaaGreatDoor
namespace Go.Proofs.YtmlhkbgifnifdaaGreatDoor
open Go.RowKit Go.Maps
set_option maxRecDepth 100000
set_option linter.unusedVariables false
set_option linter.unusedSimpArgs false

/-- a tree in new memory -/
def RetAN (t : PT) (w : World) (e : Ending) (w' : World) : Prop := ∃ A c B d os, e = .returned (.agg #[.int .i64 t.st, .slice A t.ps.length c, .slice B os.length d]) ∧ Pts w' A t.ps ∧ NewA w.heap.size A ∧ OwnNA w' w.heap.size (.slice B os.length d) os ∧ os.map Hd.nd = t.ns ∧ Below w.heap.size w w'
theorem row_ps {q : Nat} {f : Nat → Nat → Nat → Int} (hq : 2 ≤ q) (hq8 : q ≤ 8) (hf : ∀ x y z, x < q → y < q → z < q → 0 ≤ f x y z ∧ f x y z < (q : Int)) :
    (redT ⟨(q : Int), rowP, rowN q f⟩).st = q ∧ (redT ⟨(q : Int), rowP, rowN q f⟩).ps = rowP := by
  obtain ⟨r1, r2, r3, r4⟩ := rowN_ok hf
  have hlen : (rowN q f).length - 1 = q * (q + 1) := by omega
  have hsz : q * (q + 1) ≤ 8 * 9 := Nat.mul_le_mul hq8 (by omega)
  have hlv : (ndAt (rowN q f) ((rowN q f).length - 1)).1 = 3 := by
    have := r4.lv
    rw [Int.toNat_natCast] at this
    rw [hlen]; exact this
  have hr : PT.right ⟨(q : Int), rowP, rowN q f⟩ = true :=
    rightN_of (st := (q : Int)) (ps := rowP) (ns := rowN q f) (by omega) (by omega) (by decide) (by omega) (by omega) hlv (by rw [Int.toNat_natCast]; exact r1) r2
  unfold redT
  rw [if_pos hr]
  exact ⟨rfl, rfl⟩
theorem mul_b {a : Int} {x : Nat} (h : 0 ≤ a ∧ a ≤ 100) (hx : x ≤ 8) : 0 ≤ a * (x : Int) ∧ a * (x : Int) ≤ 800 := by
  have h1 : a * (x : Int) ≤ 100 * 8 := Int.mul_le_mul h.2 (by omega) (by omega) (by omega)
  exact ⟨Int.mul_nonneg h.1 (by omega), by omega⟩
theorem mid_len {q : Nat} {f : Nat → Nat → Nat → Int} {ns : List Nd} {x : Nat} : ∀ y, (midTo q f ns x y).1.length = ns.length + y ∧ (midTo q f ns x y).2.length = y
  | 0 => ⟨rfl, rfl⟩
  | y + 1 => by
    obtain ⟨h1, h2⟩ := mid_len (q := q) (f := f) (ns := ns) (x := x) y
    exact ⟨by show ((midTo q f ns x y).1 ++ _).length = _; rw [List.length_append, h1]; rfl, by show ((midTo q f ns x y).2 ++ _).length = _; rw [List.length_append, h2]; rfl⟩
theorem root_len {q : Nat} {f : Nat → Nat → Nat → Int} : ∀ x, (rootTo q f x).1.length = x * (q + 1) ∧ (rootTo q f x).2.length = x
  | 0 => ⟨by simp [rootTo], rfl⟩
  | x + 1 => by
    obtain ⟨h1, h2⟩ := root_len (q := q) (f := f) x
    obtain ⟨m1, m2⟩ := mid_len (q := q) (f := f) (ns := (rootTo q f x).1) (x := x) q
    exact ⟨by show ((midTo q f (rootTo q f x).1 x q).1 ++ _).length = _; rw [List.length_append, m1, h1, Nat.succ_mul, List.length_singleton]; omega, by show ((rootTo q f x).2 ++ _).length = _; rw [List.length_append, h2]; rfl⟩
theorem leaf_take {q : Nat} {f : Nat → Nat → Nat → Int} {x y z : Nat} (h : z < q) : (leafL q f x y).take (z + 1) = (leafL q f x y).take z ++ [f x y z] := by
  have hl : (leafL q f x y).length = q := by simp [leafL]
  rw [List.take_succ_eq_append_getElem (by rw [hl]; exact h)]
  congr 2
  unfold leafL
  simp
structure RrwJ (V : World) (W0 : World) (gX : Nat) (lv : Int) (acc : List Int) (xv : Value) (z : Int) (lv0 : Value) (a : Int) (x : Nat) (ax : Int) (b : Int) (y : Nat) (b2y : Int) (s1 : Int) (c : Int) (zn : Nat) (cz : Int) (ixn : Nat) (lb : Nat) (lo : Nat) (b0 b1 b2 b3 b4 b5 b6 b7 b8 b9 b10 b11 b12 b13 b14 b15 b16 b17 b18 b19 : Bool) (v37 v38 v39 v40 v41 v42 v43 v44 v45 v46 v47 v48 v49 v50 v51 v52 v53 v54 v55 : Value) (w : World) : Prop where
  h0 : b0 = true → v37 = .pointer (some ⟨gX, 1, none⟩)
  h1 : b1 = true → v38 = xv
  h2 : b2 = true → v39 = lv0
  h3 : b3 = true → v40 = .int .i64 a
  h4 : b4 = true → v41 = .int .i64 (x : Int)
  h5 : b5 = true → v42 = .int .i64 ax
  h6 : b6 = true → v43 = .int .i64 b
  h7 : b7 = true → v44 = .int .i64 (y : Int)
  h8 : b8 = true → v45 = .int .i64 b2y
  h9 : b9 = true → v46 = .int .i64 s1
  h10 : b10 = true → v47 = .int .i64 c
  h11 : b11 = true → v48 = .int .i64 (zn : Int)
  h12 : b12 = true → v49 = .int .i64 cz
  h13 : b13 = true → v50 = .int .i64 (ixn : Int)
  h14 : b14 = true → v51 = .pointer (some ⟨lb, lo + ixn, none⟩)
  h15 : b15 = true → v52 = .int .i64 z
  h18 : b18 = true → v55 = .pointer (some ⟨gX, 1, none⟩)
  hk : b17 = false → ∀ p : Addr, p.block < V.heap.size → w.cell? p = V.cell? p
  wa : b16 = false → w = V.drew
  wb : b16 = true → b17 = false → v53 = .slice (some ⟨V.heap.size, 0, none⟩) 1 1 ∧ w = V.drew.alloc (.cells #[.int .i64 z] 3)
  wc : b17 = true → b19 = false → ∃ X c, v54 = .slice X (acc.length + 1) c ∧ OwnIA w W0.heap.size (.slice X (acc.length + 1) c) (acc ++ [z]) ∧ Kept (fun g => xv.ownBlock = some g) V w
  wd : b19 = true → ∃ xv2, NxL gX W0 lv (acc ++ [z]) xv2 w
  ord2 : b19 = true → b17 = true ∧ b18 = true
  o1 : b1 = true → b0 = true
  o5 : b5 = true → b3 = true ∧ b4 = true
  o8 : b8 = true → b6 = true ∧ b7 = true
  o9 : b9 = true → b5 = true ∧ b8 = true
  o12 : b12 = true → b10 = true ∧ b11 = true
  o13 : b13 = true → b9 = true ∧ b12 = true
  o14 : b14 = true → b2 = true ∧ b13 = true
  o15 : b15 = true → b14 = true
  o16 : b16 = true → b15 = true
  o17 : b17 = true → b1 = true ∧ b16 = true

end Go.Proofs.YtmlhkbgifnifdaaGreatDoor
