/-
  lifelike.Complement: the rule with the states exchanged. No condition.
-/
import Derived.Test.YtnobnlbjgaanmaaJ
import Derived.Test.YtnobnlbjgaanmaaParse
import Derived.Deep.Cut
namespace Go.Proofs.Ytnobnlbjgaanmaa
open Go.RowKit
set_option linter.unusedVariables false
set_option linter.unusedSimpArgs false

/-- what is known while birth, survive := of(t.Birth), of(t.Survive) runs -/
structure CJ (w0 : World) (T : Nat) (B C : Option Addr) (b c : Nat) (t : TotL) (b0 b1 b2 b3 b4 b5 b6 b7 b8 b9 : Bool) (v5 v6 v20 v21 v22 v23 v24 v25 : Value) (w : World) : Prop where
  below : Below w0.heap.size w0 w
  h0 : b0 = true → v20 = .pointer (some ⟨T, 2, none⟩)
  h1 : b1 = true → v21 = .slice B t.birth.length b
  h2 : b2 = true → v22 = .agg (tabV t.birth)
  h3 : b3 = true → v23 = .pointer (some ⟨T, 3, none⟩)
  h4 : b4 = true → v24 = .slice C t.survive.length c
  h5 : b5 = true → v25 = .agg (tabV t.survive)
  h6 : b6 = true → ∃ g, v5 = .pointer (some ⟨g, 0, none⟩) ∧ w0.heap.size ≤ g ∧ Blk w g 66 (tabV (if b8 = true then t.birth else []))
  h7 : b7 = true → ∃ h, v6 = .pointer (some ⟨h, 0, none⟩) ∧ w0.heap.size ≤ h ∧ Blk w h 66 (tabV (if b9 = true then t.survive else []))
  h67 : b6 = true → b7 = true → v5 ≠ v6
  h8 : b8 = true → b6 = true
  h9 : b9 = true → b7 = true
section
variable {w0 : World} {T : Nat} {B C : Option Addr} {b c : Nat} {t : TotL} {b0 b1 b2 b3 b4 b5 b6 b7 b8 b9 : Bool} {v5 v6 v20 v21 v22 v23 v24 v25 : Value} {w w' : World}
theorem CJ.world (H : CJ w0 T B C b c t b0 b1 b2 b3 b4 b5 b6 b7 b8 b9 v5 v6 v20 v21 v22 v23 v24 v25 w) (hb : Below w.heap.size w w') : CJ w0 T B C b c t b0 b1 b2 b3 b4 b5 b6 b7 b8 b9 v5 v6 v20 v21 v22 v23 v24 v25 w' :=
  ⟨H.below.trans (hb.mono H.below.size), H.h0, H.h1, H.h2, H.h3, H.h4, H.h5,
   fun h => by obtain ⟨g, h1, h2, h3⟩ := H.h6 h; exact ⟨g, h1, h2, h3.below hb h3.lt⟩,
   fun h => by obtain ⟨g, h1, h2, h3⟩ := H.h7 h; exact ⟨g, h1, h2, h3.below hb h3.lt⟩, H.h67, H.h8, H.h9⟩
theorem CJ.start (w : World) : CJ w T B C b c t false false false false false false false false false false v5 v6 v20 v21 v22 v23 v24 v25 w.drew :=
  ⟨(Below.refl _ w).drew, (by simp), (by simp), (by simp), (by simp), (by simp), (by simp), (by simp), (by simp), (by simp), (by simp), (by simp)⟩
end

def complT (t : TotL) : TotL := ⟨t.hood, t.states, rngF (fun k => !decide ((t.hood.length : Int) - 1 - k ∈ t.survive)) t.hood.length, rngF (fun k => !decide ((t.hood.length : Int) - 1 - k ∈ t.birth)) t.hood.length⟩
def complL (t : TotL) : TotL × Int := if rightT t && (t.states == 2) then (complT t, 0) else (zeroT, 2)
set_option maxHeartbeats 1000000 in
theorem compl_any (A B C : Option Addr) (a b c : Nat) (t : TotL) (w : World) (ht : TotR w A B C t) :
    Calls Try.prog 17 #[totV A a B b C c t] w (RetTot (complL t) w) := by
  have hb0 := (Below.refl w.heap.size w).alloc (Nat.le_refl _) (.cells #[.slice A t.hood.length a, .int .i64 t.states, .slice B t.birth.length b, .slice C t.survive.length c] 25)
  have hb1 := hb0.alloc hb0.size (.cells #[.slice none 0 0, .int .i64 0, .slice none 0 0, .slice none 0 0] 25)
  have HR := Lib.hid (right_any A B C a b c t _ (ht.ext hb1))
  unfold totV at *
  cases k1 : rightT t
  · have e1 : complL t = (zeroT, 2) := by unfold complL; rw [k1]; rfl
    rw [k1] at HR
    have E1 := Lib.hid e1
    clear k1 e1
    go_enter Try.func17, Try.ntmps17
    go_wp2_with fail
    refine HR.out.mono ?_
    rintro e w1 ⟨rfl, hb2⟩
    have br0 : Blk ((w.alloc (.cells #[.slice A t.hood.length a, .int .i64 t.states, .slice B t.birth.length b, .slice C t.survive.length c] 25)).alloc (.cells #[.slice none 0 0, .int .i64 0, .slice none 0 0, .slice none 0 0] 25)) (w.heap.size + 1) 25 #[.slice none 0 0, .int .i64 0, .slice none 0 0, .slice none 0 0] := by
      have := Blk.new (w.alloc (.cells #[.slice A t.hood.length a, .int .i64 t.states, .slice B t.birth.length b, .slice C t.survive.length c] 25)) 25 #[.slice none 0 0, .int .i64 0, .slice none 0 0, .slice none 0 0]
      simpa using this
    have bt0 := (Blk.new w 25 #[.slice A t.hood.length a, .int .i64 t.states, .slice B t.birth.length b, .slice C t.survive.length c]).alloc (.cells #[.slice none 0 0, .int .i64 0, .slice none 0 0, .slice none 0 0] 25)
    have br := br0.below hb2 br0.lt
    have bt := bt0.below hb2 bt0.lt
    have hb3 := hb1.trans (hb2.mono hb1.size)
    have c1 := bt.cell_ 1 _ rfl
    have r0 := br.cell_ 0 _ rfl
    have r1 := br.cell_ 1 _ rfl
    have r2 := br.cell_ 2 _ rfl
    have r3 := br.cell_ 3 _ rfl
    have g0 := br.frozen 0
    have g1 := br.frozen 1
    have g2 := br.frozen 2
    have g3 := br.frozen 3
    have HB := Lib.hid hb3
    clear br0 bt0 hb0 hb1 hb2 hb3 br bt ht
    go_wp2
    refine bodyPost_ret (v := .tuple #[.agg #[.slice none 0 0, .int .i64 0, .slice none 0 0, .slice none 0 0], .int .i64 2]) (by simp [results, Try.results17, go_sem, r0, r1, r2, r3]) rfl ?_
    rw [E1.out]
    exact ⟨none, 0, none, 0, none, 0, rfl, TotR.zero _, below_set4 HB.out (by simp) _ _ _ _⟩
  have RS := Lib.hid (right_spec k1)
  cases k2 : (t.states == 2)
  · have e1 : complL t = (zeroT, 2) := by unfold complL; rw [k1, k2]; rfl
    have d1 : (t.states != 2) = true := by simpa [bne] using k2
    rw [k1] at HR
    have E1 := Lib.hid e1
    clear k1 e1 k2
    go_enter Try.func17, Try.ntmps17
    go_wp2_with fail
    refine HR.out.mono ?_
    rintro e w1 ⟨rfl, hb2⟩
    have br0 : Blk ((w.alloc (.cells #[.slice A t.hood.length a, .int .i64 t.states, .slice B t.birth.length b, .slice C t.survive.length c] 25)).alloc (.cells #[.slice none 0 0, .int .i64 0, .slice none 0 0, .slice none 0 0] 25)) (w.heap.size + 1) 25 #[.slice none 0 0, .int .i64 0, .slice none 0 0, .slice none 0 0] := by
      have := Blk.new (w.alloc (.cells #[.slice A t.hood.length a, .int .i64 t.states, .slice B t.birth.length b, .slice C t.survive.length c] 25)) 25 #[.slice none 0 0, .int .i64 0, .slice none 0 0, .slice none 0 0]
      simpa using this
    have bt0 := (Blk.new w 25 #[.slice A t.hood.length a, .int .i64 t.states, .slice B t.birth.length b, .slice C t.survive.length c]).alloc (.cells #[.slice none 0 0, .int .i64 0, .slice none 0 0, .slice none 0 0] 25)
    have br := br0.below hb2 br0.lt
    have bt := bt0.below hb2 bt0.lt
    have hb3 := hb1.trans (hb2.mono hb1.size)
    have c1 := bt.cell_ 1 _ rfl
    have r0 := br.cell_ 0 _ rfl
    have r1 := br.cell_ 1 _ rfl
    have r2 := br.cell_ 2 _ rfl
    have r3 := br.cell_ 3 _ rfl
    have g0 := br.frozen 0
    have g1 := br.frozen 1
    have g2 := br.frozen 2
    have g3 := br.frozen 3
    have HB := Lib.hid hb3
    clear br0 bt0 hb0 hb1 hb2 hb3 br bt ht
    go_wp2
    refine bodyPost_ret (v := .tuple #[.agg #[.slice none 0 0, .int .i64 0, .slice none 0 0, .slice none 0 0], .int .i64 2]) (by simp [results, Try.results17, go_sem, r0, r1, r2, r3]) rfl ?_
    rw [E1.out]
    exact ⟨none, 0, none, 0, none, 0, rfl, TotR.zero _, below_set4 HB.out (by simp) _ _ _ _⟩
  have e1 : complL t = (complT t, 0) := by unfold complL; rw [k1, k2]; rfl
  have d1 : (t.states != 2) = false := by simpa [bne] using k2
  rw [e1]
  rw [k1] at HR
  clear k1 e1 k2
  go_enter Try.func17, Try.ntmps17
  go_wp2_with fail
  refine HR.out.mono ?_
  rintro e w1 ⟨rfl, hb2⟩
  have br0 : Blk ((w.alloc (.cells #[.slice A t.hood.length a, .int .i64 t.states, .slice B t.birth.length b, .slice C t.survive.length c] 25)).alloc (.cells #[.slice none 0 0, .int .i64 0, .slice none 0 0, .slice none 0 0] 25)) (w.heap.size + 1) 25 #[.slice none 0 0, .int .i64 0, .slice none 0 0, .slice none 0 0] := by
    have := Blk.new (w.alloc (.cells #[.slice A t.hood.length a, .int .i64 t.states, .slice B t.birth.length b, .slice C t.survive.length c] 25)) 25 #[.slice none 0 0, .int .i64 0, .slice none 0 0, .slice none 0 0]
    simpa using this
  have bt0 := (Blk.new w 25 #[.slice A t.hood.length a, .int .i64 t.states, .slice B t.birth.length b, .slice C t.survive.length c]).alloc (.cells #[.slice none 0 0, .int .i64 0, .slice none 0 0, .slice none 0 0] 25)
  have br := br0.below hb2 br0.lt
  have bt := bt0.below hb2 bt0.lt
  have hb3 := hb1.trans (hb2.mono hb1.size)
  have c0 := bt.cell_ 0 _ rfl
  have c1 := bt.cell_ 1 _ rfl
  have hhl : t.hood.length ≤ 9 := RS.out.2.2.1
  have HT := Lib.hid (And.intro bt (And.intro br hb3))
  have hq0 : w.heap.size + 2 ≤ w1.heap.size := by have := hb2.size; simp at this; omega
  have HI := Lib.hid ht
  have RB := Lib.hid (And.intro RS.out.2.2.2.1 RS.out.2.2.2.2.1)
  clear bt br br0 bt0 hb0 hb1 hb2 hb3 ht
  go_upto_region 4 with fail
  go_cut [5, 6] from 20 (fun v5 v6 wx => ∃ g h, v5 = .pointer (some ⟨g, 0, none⟩) ∧ v6 = .pointer (some ⟨h, 0, none⟩) ∧ g ≠ h ∧ w1.heap.size + 1 ≤ g ∧ w1.heap.size + 1 ≤ h ∧ Blk wx g 66 (tabV t.birth) ∧ Blk wx h 66 (tabV t.survive) ∧ Below (w1.heap.size + 1) (w1.alloc (Obj.cells #[Value.int IntKind.i64 (↑t.hood.length - 1)] 3)) wx)
  case first =>
    have hbt := HT.out.1.alloc (Obj.cells #[Value.int IntKind.i64 (↑t.hood.length - 1)] 3)
    have hbe := HT.out.2.2.alloc HT.out.2.2.size (Obj.cells #[Value.int IntKind.i64 (↑t.hood.length - 1)] 3)
    have HI2 := HI.out.ext hbe
    have hsz : (w1.alloc (Obj.cells #[Value.int IntKind.i64 (↑t.hood.length - 1)] 3)).heap.size = w1.heap.size + 1 := by simp
    have ht0 := hbt.lt
    generalize w1.alloc (Obj.cells #[Value.int IntKind.i64 (↑t.hood.length - 1)] 3) = w0 at *
    have HF := Lib.hid (And.intro hbt (And.intro hbe (And.intro HI2 (And.intro hsz ht0))))
    clear hbt hbe HI2 hsz ht0 HI HT c0 c1
    refine wp_region_J (by kernel_rfl) (fun listed act w' => ∃ b0 b1 b2 b3 b4 b5 b6 b7 b8 b9 v5 v6 v20 v21 v22 v23 v24 v25, listed = #[b0, b1, b2, b3, b4, b5, b6, b7, b8, b9] ∧ act = Act.mk #[Value.agg #[Value.slice A t.hood.length a, Value.int IntKind.i64 t.states, Value.slice B t.birth.length b, Value.slice C t.survive.length c], Value.pointer (some { block := w.heap.size, off := 0 }), Value.pointer (some { block := w.heap.size + 1, off := 0 }), Value.int IntKind.i64 0, Value.pointer (some { block := w1.heap.size, off := 0 }), v5, v6, Value.agg #[Value.slice A t.hood.length a, Value.int IntKind.i64 t.states, Value.slice B t.birth.length b, Value.slice C t.survive.length c], Value.bool true, Value.bool false, Value.bool false, Value.pointer (some { block := w.heap.size, off := 1 }), Value.int IntKind.i64 t.states, Value.bool false, Value.bool false, undef, Value.pointer (some { block := w.heap.size, off := 0 }), Value.slice A t.hood.length a, Value.int IntKind.i64 ↑t.hood.length, Value.int IntKind.i64 (↑t.hood.length - 1), v20, v21, v22, v23, v24, v25, undef, undef, undef, undef, undef, undef, undef, undef, undef, undef, undef] [] ∧ CJ w0 w.heap.size B C b c t b0 b1 b2 b3 b4 b5 b6 b7 b8 b9 v5 v6 v20 v21 v22 v23 v24 v25 w') ?_ ?_ ?_
    · exact ⟨_, _, _, _, _, _, _, _, _, _, _, _, _, _, _, _, _, _, rfl, rfl, CJ.start w0⟩
    · rintro i listed act w' hi ⟨b0, b1, b2, b3, b4, b5, b6, b7, b8, b9, v5, v6, v20, v21, v22, v23, v24, v25, rfl, rfl, H⟩
      have hi10 : i < 10 := by
        obtain ⟨-, o, ho, -⟩ := mem_ready.1 hi
        exact (Array.getElem?_eq_some_iff.1 ho).1
      obtain rfl | rfl | rfl | rfl | rfl | rfl | rfl | rfl | rfl | rfl : i = 0 ∨ i = 1 ∨ i = 2 ∨ i = 3 ∨ i = 4 ∨ i = 5 ∨ i = 6 ∨ i = 7 ∨ i = 8 ∨ i = 9 := by omega
      all_goals simp [mem_ready, Region.binds] at hi
      · refine wpOp_hidden rfl fun K hK => ?_
        go_wp2
        refine OnlyN.mk (hK.out _ _ ⟨true, _, _, _, _, _, _, _, _, _, _, _, .pointer (some ⟨w.heap.size, 2, none⟩), _, _, _, _, _, rfl, rfl, ⟨H.below, fun _ => rfl, H.h1, H.h2, H.h3, H.h4, H.h5, H.h6, H.h7, H.h67, H.h8, H.h9⟩⟩)
      · obtain rfl := H.h0 hi.2
        have c2 := (HF.out.1.below H.below HF.out.2.2.2.2).cell_ 2 _ rfl
        refine wpOp_hidden rfl fun K hK => ?_
        go_wp2
        refine OnlyN.mk (hK.out _ _ ⟨_, true, _, _, _, _, _, _, _, _, _, _, _, .slice B t.birth.length b, _, _, _, _, rfl, rfl, ⟨H.below, H.h0, fun _ => rfl, H.h2, H.h3, H.h4, H.h5, H.h6, H.h7, H.h67, H.h8, H.h9⟩⟩)
      · obtain rfl := H.h1 hi.2
        refine wpOp_hidden rfl fun K hK => ?_
        go_wp2_with fail
        refine (of_any B b t.birth w' (HF.out.2.2.1.ext H.below).birth RB.out.1).mono ?_
        rintro e w2 ⟨rfl, hb2⟩
        go_wp2
        refine OnlyN.mk (hK.out _ _ ⟨_, _, true, _, _, _, _, _, _, _, _, _, _, _, .agg (tabV t.birth), _, _, _, rfl, rfl, ⟨(H.world hb2).below, H.h0, H.h1, fun _ => rfl, H.h3, H.h4, H.h5, (H.world hb2).h6, (H.world hb2).h7, H.h67, H.h8, H.h9⟩⟩)
      · refine wpOp_hidden rfl fun K hK => ?_
        go_wp2
        refine OnlyN.mk (hK.out _ _ ⟨_, _, _, true, _, _, _, _, _, _, _, _, _, _, _, .pointer (some ⟨w.heap.size, 3, none⟩), _, _, rfl, rfl, ⟨H.below, H.h0, H.h1, H.h2, fun _ => rfl, H.h4, H.h5, H.h6, H.h7, H.h67, H.h8, H.h9⟩⟩)
      · obtain rfl := H.h3 hi.2
        have c3 := (HF.out.1.below H.below HF.out.2.2.2.2).cell_ 3 _ rfl
        refine wpOp_hidden rfl fun K hK => ?_
        go_wp2
        refine OnlyN.mk (hK.out _ _ ⟨_, _, _, _, true, _, _, _, _, _, _, _, _, _, _, _, .slice C t.survive.length c, _, rfl, rfl, ⟨H.below, H.h0, H.h1, H.h2, H.h3, fun _ => rfl, H.h5, H.h6, H.h7, H.h67, H.h8, H.h9⟩⟩)
      · obtain rfl := H.h4 hi.2.1
        refine wpOp_hidden rfl fun K hK => ?_
        go_wp2_with fail
        refine (of_any C c t.survive w' (HF.out.2.2.1.ext H.below).survive RB.out.2).mono ?_
        rintro e w2 ⟨rfl, hb2⟩
        go_wp2
        refine OnlyN.mk (hK.out _ _ ⟨_, _, _, _, _, true, _, _, _, _, _, _, _, _, _, _, _, .agg (tabV t.survive), rfl, rfl, ⟨(H.world hb2).below, H.h0, H.h1, H.h2, H.h3, H.h4, fun _ => rfl, (H.world hb2).h6, (H.world hb2).h7, H.h67, H.h8, H.h9⟩⟩)
      · have HA := H.world (below_new w' (.cells (tabV []) 66))
        have HN := Blk.new w' 66 (tabV [])
        have hne : b8 = false := by cases h : b8 with | false => rfl | true => rw [H.h8 h] at hi; cases hi
        subst hne
        have HD : ∀ h, b7 = true → v6 = .pointer (some ⟨h, 0, none⟩) → w'.heap.size ≠ h := by
          rintro h h7 rfl rfl
          obtain ⟨g, hg, -, h3⟩ := H.h7 h7
          have := h3.lt
          simp at hg <;> omega
        have HQ := Lib.hid (And.intro HA (And.intro HN HD))
        have HH := Lib.hid H
        clear HA HN HD H
        refine wpOp_hidden rfl fun K hK => ?_
        go_wp2
        refine OnlyN.mk (hK.out _ _ ⟨_, _, _, _, _, _, true, _, _, _, .pointer (some ⟨w'.heap.size, 0, none⟩), _, _, _, _, _, _, _, rfl, rfl, ⟨HQ.out.1.below, HH.out.h0, HH.out.h1, HH.out.h2, HH.out.h3, HH.out.h4, HH.out.h5, fun _ => ⟨_, rfl, HH.out.below.size, HQ.out.2.1⟩, HQ.out.1.h7, fun _ h7 he => HQ.out.2.2 _ h7 he.symm rfl, fun _ => rfl, HH.out.h9⟩⟩)
      · have HA := H.world (below_new w' (.cells (tabV []) 66))
        have HN := Blk.new w' 66 (tabV [])
        have hne : b9 = false := by cases h : b9 with | false => rfl | true => rw [H.h9 h] at hi; cases hi
        subst hne
        have HD : ∀ h, b6 = true → v5 = .pointer (some ⟨h, 0, none⟩) → w'.heap.size ≠ h := by
          rintro h h7 rfl rfl
          obtain ⟨g, hg, -, h3⟩ := H.h6 h7
          have := h3.lt
          simp at hg <;> omega
        have HQ := Lib.hid (And.intro HA (And.intro HN HD))
        have HH := Lib.hid H
        clear HA HN HD H
        refine wpOp_hidden rfl fun K hK => ?_
        go_wp2
        refine OnlyN.mk (hK.out _ _ ⟨_, _, _, _, _, _, _, true, _, _, _, .pointer (some ⟨w'.heap.size, 0, none⟩), _, _, _, _, _, _, rfl, rfl, ⟨HQ.out.1.below, HH.out.h0, HH.out.h1, HH.out.h2, HH.out.h3, HH.out.h4, HH.out.h5, HQ.out.1.h6, fun _ => ⟨_, rfl, HH.out.below.size, HQ.out.2.1⟩, fun h7 _ he => HQ.out.2.2 _ h7 he rfl, HH.out.h8, fun _ => rfl⟩⟩)
      · obtain ⟨g, rfl, hg1, hg2⟩ := H.h6 hi.2.1
        obtain rfl := H.h2 hi.2.2.1
        have hgn : ∀ g', b7 = true → v6 = .pointer (some ⟨g', 0, none⟩) → g' ≠ g := fun g' h7 he h => H.h67 hi.2.1 h7 (by rw [he, h])
        rw [hi.1] at hg2
        have hg2' : Blk w' g 66 (tabV []) := hg2
        have hgw := blk_whole hg2' (ds := tabV t.birth) (by rw [tabV_size, tabV_size])
        have hbs := below_setCells hg1 (tabV t.birth).toList 0 w' H.below
        refine wpOp_hidden rfl fun K hK => ?_
        refine wpList_store_mid rfl 66 _ _ rfl g 0 (tabV t.birth) rfl rfl (by rw [tabV_size]; exact blk_there hg2' (by rw [tabV_size])) (by rw [tabV_size]; exact Try.info_tab) (tabV_one _) ?_
        refine OnlyN.mk (hK.out _ _ ⟨_, _, _, _, _, _, _, _, true, _, _, _, _, _, _, _, _, _, rfl, rfl, ⟨hbs, H.h0, H.h1, H.h2, H.h3, H.h4, H.h5, fun _ => ⟨g, rfl, hg1, hgw⟩, fun h7 => ?_, H.h67, fun _ => hi.2.1, H.h9⟩⟩)
        obtain ⟨g', e', hg3, hg4⟩ := H.h7 h7
        exact ⟨g', e', hg3, blk_far_setCells (hgn g' h7 e') (tabV t.birth).toList 0 w' _ hg4⟩
      · obtain ⟨g, rfl, hg1, hg2⟩ := H.h7 hi.2.1
        obtain rfl := H.h5 hi.2.2.1
        have hgn : ∀ g', b6 = true → v5 = .pointer (some ⟨g', 0, none⟩) → g' ≠ g := fun g' h7 he h => H.h67 h7 hi.2.1 (by rw [he, h])
        rw [hi.1] at hg2
        have hg2' : Blk w' g 66 (tabV []) := hg2
        have hgw := blk_whole hg2' (ds := tabV t.survive) (by rw [tabV_size, tabV_size])
        have hbs := below_setCells hg1 (tabV t.survive).toList 0 w' H.below
        refine wpOp_hidden rfl fun K hK => ?_
        refine wpList_store_mid rfl 66 _ _ rfl g 0 (tabV t.survive) rfl rfl (by rw [tabV_size]; exact blk_there hg2' (by rw [tabV_size])) (by rw [tabV_size]; exact Try.info_tab) (tabV_one _) ?_
        refine OnlyN.mk (hK.out _ _ ⟨_, _, _, _, _, _, _, _, _, true, _, _, _, _, _, _, _, _, rfl, rfl, ⟨hbs, H.h0, H.h1, H.h2, H.h3, H.h4, H.h5, fun h7 => ?_, fun _ => ⟨g, rfl, hg1, hgw⟩, H.h67, H.h8, fun _ => hi.2.1⟩⟩)
        obtain ⟨g', e', hg3, hg4⟩ := H.h6 h7
        exact ⟨g', e', hg3, blk_far_setCells (hgn g' h7 e') (tabV t.survive).toList 0 w' _ hg4⟩
    · rintro listed act w' hr ⟨b0, b1, b2, b3, b4, b5, b6, b7, b8, b9, v5, v6, v20, v21, v22, v23, v24, v25, rfl, rfl, H⟩
      have hn := List.eq_nil_iff_forall_not_mem.1 hr
      have r0 := hn 0
      simp [mem_ready, Region.binds] at r0
      subst r0
      have r1 := hn 1
      simp [mem_ready, Region.binds] at r1
      subst r1
      have r2 := hn 2
      simp [mem_ready, Region.binds] at r2
      subst r2
      have r3 := hn 3
      simp [mem_ready, Region.binds] at r3
      subst r3
      have r4 := hn 4
      simp [mem_ready, Region.binds] at r4
      subst r4
      have r5 := hn 5
      simp [mem_ready, Region.binds] at r5
      subst r5
      have r6 := hn 6
      simp [mem_ready, Region.binds] at r6
      subst r6
      have r7 := hn 7
      simp [mem_ready, Region.binds] at r7
      subst r7
      have r8 := hn 8
      simp [mem_ready, Region.binds] at r8
      subst r8
      have r9 := hn 9
      simp [mem_ready, Region.binds] at r9
      subst r9
      obtain ⟨g, rfl, hg1, hg2⟩ := H.h6 rfl
      obtain ⟨h, rfl, hh1, hh2⟩ := H.h7 rfl
      have hne : g ≠ h := fun e => H.h67 rfl rfl (by rw [e])
      have hbb := H.below
      rw [HF.out.2.2.2.1] at hg1 hh1 hbb
      dsimp only
      go_wp2_with fail
      go_meet
      exact ⟨g, h, rfl, rfl, hne, hg1, hh1, hg2, hh2, hbb⟩
  case rest =>
    obtain ⟨g, h, rfl, rfl, hgh, hgB, hhB, hg1, hh1, hbc⟩ := hcut
    have btc := (HT.out.1.alloc (Obj.cells #[Value.int IntKind.i64 (↑t.hood.length - 1)] 3)).below hbc (by omega)
    have brc := (HT.out.2.1.alloc (Obj.cells #[Value.int IntKind.i64 (↑t.hood.length - 1)] 3)).below hbc (by omega)
    have bnc := (Blk.new w1 3 #[Value.int IntKind.i64 (↑t.hood.length - 1)]).below hbc (by omega)
    have Hb := (HT.out.2.2.alloc HT.out.2.2.size (Obj.cells #[Value.int IntKind.i64 (↑t.hood.length - 1)] 3)).trans (hbc.mono (by omega))
    have hl1 : 1 ≤ t.hood.length := RS.out.2.1
    have en : (((t.hood.length - 1 : Nat)) : Int) = (t.hood.length : Int) - 1 := by omega
    have en2 : t.hood.length - 1 + 1 = t.hood.length := by omega
    have hL1 : Calls Try.prog 44 #[.agg (tabV t.survive), .int .i64 ((t.hood.length : Int) - 1), .func (.func 45) #[] #[.pointer (some ⟨h, 0, none⟩), .pointer (some ⟨w1.heap.size, 0, none⟩)]] wc (RetInts (complT t).birth wc) := by
      have := list_any (t.hood.length - 1) (by omega) (tabV t.survive) 45 #[.pointer (some ⟨h, 0, none⟩), .pointer (some ⟨w1.heap.size, 0, none⟩)] (fun k => !decide ((t.hood.length : Int) - 1 - k ∈ t.survive)) wc (fun _ _ => rfl) (fun k w' h0 h1 hb => by
        have := compl1_any k ((t.hood.length : Int) - 1) h w1.heap.size t.survive w' (hh1.below hb hh1.lt) ((bnc.below hb bnc.lt).cell_ 0 _ rfl) h0 (by omega) (by omega)
        exact this)
      rw [en, en2] at this
      exact this
    have c2 := btc.cell_ 2 _ rfl
    have f2 := btc.frozen 2
    have HR1 := Lib.hid hL1
    have Q1 := Lib.hid (And.intro btc (And.intro brc (And.intro bnc (And.intro Hb (And.intro hg1 hh1)))))
    have EN := Lib.hid (And.intro en en2)
    have hhl2 := Lib.hid hh1
    clear hL1 btc brc bnc Hb hg1 hh1 hbc en en2 c0 c1
    have cn := Q1.out.2.2.1.cell_ 0 _ rfl
    go_wp2_with (first
      | (refine wpList_load_row rfl 66 _ rfl h rfl _ (tabV t.survive) _ _ hhl2.out Try.underlying66 rfl (by rw [tabV_size]; exact Try.info_tab) ?_)
      | fail)
    refine HR1.out.mono ?_
    rintro e w2 ⟨A2, a2, rfl, hi2, hn2, hb2⟩
    have bt2 := Q1.out.1.below hb2 Q1.out.1.lt
    have br2 := Q1.out.2.1.below hb2 Q1.out.2.1.lt
    have bn2 := Q1.out.2.2.1.below hb2 Q1.out.2.2.1.lt
    have bg2 := Q1.out.2.2.2.2.1.below hb2 Q1.out.2.2.2.2.1.lt
    have Hb2 := Q1.out.2.2.2.1.trans (hb2.mono Q1.out.2.2.2.1.size)
    have hsz : w1.heap.size + 1 ≤ wc.heap.size := by have := Q1.out.2.2.1.lt; omega
    have hgn : g ≠ w.heap.size := by omega
    have hrn : w.heap.size + 1 ≠ w.heap.size := by omega
    have hnn : w1.heap.size ≠ w.heap.size := by omega
    have bt3 := bt2.set_ 2 (.slice A2 (complT t).birth.length a2)
    have br3 := br2.far (p := ⟨w.heap.size, 2, none⟩) hrn (.slice A2 (complT t).birth.length a2)
    have bn3 := bn2.far (p := ⟨w.heap.size, 2, none⟩) hnn (.slice A2 (complT t).birth.length a2)
    have bg3 := bg2.far (p := ⟨w.heap.size, 2, none⟩) hgn (.slice A2 (complT t).birth.length a2)
    have Hb3 := Hb2.setCell (p := ⟨w.heap.size, 2, none⟩) (Nat.le_refl _) (.slice A2 (complT t).birth.length a2)
    have hi3 := hi2.set_new hn2 (p := ⟨w.heap.size, 2, none⟩) (by simp; omega) (.slice A2 (complT t).birth.length a2)
    have hL2 : Calls Try.prog 44 #[.agg (tabV t.birth), .int .i64 ((t.hood.length : Int) - 1), .func (.func 46) #[] #[.pointer (some ⟨g, 0, none⟩), .pointer (some ⟨w1.heap.size, 0, none⟩)]] (w2.setCell ⟨w.heap.size, 2, none⟩ (.slice A2 (complT t).birth.length a2)) (RetInts (complT t).survive (w2.setCell ⟨w.heap.size, 2, none⟩ (.slice A2 (complT t).birth.length a2))) := by
      have := list_any (t.hood.length - 1) (by omega) (tabV t.birth) 46 #[.pointer (some ⟨g, 0, none⟩), .pointer (some ⟨w1.heap.size, 0, none⟩)] (fun k => !decide ((t.hood.length : Int) - 1 - k ∈ t.birth)) (w2.setCell ⟨w.heap.size, 2, none⟩ (.slice A2 (complT t).birth.length a2)) (fun _ _ => rfl) (fun k w' h0 h1 hb => by
        have := compl2_any k ((t.hood.length : Int) - 1) g w1.heap.size t.birth w' (bg3.below hb bg3.lt) ((bn3.below hb bn3.lt).cell_ 0 _ rfl) h0 (by have := EN.out.1; omega) (by omega)
        exact this)
      rw [EN.out.1, EN.out.2] at this
      exact this
    have HR2 := Lib.hid hL2
    have Q2 := Lib.hid (And.intro bt3 (And.intro br3 (And.intro bn3 (And.intro Hb3 (And.intro bg3 hi3)))))
    have hbg := Lib.hid bg3
    have HN2 := Lib.hid hn2
    have HB9 := Lib.hid hb2.size
    have ct2 := bt2.cell_ 2 _ rfl
    have ft2 := bt2.frozen 2
    have cn2 := bn3.cell_ 0 _ rfl
    clear hL2 bt2 br2 bn2 bg2 Hb2 bt3 br3 bn3 bg3 Hb3 hi2 hi3 hn2 hb2 c2 f2 cn
    go_wp2_with (first
      | (refine wpList_load_row rfl 66 _ rfl g rfl _ (tabV t.birth) _ _ hbg.out Try.underlying66 rfl (by rw [tabV_size]; exact Try.info_tab) ?_)
      | fail)
    refine HR2.out.mono ?_
    rintro e w4 ⟨A4, a4, rfl, hi4, hn4, hb4⟩
    have bt4 := Q2.out.1.below hb4 Q2.out.1.lt
    have br4 := Q2.out.2.1.below hb4 Q2.out.2.1.lt
    have Hb4 := Q2.out.2.2.2.1.trans (hb4.mono Q2.out.2.2.2.1.size)
    have hi5 := Q2.out.2.2.2.2.2.ext hb4
    have hrn2 : w.heap.size + 1 ≠ w.heap.size := by omega
    have ct3 := bt4.cell_ 3 _ rfl
    have ft3 := bt4.frozen 3
    have bt5 := bt4.set_ 3 (.slice A4 (complT t).survive.length a4)
    have br5 := br4.far (p := ⟨w.heap.size, 3, none⟩) hrn2 (.slice A4 (complT t).survive.length a4)
    have Hb5 := Hb4.setCell (p := ⟨w.heap.size, 3, none⟩) (Nat.le_refl _) (.slice A4 (complT t).survive.length a4)
    have hwc : w.heap.size + 2 ≤ wc.heap.size := by omega
    have hq4 : wc.heap.size ≤ w2.heap.size := by have := Q2.out.2.2.2.1.size; have h9 := HB9.out; omega
    have hn2r : NewA (w.heap.size + 2) A2 := HN2.out.mono hwc
    have hn4r : NewA (w.heap.size + 2) A4 := hn4.mono (by simp; omega)
    have hi6 := hi5.set_new hn2r (p := ⟨w.heap.size, 3, none⟩) (by simp) (.slice A4 (complT t).survive.length a4)
    have hi7 := hi4.set_new hn4r (p := ⟨w.heap.size, 3, none⟩) (by simp) (.slice A4 (complT t).survive.length a4)
    have t0 := bt5.cell_ 0 _ rfl
    have t1 := bt5.cell_ 1 _ rfl
    have t2 := bt5.cell_ 2 _ rfl
    have r0 := br5.cell_ 0 _ rfl
    have r1 := br5.cell_ 1 _ rfl
    have r2 := br5.cell_ 2 _ rfl
    have r3 := br5.cell_ 3 _ rfl
    have g0 := br5.frozen 0
    have g1 := br5.frozen 1
    have g2 := br5.frozen 2
    have g3 := br5.frozen 3
    have QF := Lib.hid (And.intro Hb5 (And.intro hi6 (And.intro hi7 (And.intro hn2r hn4r))))
    have HLEN : Hid (complL t = complL t) := Lib.hid rfl
    clear bt4 br4 Hb4 hi5 bt5 br5 Hb5 hi6 hi7 hn2r hn4r hn4 hi4 hb4 cn2
    go_wp2
    refine bodyPost_ret (v := .tuple #[.agg #[.slice A t.hood.length a, .int .i64 t.states, .slice A2 (complT t).birth.length a2, .slice A4 (complT t).survive.length a4], .int .i64 0]) (by simp [results, Try.results17, go_sem, r0, r1, r2, r3]) rfl ?_
    have hbF := below_set4 QF.out.1 (b := w.heap.size + 1) (by omega) (.slice A t.hood.length a) (.int .i64 t.states) (.slice A2 (complT t).birth.length a2) (.slice A4 (complT t).survive.length a4)
    refine ⟨A, a, A2, a2, A4, a4, rfl, ⟨(HI.out.ext hbF).hood, ?_, ?_⟩, hbF⟩
    · exact (((QF.out.2.1.set_new QF.out.2.2.2.1 (by simp) _).set_new QF.out.2.2.2.1 (by simp) _).set_new QF.out.2.2.2.1 (by simp) _).set_new QF.out.2.2.2.1 (by simp) _
    · exact (((QF.out.2.2.1.set_new QF.out.2.2.2.2 (by simp) _).set_new QF.out.2.2.2.2 (by simp) _).set_new QF.out.2.2.2.2 (by simp) _).set_new QF.out.2.2.2.2 (by simp) _
end Go.Proofs.Ytnobnlbjgaanmaa
