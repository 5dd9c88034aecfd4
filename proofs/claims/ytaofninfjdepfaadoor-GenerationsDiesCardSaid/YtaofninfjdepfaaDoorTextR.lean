/-
  cellularref09.Text. No condition.
-/
import Derived.Test.YtaofninfjdepfaaDoorList
import Derived.Test.YtaofninfjdepfaaDoorJ
import Derived.Deep.Cut
import Derived.Deep.RegionWith
namespace Go.Proofs.YtaofninfjdepfaaDoor
open Go.RowKit
set_option maxRecDepth 100000
set_option linter.unusedVariables false
set_option linter.unusedSimpArgs false

theorem ints_new (w : World) (zs : List Int) (h0 : 0 < zs.length) (h1 : zs.length ≤ 9223372036854775807) : Ints (w.alloc (.cells (zs.map (Value.int .i64)).toArray 3)) (some ⟨w.heap.size, 0, none⟩) zs := by
  refine ⟨⟨?_, fun _ => ⟨_, rfl, by simp, fun j v hv => ?_⟩⟩, h1⟩
  · simp
  · rw [addr_add]
    have : (w.alloc (.cells (zs.map (Value.int .i64)).toArray 3)).cell? ⟨w.heap.size, 0 + j, none⟩ = (zs.map (Value.int .i64)).toArray[0 + j]? := cell_of_row _ _ _ _ _ _ (heap_alloc_new w _)
    rw [this]
    simpa using hv
/-- the text of a valid rule of at least three states but for the letter -/
def bodyG (t : TotL) : List UInt8 := [66] ++ t.birth.map digC ++ [47, 83] ++ t.survive.map digC ++ [47, 67] ++ [digC t.states]
theorem ret_str {a b : ByteArray} (h : a = b) : Ending.returned (.string a) = .returned (.string b) := by rw [h]
structure TJ (w0 : World) (T : Nat) (B C : Option Addr) (b c : Nat) (t : TotL) (l1 l2 s1 s2 s3 s4 s5 : List UInt8) (b0 b1 b2 b3 b4 b5 b6 b7 b8 b9 b10 b11 b12 b13 b14 b15 : Bool) (v3 v12 v13 v14 v15 v16 v17 v18 v19 v20 v21 v22 v23 v24 v25 v26 : Value) (w : World) : Prop where
  below : Below w0.heap.size w0 w
  h0 : b0 = true → v12 = .pointer (some ⟨T, 2, none⟩)
  h1 : b1 = true → v13 = .slice B t.birth.length b
  h2 : b2 = true → v14 = .string ⟨l1.toArray⟩
  h3 : b3 = true → v15 = .string ⟨s1.toArray⟩
  h4 : b4 = true → v16 = .string ⟨s2.toArray⟩
  h5 : b5 = true → v17 = .pointer (some ⟨T, 3, none⟩)
  h6 : b6 = true → v18 = .slice C t.survive.length c
  h7 : b7 = true → v19 = .string ⟨l2.toArray⟩
  h8 : b8 = true → v20 = .string ⟨s3.toArray⟩
  h9 : b9 = true → v21 = .string ⟨s4.toArray⟩
  h10 : b10 = true → v22 = .pointer (some ⟨T, 1, none⟩)
  h11 : b11 = true → v23 = .int .i64 t.states
  h12 : b12 = true → ∃ g, v24 = .slice (some ⟨g, 0, none⟩) 1 1 ∧ Ints w (some ⟨g, 0, none⟩) [t.states]
  h13 : b13 = true → v25 = .string ⟨[digC t.states].toArray⟩
  h14 : b14 = true → v26 = .string ⟨s5.toArray⟩
  h15 : b15 = true → v3 = .string ⟨s5.toArray⟩
section
variable {w0 : World} {T : Nat} {B C : Option Addr} {b c : Nat} {t : TotL} {l1 l2 s1 s2 s3 s4 s5 : List UInt8} {b0 b1 b2 b3 b4 b5 b6 b7 b8 b9 b10 b11 b12 b13 b14 b15 : Bool} {v3 v12 v13 v14 v15 v16 v17 v18 v19 v20 v21 v22 v23 v24 v25 v26 : Value} {w w' : World}
theorem TJ.world (H : TJ w0 T B C b c t l1 l2 s1 s2 s3 s4 s5 b0 b1 b2 b3 b4 b5 b6 b7 b8 b9 b10 b11 b12 b13 b14 b15 v3 v12 v13 v14 v15 v16 v17 v18 v19 v20 v21 v22 v23 v24 v25 v26 w) (hb : Below w.heap.size w w') : TJ w0 T B C b c t l1 l2 s1 s2 s3 s4 s5 b0 b1 b2 b3 b4 b5 b6 b7 b8 b9 b10 b11 b12 b13 b14 b15 v3 v12 v13 v14 v15 v16 v17 v18 v19 v20 v21 v22 v23 v24 v25 v26 w' :=
  ⟨H.below.trans (hb.mono H.below.size), H.h0, H.h1, H.h2, H.h3, H.h4, H.h5, H.h6, H.h7, H.h8, H.h9, H.h10, H.h11, fun h => by obtain ⟨g, h1, h2⟩ := H.h12 h; exact ⟨g, h1, h2.ext hb⟩, H.h13, H.h14, H.h15⟩
end
set_option maxHeartbeats 8000000 in
theorem rtext_body (A B C : Option Addr) (a b c : Nat) (t : TotL) (w : World) (ht : TotR w A B C t) (k1 : rightT t = true) (k2 : ¬ t.states = 2) :
    Calls Tryd.prog 15 #[totV A a B b C c t] w fun e w' => e = .returned (.string ⟨(bodyG t ++ (letterS t.hood).data.toList).toArray⟩) ∧ Below w.heap.size w w' := by
  have hb0 := below_new w (.cells #[.slice A t.hood.length a, .int .i64 t.states, .slice B t.birth.length b, .slice C t.survive.length c] 26)
  have X1 := Lib.hid (Box.new ht a b c)
  have HR := Lib.hid (rright_any A B C a b c t _ X1.out.tot)
  rw [k1] at HR
  have RS := Lib.hid (right_spec k1)
  have RT := Lib.hid (right_states k1)
  have d2 : (t.states == 2) = false := by simpa using k2
  unfold totV at *
  have x0 := X1.out.c0
  have x1 := X1.out.c1
  have x2 := X1.out.c2
  have x3 := X1.out.c3
  have HB := Lib.hid hb0
  clear hb0 ht k1 k2
  go_enter Tryd.func15, Tryd.ntmps15
  go_wp2_with fail
  refine HR.out.mono ?_
  rintro e w1 ⟨rfl, hb⟩
  have X2 := Lib.hid (X1.out.ext hb)
  have HB2 := Lib.hid (HB.out.trans (hb.mono HB.out.size))
  have y0 := X2.out.c0
  have y1 := X2.out.c1
  have y2 := X2.out.c2
  have y3 := X2.out.c3
  clear hb x0 x1 x2 x3 X1 HB
  obtain ⟨l1, hl1⟩ : ∃ l1, l1 = t.birth.map digC := ⟨_, rfl⟩
  obtain ⟨l2, hl2⟩ : ∃ l2, l2 = t.survive.map digC := ⟨_, rfl⟩
  have hn1 : l1.length ≤ 9 := by rw [hl1, List.length_map]; exact RS.out.2.2.2.2.2.1
  have hn2 : l2.length ≤ 9 := by rw [hl2, List.length_map]; exact RS.out.2.2.2.2.2.2
  have W1 := fun w hi => rlist_any B b t.birth w hi (fun z hz => by have := RS.out.2.2.2.1 z hz; omega) (by have := RS.out.2.2.2.2.2.1; omega)
  have W2 := fun w hi => rlist_any C c t.survive w hi (fun z hz => by have := RS.out.2.2.2.2.1 z hz; omega) (by have := RS.out.2.2.2.2.2.2; omega)
  have HE : Hid (bodyG t = [66] ++ l1 ++ [47, 83] ++ l2 ++ [47, 67] ++ [digC t.states]) := Lib.hid (by unfold bodyG; rw [← hl1, ← hl2])
  rw [← hl1] at W1
  rw [← hl2] at W2
  have HW := Lib.hid (And.intro W1 W2)
  clear W1 W2 hl1 hl2
  obtain ⟨s1, q1⟩ : ∃ x, x = [66] ++ l1 := ⟨_, rfl⟩
  obtain ⟨s2, q2⟩ : ∃ x, x = s1 ++ [47, 83] := ⟨_, rfl⟩
  obtain ⟨s3, q3⟩ : ∃ x, x = s2 ++ l2 := ⟨_, rfl⟩
  obtain ⟨s4, q4⟩ : ∃ x, x = s3 ++ [47, 67] := ⟨_, rfl⟩
  obtain ⟨s5, q5⟩ : ∃ x, x = s4 ++ [digC t.states] := ⟨_, rfl⟩
  have sum : ∀ (x y z : List UInt8), z = x ++ y → x.length ≤ 100 → y.length ≤ 100 → ∀ w, (Op.stringOp .add ⟨x.toArray⟩ ⟨y.toArray⟩).run Tryd.prog w = .ok (.string ⟨z.toArray⟩) w := by
    intro x y z hz h1 h2 w
    rw [run_string_add_sum (P := Tryd.prog) w _ _ (by simp [ByteArray.size]; omega), text_end, hz]
  have z1 : s1.length ≤ 20 := by rw [q1]; simp; omega
  have z2 : s2.length ≤ 30 := by rw [q2]; simp; omega
  have z3 : s3.length ≤ 50 := by rw [q3]; simp; omega
  have z4 : s4.length ≤ 60 := by rw [q4]; simp; omega
  have HA1 := Lib.hid (sum [66] l1 s1 q1 (by simp) (by omega))
  have HA2 := Lib.hid (sum s1 [47, 83] s2 q2 (by omega) (by simp))
  have HA3 := Lib.hid (sum s2 l2 s3 q3 (by omega) (by omega))
  have HA4 := Lib.hid (sum s3 [47, 67] s4 q4 (by omega) (by simp))
  have HA5 := Lib.hid (sum s4 [digC t.states] s5 q5 (by omega) (by simp))
  have HE5 : Hid (bodyG t = s5) := Lib.hid (by rw [HE.out, q5, q4, q3, q2, q1])
  clear sum q1 q2 q3 q4 q5 z1 z2 z3 z4 hn1 hn2
  go_upto_region 3 with fail
  go_cut [3] from 12 (fun v3 wx => v3 = .string ⟨(bodyG t).toArray⟩ ∧ Below w1.heap.size w1 wx)
  case first =>
    have XF := X2
    clear y0 y1 y2 y3
    refine wp_region_J (by kernel_rfl) (fun listed act w' => ∃ b0 b1 b2 b3 b4 b5 b6 b7 b8 b9 b10 b11 b12 b13 b14 b15 v3 v12 v13 v14 v15 v16 v17 v18 v19 v20 v21 v22 v23 v24 v25 v26, listed = #[b0, b1, b2, b3, b4, b5, b6, b7, b8, b9, b10, b11, b12, b13, b14, b15] ∧ act = Act.mk #[Value.agg #[Value.slice A t.hood.length a, Value.int IntKind.i64 t.states, Value.slice B t.birth.length b, Value.slice C t.survive.length c], Value.pointer (some { block := w.heap.size, off := 0 }), Value.string ⟨#[]⟩, v3, Value.agg #[Value.slice A t.hood.length a, Value.int IntKind.i64 t.states, Value.slice B t.birth.length b, Value.slice C t.survive.length c], Value.bool true, Value.bool false, Value.bool false, Value.pointer (some { block := w.heap.size, off := 1 }), Value.int IntKind.i64 t.states, Value.bool false, Value.bool false, v12, v13, v14, v15, v16, v17, v18, v19, v20, v21, v22, v23, v24, v25, v26, undef, undef, undef, undef, undef, undef, undef, undef, undef, undef, undef, undef, undef] [] ∧ TJ w1 w.heap.size B C b c t l1 l2 s1 s2 s3 s4 s5 b0 b1 b2 b3 b4 b5 b6 b7 b8 b9 b10 b11 b12 b13 b14 b15 v3 v12 v13 v14 v15 v16 v17 v18 v19 v20 v21 v22 v23 v24 v25 v26 w') ?_ ?_ ?_
    · exact ⟨_, _, _, _, _, _, _, _, _, _, _, _, _, _, _, _, _, _, _, _, _, _, _, _, _, _, _, _, _, _, _, _, rfl, rfl, ⟨(Below.refl _ w1).drew, (by simp), (by simp), (by simp), (by simp), (by simp), (by simp), (by simp), (by simp), (by simp), (by simp), (by simp), (by simp), (by simp), (by simp), (by simp), (by simp)⟩⟩
    · rintro i listed act w' hi ⟨b0, b1, b2, b3, b4, b5, b6, b7, b8, b9, b10, b11, b12, b13, b14, b15, v3, v12, v13, v14, v15, v16, v17, v18, v19, v20, v21, v22, v23, v24, v25, v26, rfl, rfl, H⟩
      have hi16 : i < 16 := by
        obtain ⟨-, o, ho, -⟩ := mem_ready.1 hi
        exact (Array.getElem?_eq_some_iff.1 ho).1
      obtain rfl | rfl | rfl | rfl | rfl | rfl | rfl | rfl | rfl | rfl | rfl | rfl | rfl | rfl | rfl | rfl : i = 0 ∨ i = 1 ∨ i = 2 ∨ i = 3 ∨ i = 4 ∨ i = 5 ∨ i = 6 ∨ i = 7 ∨ i = 8 ∨ i = 9 ∨ i = 10 ∨ i = 11 ∨ i = 12 ∨ i = 13 ∨ i = 14 ∨ i = 15 := by omega
      all_goals simp [mem_ready, Region.binds] at hi
      · refine wpOp_hidden rfl fun K hK => ?_
        go_wp2
        refine OnlyN.mk (hK.out _ _ ⟨true, _, _, _, _, _, _, _, _, _, _, _, _, _, _, _, _, .pointer (some ⟨w.heap.size, 2, none⟩), _, _, _, _, _, _, _, _, _, _, _, _, _, _, rfl, rfl, ⟨H.below, fun _ => rfl, H.h1, H.h2, H.h3, H.h4, H.h5, H.h6, H.h7, H.h8, H.h9, H.h10, H.h11, H.h12, H.h13, H.h14, H.h15⟩⟩)
      · obtain rfl := H.h0 (by simp [hi])
        have cc := (XF.out.ext H.below).c2
        refine wpOp_hidden rfl fun K hK => ?_
        go_wp2
        refine OnlyN.mk (hK.out _ _ ⟨_, true, _, _, _, _, _, _, _, _, _, _, _, _, _, _, _, _, .slice B t.birth.length b, _, _, _, _, _, _, _, _, _, _, _, _, _, rfl, rfl, ⟨H.below, H.h0, fun _ => rfl, H.h2, H.h3, H.h4, H.h5, H.h6, H.h7, H.h8, H.h9, H.h10, H.h11, H.h12, H.h13, H.h14, H.h15⟩⟩)
      · obtain rfl := H.h1 (by simp [hi])
        refine wpOp_hidden rfl fun K hK => ?_
        go_wp2_with fail
        refine (HW.out.1 w' (XF.out.ext H.below).tot.birth).mono ?_
        rintro e w2 ⟨rfl, hb2⟩
        go_wp2
        refine OnlyN.mk (hK.out _ _ ⟨_, _, true, _, _, _, _, _, _, _, _, _, _, _, _, _, _, _, _, .string ⟨l1.toArray⟩, _, _, _, _, _, _, _, _, _, _, _, _, rfl, rfl, ⟨(H.world hb2).below, (H.world hb2).h0, (H.world hb2).h1, fun _ => rfl, (H.world hb2).h3, (H.world hb2).h4, (H.world hb2).h5, (H.world hb2).h6, (H.world hb2).h7, (H.world hb2).h8, (H.world hb2).h9, (H.world hb2).h10, (H.world hb2).h11, (H.world hb2).h12, (H.world hb2).h13, (H.world hb2).h14, (H.world hb2).h15⟩⟩)
      · obtain rfl := H.h2 (by simp [hi])
        have ha : ∀ w, (Op.stringOp .add ⟨#[66]⟩ ⟨l1.toArray⟩).run Tryd.prog w = .ok (.string ⟨s1.toArray⟩) w := HA1.out
        refine wpOp_hidden rfl fun K hK => ?_
        go_wp2
        refine OnlyN.mk (hK.out _ _ ⟨_, _, _, true, _, _, _, _, _, _, _, _, _, _, _, _, _, _, _, _, .string ⟨s1.toArray⟩, _, _, _, _, _, _, _, _, _, _, _, rfl, rfl, ⟨H.below, H.h0, H.h1, H.h2, fun _ => rfl, H.h4, H.h5, H.h6, H.h7, H.h8, H.h9, H.h10, H.h11, H.h12, H.h13, H.h14, H.h15⟩⟩)
      · obtain rfl := H.h3 (by simp [hi])
        have ha : ∀ w, (Op.stringOp .add ⟨s1.toArray⟩ ⟨#[47, 83]⟩).run Tryd.prog w = .ok (.string ⟨s2.toArray⟩) w := HA2.out
        refine wpOp_hidden rfl fun K hK => ?_
        go_wp2
        refine OnlyN.mk (hK.out _ _ ⟨_, _, _, _, true, _, _, _, _, _, _, _, _, _, _, _, _, _, _, _, _, .string ⟨s2.toArray⟩, _, _, _, _, _, _, _, _, _, _, rfl, rfl, ⟨H.below, H.h0, H.h1, H.h2, H.h3, fun _ => rfl, H.h5, H.h6, H.h7, H.h8, H.h9, H.h10, H.h11, H.h12, H.h13, H.h14, H.h15⟩⟩)
      · refine wpOp_hidden rfl fun K hK => ?_
        go_wp2
        refine OnlyN.mk (hK.out _ _ ⟨_, _, _, _, _, true, _, _, _, _, _, _, _, _, _, _, _, _, _, _, _, _, .pointer (some ⟨w.heap.size, 3, none⟩), _, _, _, _, _, _, _, _, _, rfl, rfl, ⟨H.below, H.h0, H.h1, H.h2, H.h3, H.h4, fun _ => rfl, H.h6, H.h7, H.h8, H.h9, H.h10, H.h11, H.h12, H.h13, H.h14, H.h15⟩⟩)
      · obtain rfl := H.h5 (by simp [hi])
        have cc := (XF.out.ext H.below).c3
        refine wpOp_hidden rfl fun K hK => ?_
        go_wp2
        refine OnlyN.mk (hK.out _ _ ⟨_, _, _, _, _, _, true, _, _, _, _, _, _, _, _, _, _, _, _, _, _, _, _, .slice C t.survive.length c, _, _, _, _, _, _, _, _, rfl, rfl, ⟨H.below, H.h0, H.h1, H.h2, H.h3, H.h4, H.h5, fun _ => rfl, H.h7, H.h8, H.h9, H.h10, H.h11, H.h12, H.h13, H.h14, H.h15⟩⟩)
      · obtain rfl := H.h6 (by simp [hi])
        refine wpOp_hidden rfl fun K hK => ?_
        go_wp2_with fail
        refine (HW.out.2 w' (XF.out.ext H.below).tot.survive).mono ?_
        rintro e w2 ⟨rfl, hb2⟩
        go_wp2
        refine OnlyN.mk (hK.out _ _ ⟨_, _, _, _, _, _, _, true, _, _, _, _, _, _, _, _, _, _, _, _, _, _, _, _, .string ⟨l2.toArray⟩, _, _, _, _, _, _, _, rfl, rfl, ⟨(H.world hb2).below, (H.world hb2).h0, (H.world hb2).h1, (H.world hb2).h2, (H.world hb2).h3, (H.world hb2).h4, (H.world hb2).h5, (H.world hb2).h6, fun _ => rfl, (H.world hb2).h8, (H.world hb2).h9, (H.world hb2).h10, (H.world hb2).h11, (H.world hb2).h12, (H.world hb2).h13, (H.world hb2).h14, (H.world hb2).h15⟩⟩)
      · obtain rfl := H.h4 (by simp [hi])
        obtain rfl := H.h7 (by simp [hi])
        have ha : ∀ w, (Op.stringOp .add ⟨s2.toArray⟩ ⟨l2.toArray⟩).run Tryd.prog w = .ok (.string ⟨s3.toArray⟩) w := HA3.out
        refine wpOp_hidden rfl fun K hK => ?_
        go_wp2
        refine OnlyN.mk (hK.out _ _ ⟨_, _, _, _, _, _, _, _, true, _, _, _, _, _, _, _, _, _, _, _, _, _, _, _, _, .string ⟨s3.toArray⟩, _, _, _, _, _, _, rfl, rfl, ⟨H.below, H.h0, H.h1, H.h2, H.h3, H.h4, H.h5, H.h6, H.h7, fun _ => rfl, H.h9, H.h10, H.h11, H.h12, H.h13, H.h14, H.h15⟩⟩)
      · obtain rfl := H.h8 (by simp [hi])
        have ha : ∀ w, (Op.stringOp .add ⟨s3.toArray⟩ ⟨#[47, 67]⟩).run Tryd.prog w = .ok (.string ⟨s4.toArray⟩) w := HA4.out
        refine wpOp_hidden rfl fun K hK => ?_
        go_wp2
        refine OnlyN.mk (hK.out _ _ ⟨_, _, _, _, _, _, _, _, _, true, _, _, _, _, _, _, _, _, _, _, _, _, _, _, _, _, .string ⟨s4.toArray⟩, _, _, _, _, _, rfl, rfl, ⟨H.below, H.h0, H.h1, H.h2, H.h3, H.h4, H.h5, H.h6, H.h7, H.h8, fun _ => rfl, H.h10, H.h11, H.h12, H.h13, H.h14, H.h15⟩⟩)
      · refine wpOp_hidden rfl fun K hK => ?_
        go_wp2
        refine OnlyN.mk (hK.out _ _ ⟨_, _, _, _, _, _, _, _, _, _, true, _, _, _, _, _, _, _, _, _, _, _, _, _, _, _, _, .pointer (some ⟨w.heap.size, 1, none⟩), _, _, _, _, rfl, rfl, ⟨H.below, H.h0, H.h1, H.h2, H.h3, H.h4, H.h5, H.h6, H.h7, H.h8, H.h9, fun _ => rfl, H.h11, H.h12, H.h13, H.h14, H.h15⟩⟩)
      · obtain rfl := H.h10 (by simp [hi])
        have cc := (XF.out.ext H.below).c1
        refine wpOp_hidden rfl fun K hK => ?_
        go_wp2
        refine OnlyN.mk (hK.out _ _ ⟨_, _, _, _, _, _, _, _, _, _, _, true, _, _, _, _, _, _, _, _, _, _, _, _, _, _, _, _, .int .i64 t.states, _, _, _, rfl, rfl, ⟨H.below, H.h0, H.h1, H.h2, H.h3, H.h4, H.h5, H.h6, H.h7, H.h8, H.h9, H.h10, fun _ => rfl, H.h12, H.h13, H.h14, H.h15⟩⟩)
      · obtain rfl := H.h11 (by simp [hi])
        have HA := Lib.hid (H.world (below_new w' (.cells #[.int .i64 t.states] 3)))
        have HI := Lib.hid (ints_new w' [t.states] (by simp) (by simp))
        have HH := Lib.hid H
        clear H
        refine wpOp_hidden rfl fun K hK => ?_
        go_wp2
        refine OnlyN.mk (hK.out _ _ ⟨_, _, _, _, _, _, _, _, _, _, _, _, true, _, _, _, _, _, _, _, _, _, _, _, _, _, _, _, _, .slice (some ⟨w'.heap.size, 0, none⟩) 1 1, _, _, rfl, rfl, ⟨HA.out.below, HA.out.h0, HA.out.h1, HA.out.h2, HA.out.h3, HA.out.h4, HA.out.h5, HA.out.h6, HA.out.h7, HA.out.h8, HA.out.h9, HA.out.h10, HA.out.h11, fun _ => ⟨w'.heap.size, rfl, HI.out⟩, HA.out.h13, HA.out.h14, HA.out.h15⟩⟩)
      · obtain ⟨g, rfl, hg⟩ := H.h12 (by simp [hi])
        have HL := Lib.hid (rlist_any (some ⟨g, 0, none⟩) 1 [t.states] w' hg (fun z hz => by have h1 := RT.out; have h2 : z = t.states := (by simpa using hz); omega) (by simp))
        clear hg
        refine wpOp_hidden rfl fun K hK => ?_
        go_wp2_with fail
        refine HL.out.mono ?_
        rintro e w2 ⟨rfl, hb2⟩
        go_wp2
        refine OnlyN.mk (hK.out _ _ ⟨_, _, _, _, _, _, _, _, _, _, _, _, _, true, _, _, _, _, _, _, _, _, _, _, _, _, _, _, _, _, .string ⟨[digC t.states].toArray⟩, _, rfl, rfl, ⟨(H.world hb2).below, (H.world hb2).h0, (H.world hb2).h1, (H.world hb2).h2, (H.world hb2).h3, (H.world hb2).h4, (H.world hb2).h5, (H.world hb2).h6, (H.world hb2).h7, (H.world hb2).h8, (H.world hb2).h9, (H.world hb2).h10, (H.world hb2).h11, (H.world hb2).h12, fun _ => rfl, (H.world hb2).h14, (H.world hb2).h15⟩⟩)
      · obtain rfl := H.h9 (by simp [hi])
        obtain rfl := H.h13 (by simp [hi])
        have ha : ∀ w, (Op.stringOp .add ⟨s4.toArray⟩ ⟨[digC t.states].toArray⟩).run Tryd.prog w = .ok (.string ⟨s5.toArray⟩) w := HA5.out
        refine wpOp_hidden rfl fun K hK => ?_
        go_wp2
        refine OnlyN.mk (hK.out _ _ ⟨_, _, _, _, _, _, _, _, _, _, _, _, _, _, true, _, _, _, _, _, _, _, _, _, _, _, _, _, _, _, _, .string ⟨s5.toArray⟩, rfl, rfl, ⟨H.below, H.h0, H.h1, H.h2, H.h3, H.h4, H.h5, H.h6, H.h7, H.h8, H.h9, H.h10, H.h11, H.h12, H.h13, fun _ => rfl, H.h15⟩⟩)
      · obtain rfl := H.h14 (by simp [hi])
        refine wpOp_hidden rfl fun K hK => ?_
        go_wp2
        refine OnlyN.mk (hK.out _ _ ⟨_, _, _, _, _, _, _, _, _, _, _, _, _, _, _, true, .string ⟨s5.toArray⟩, _, _, _, _, _, _, _, _, _, _, _, _, _, _, _, rfl, rfl, ⟨H.below, H.h0, H.h1, H.h2, H.h3, H.h4, H.h5, H.h6, H.h7, H.h8, H.h9, H.h10, H.h11, H.h12, H.h13, H.h14, fun _ => rfl⟩⟩)
    · rintro listed act w' hr ⟨b0, b1, b2, b3, b4, b5, b6, b7, b8, b9, b10, b11, b12, b13, b14, b15, v3, v12, v13, v14, v15, v16, v17, v18, v19, v20, v21, v22, v23, v24, v25, v26, rfl, rfl, H⟩
      have hn := List.eq_nil_iff_forall_not_mem.1 hr
      have r0 := hn 0
      simp [mem_ready, Region.binds] at r0
      subst r0
      have r1 := hn 1
      simp [mem_ready, Region.binds] at r1
      subst r1
      have r2 := hn 2
      simp [mem_ready, Region.binds] at r2
      subst r2
      have r3 := hn 3
      simp [mem_ready, Region.binds] at r3
      subst r3
      have r4 := hn 4
      simp [mem_ready, Region.binds] at r4
      subst r4
      have r5 := hn 5
      simp [mem_ready, Region.binds] at r5
      subst r5
      have r6 := hn 6
      simp [mem_ready, Region.binds] at r6
      subst r6
      have r7 := hn 7
      simp [mem_ready, Region.binds] at r7
      subst r7
      have r8 := hn 8
      simp [mem_ready, Region.binds] at r8
      subst r8
      have r9 := hn 9
      simp [mem_ready, Region.binds] at r9
      subst r9
      have r10 := hn 10
      simp [mem_ready, Region.binds] at r10
      subst r10
      have r11 := hn 11
      simp [mem_ready, Region.binds] at r11
      subst r11
      have r12 := hn 12
      simp [mem_ready, Region.binds] at r12
      subst r12
      have r13 := hn 13
      simp [mem_ready, Region.binds] at r13
      subst r13
      have r14 := hn 14
      simp [mem_ready, Region.binds] at r14
      subst r14
      have r15 := hn 15
      simp [mem_ready, Region.binds] at r15
      subst r15
      obtain rfl := H.h15 rfl
      dsimp only
      go_wp2_with fail
      go_meet
      exact ⟨by rw [HE5.out], H.below⟩
  case rest =>
    obtain ⟨rfl, hbc⟩ := hcut
    have XC := Lib.hid (X2.out.ext hbc)
    have HB3 := Lib.hid (HB2.out.trans (hbc.mono HB2.out.size))
    have y0 := XC.out.c0
    have hbl : (bodyG t).length ≤ 100 := by
      have h1 := RS.out.2.2.2.2.2.1
      have h2 := RS.out.2.2.2.2.2.2
      unfold bodyG; simp; omega
    generalize hbs : bodyG t = bs at *
    have HBS := Lib.hid hbs
    clear hbs
    have hV : ∀ w, (Op.stringOp .add ⟨bs.toArray⟩ ⟨#[86]⟩).run Tryd.prog w = .ok (.string ⟨(bs ++ [86]).toArray⟩) w := by
      intro w
      rw [run_string_add_sum (P := Tryd.prog) w _ _ (by simp [ByteArray.size]; omega), text_end]
    have hH : ∀ w, (Op.stringOp .add ⟨bs.toArray⟩ ⟨#[72]⟩).run Tryd.prog w = .ok (.string ⟨(bs ++ [72]).toArray⟩) w := by
      intro w
      rw [run_string_add_sum (P := Tryd.prog) w _ _ (by simp [ByteArray.size]; omega), text_end]
    clear hbc hbl X2 HB2 HE5 HE HW HA1 HA2 HA3 HA4 HA5
    cases k3 : decide (t.hood = neumL 1)
    · cases k4 : decide (t.hood = hexL)
      · have hls : letterS t.hood = ⟨#[]⟩ := by
          unfold letterS
          rw [if_neg (of_decide_eq_false k3), if_neg (of_decide_eq_false k4)]
          simp
        have HLS := Lib.hid hls
        clear hls
        go_wp2
        go_region_with (first | (go_at_call 35; refine (rneum_one _).mono ?_; rintro e w3 ⟨A3, c3, rfl, hp3, -, hb3⟩; have c0q := ((XC.out.ext ((Below.refl _ wc).drew)).ext hb3).c0) | (go_at_call 38; refine (samePtsR _ _ _ _ _ _ _ (by exact Pts.ext (w := wc.drew) XC.out.tot.hood hb3) (by exact hp3)).mono ?_; rintro e w4 ⟨rfl, hq4⟩))
        all_goals
          have X4 := Lib.hid (((XC.out.ext ((Below.refl _ wc).drew)).ext hb3).ext (hq4.below _))
          have H4 := Lib.hid ((((Below.refl wc.heap.size wc).drew).trans hb3).trans ((hq4.below _).mono hb3.size))
          have y40 := X4.out.c0
          clear c0q hb3 hp3 hq4
        all_goals go_wp2
        all_goals go_region_with (first | (go_at_call 36; refine (rhex_any _).mono ?_; rintro e w5 ⟨A5, c5, rfl, hp5, -, hb5⟩; have c0q := ((X4.out.ext ((Below.refl _ w4).drew)).ext hb5).c0) | (go_at_call 38; refine (samePtsR _ _ _ _ _ _ _ (by exact Pts.ext (w := w4.drew) X4.out.tot.hood hb5) (by exact hp5)).mono ?_; rintro e w6 ⟨rfl, hq6⟩))
        all_goals
          have H6 := Lib.hid (H4.out.trans (((((Below.refl w4.heap.size w4).drew).trans hb5).trans ((hq6.below _).mono hb5.size)).mono H4.out.size))
          clear c0q hb5 hp5 hq6
        all_goals go_wp2
        all_goals go_ret
        all_goals exact ⟨ret_str (by rw [HLS.out, HBS.out] <;> simp [ByteArray.ext_iff]), HB3.out.trans (H6.out.mono HB3.out.size)⟩
      · have hls : letterS t.hood = ⟨#[72]⟩ := by
          rw [of_decide_eq_true k4]
          decide
        have HLS := Lib.hid hls
        clear hls
        go_wp2
        go_region_with (first | (go_at_call 35; refine (rneum_one _).mono ?_; rintro e w3 ⟨A3, c3, rfl, hp3, -, hb3⟩; have c0q := ((XC.out.ext ((Below.refl _ wc).drew)).ext hb3).c0) | (go_at_call 38; refine (samePtsR _ _ _ _ _ _ _ (by exact Pts.ext (w := wc.drew) XC.out.tot.hood hb3) (by exact hp3)).mono ?_; rintro e w4 ⟨rfl, hq4⟩))
        all_goals
          have X4 := Lib.hid (((XC.out.ext ((Below.refl _ wc).drew)).ext hb3).ext (hq4.below _))
          have H4 := Lib.hid ((((Below.refl wc.heap.size wc).drew).trans hb3).trans ((hq4.below _).mono hb3.size))
          have y40 := X4.out.c0
          clear c0q hb3 hp3 hq4
        all_goals go_wp2
        all_goals go_region_with (first | (go_at_call 36; refine (rhex_any _).mono ?_; rintro e w5 ⟨A5, c5, rfl, hp5, -, hb5⟩; have c0q := ((X4.out.ext ((Below.refl _ w4).drew)).ext hb5).c0) | (go_at_call 38; refine (samePtsR _ _ _ _ _ _ _ (by exact Pts.ext (w := w4.drew) X4.out.tot.hood hb5) (by exact hp5)).mono ?_; rintro e w6 ⟨rfl, hq6⟩))
        all_goals
          have H6 := Lib.hid (H4.out.trans (((((Below.refl w4.heap.size w4).drew).trans hb5).trans ((hq6.below _).mono hb5.size)).mono H4.out.size))
          clear c0q hb5 hp5 hq6
        all_goals go_wp2
        all_goals go_ret
        all_goals exact ⟨ret_str (by rw [HLS.out, HBS.out] <;> simp [ByteArray.ext_iff]), HB3.out.trans (H6.out.mono HB3.out.size)⟩
    · have hls : letterS t.hood = ⟨#[86]⟩ := by
        rw [of_decide_eq_true k3]
        decide
      have HLS := Lib.hid hls
      clear hls
      go_wp2
      go_region_with (first | (go_at_call 35; refine (rneum_one _).mono ?_; rintro e w3 ⟨A3, c3, rfl, hp3, -, hb3⟩; have c0q := ((XC.out.ext ((Below.refl _ wc).drew)).ext hb3).c0) | (go_at_call 38; refine (samePtsR _ _ _ _ _ _ _ (by exact Pts.ext (w := wc.drew) XC.out.tot.hood hb3) (by exact hp3)).mono ?_; rintro e w4 ⟨rfl, hq4⟩))
      all_goals
        have X4 := Lib.hid (((XC.out.ext ((Below.refl _ wc).drew)).ext hb3).ext (hq4.below _))
        have H4 := Lib.hid ((((Below.refl wc.heap.size wc).drew).trans hb3).trans ((hq4.below _).mono hb3.size))
        have y40 := X4.out.c0
        clear c0q hb3 hp3 hq4
      all_goals go_wp2
      all_goals go_ret
      all_goals exact ⟨ret_str (by rw [HLS.out, HBS.out] <;> simp [ByteArray.ext_iff]), HB3.out.trans (H4.out.mono HB3.out.size)⟩
end Go.Proofs.YtaofninfjdepfaaDoor
