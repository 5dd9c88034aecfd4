/-
  tree.Quiet; cellularref14.Row. No condition.
  cellularref10.Same, cellularref14.Next. No condition but the reach.
  cellularref14.Value. No condition but that the rule's neighbourhood is one of the known ones, and that the states are states.
-/
import Derived.Test.YtmlhkbgifnifdaaGreatDoorZG14
import Derived.Test.YtmlhkbgifnifdaaGreatDoorZG3
import Derived.Test.YtmlhkbgifnifdaaGreatDoorZWalk
import Derived.Test.YtmlhkbgifnifdaaGreatDoorZG17
import Derived.Test.YtmlhkbgifnifdaaGreatDoorZG19
import Derived.Test.YtmlhkbgifnifdaaGreatDoorZG20
namespace Go.Proofs.YtmlhkbgifnifdaaGreatDoor
open Go.RowKit
set_option maxRecDepth 100000
set_option linter.unusedVariables false
set_option linter.unusedSimpArgs false

/-- an operation whose guard does not ask for it -/
theorem wpOp_skip {P : Program} {ops : Array Oper} {i : Nat} {o : Oper} {a : Act} {w : World} {K : Act → World → Prop} {Q : Exit → Act → World → Prop} (ho : ops[i]? = some o) (hw : Region.wanted o (yielded ops a.tmps) = false) (h : K (a.put o.dst undef) w) : wpOp P ops Q i K a w := by
  unfold wpOp
  rw [ho]
  simp only
  rw [if_neg (by rw [hw]; exact Bool.false_ne_true)]
  exact h
/-- an operation whose guard asks for it stands as one without a guard -/
theorem wpList_ask {P : Program} {ops : Array Oper} {Q : Exit → Act → World → Prop} {a : Act} {w : World} {rest : List Oper} {o : Oper} (hw : Region.wanted o (yielded ops a.tmps) = true) (h : wpList P ops Q ({ o with guard := none } :: rest) a w) : wpList P ops Q (o :: rest) a w := by
  obtain ⟨dst, op, ty, pos, after, guard⟩ := o
  simp only [wpList] at h ⊢
  rw [if_pos hw]
  exact h
def quietP (t : PT) : Bool := t.right && (val t.ns ((t.ns.length - 1 : Nat) : Int) (List.replicate t.ps.length 0) == 0)
structure QfJ (W : World) (agT : Value) (b0 b1 b2 b3 b4 b5 b6 b7 b8 b9 b10 b11 : Bool) (v3 v4 v5 v13 v2 : Value) (w : World) : Prop where
  h0 : b0 = true → v3 = agT
  h1 : b1 = true → v4 = .bool false
  h2 : b2 = true → v5 = .bool false
  h10 : b10 = true → v13 = .bool false
  h11 : b11 = true → v2 = .bool false
  below : Below W.heap.size W w
section
variable {W : World} {agT : Value} {b0 b1 b2 b3 b4 b5 b6 b7 b8 b9 b10 b11 : Bool} {v3 v4 v5 v13 v2 : Value} {w w' : World}
theorem QfJ.world (H : QfJ W agT b0 b1 b2 b3 b4 b5 b6 b7 b8 b9 b10 b11 v3 v4 v5 v13 v2 w) (hb : Below w.heap.size w w') : QfJ W agT b0 b1 b2 b3 b4 b5 b6 b7 b8 b9 b10 b11 v3 v4 v5 v13 v2 w' :=
  ⟨H.h0, H.h1, H.h2, H.h10, H.h11, H.below.trans (hb.mono H.below.size)⟩
end
structure QtJ (W : World) (agT : Value) (P : Nat) (A : Option Addr) (n : Nat) (c : Nat) (r : Int) (b0 b1 b2 b3 b4 b5 b6 b7 b8 b9 b10 b11 : Bool) (v3 v4 v5 v6 v7 v8 v9 v10 v11 v12 v13 v2 : Value) (w : World) : Prop where
  h0 : b0 = true → v3 = agT
  h1 : b1 = true → v4 = .bool true
  h2 : b2 = true → v5 = .bool true
  h3 : b3 = true → v6 = agT
  h4 : b4 = true → v7 = .pointer (some ⟨P, 1, none⟩)
  h5 : b5 = true → v8 = .slice A n c
  h6 : b6 = true → v9 = .int .i64 (n : Int)
  h8 : b8 = true → v11 = .int .i64 r
  h9 : b9 = true → v12 = .bool (r == 0)
  h10 : b10 = true → v13 = .bool (r == 0)
  h11 : b11 = true → v2 = .bool (r == 0)
  below : Below W.heap.size W w
  m7 : b7 = true → ∃ g, v10 = .slice (some ⟨g, 0, none⟩) n n ∧ Ints w (some ⟨g, 0, none⟩) (List.replicate n 0)
section
variable {W : World} {agT : Value} {P : Nat} {A : Option Addr} {n : Nat} {c : Nat} {r : Int} {b0 b1 b2 b3 b4 b5 b6 b7 b8 b9 b10 b11 : Bool} {v3 v4 v5 v6 v7 v8 v9 v10 v11 v12 v13 v2 : Value} {w w' : World}
theorem QtJ.world (H : QtJ W agT P A n c r b0 b1 b2 b3 b4 b5 b6 b7 b8 b9 b10 b11 v3 v4 v5 v6 v7 v8 v9 v10 v11 v12 v13 v2 w) (hb : Below w.heap.size w w') : QtJ W agT P A n c r b0 b1 b2 b3 b4 b5 b6 b7 b8 b9 b10 b11 v3 v4 v5 v6 v7 v8 v9 v10 v11 v12 v13 v2 w' :=
  ⟨H.h0, H.h1, H.h2, H.h3, H.h4, H.h5, H.h6, H.h8, H.h9, H.h10, H.h11, H.below.trans (hb.mono H.below.size), fun h => (by obtain ⟨g, e, i⟩ := H.m7 h; exact ⟨g, e, i.ext hb⟩)⟩
end

set_option maxHeartbeats 8000000 in
theorem quiet_any (st : Int) (A : Option Addr) (c : Nat) (ps : List (Int × Int)) (B : Option Addr) (d : Nat) (hs : List Hd) (w : World) (hp : Pts w A ps) (hN : Nds w B hs) :
    Calls Tryz.prog 15 #[.agg #[.int .i64 st, .slice A ps.length c, .slice B hs.length d]] w fun e w' => e = .returned (.bool (quietP ⟨st, ps, hs.map Hd.nd⟩)) ∧ Below w.heap.size w w' := by
  obtain ⟨i0, hi0, hz0, hz1, hz2⟩ := info_parts Tryz.infoInt
  have HI0 := Lib.hid (And.intro hi0 (And.intro hz0 (And.intro hz1 hz2)))
  clear hi0 hz0 hz1 hz2
  obtain ⟨w0, hw0⟩ : ∃ w0, w0 = w.alloc (.cells #[.int .i64 st, .slice A ps.length c, .slice B hs.length d] 25) := ⟨_, rfl⟩
  have hb0 : Below w.heap.size w w0 := by rw [hw0]; exact below_new _ _
  have q1 : Blk w0 w.heap.size 25 #[.int .i64 st, .slice A ps.length c, .slice B hs.length d] := by rw [hw0]; exact Blk.new _ _ _
  have HW := Lib.hid hw0
  have HB := Lib.hid hb0
  have HT : Hid (TrV w0 w.heap.size st A ps.length c B hs.length d ⟨st, ps, hs.map Hd.nd⟩) := Lib.hid ⟨q1, ⟨A, c, B, d, hs, rfl, hp.ext hb0, hN.ext hb0, rfl⟩⟩
  have HR := Lib.hid (fun W (hW : Below w0.heap.size w0 W) => right_any st A c ps B d hs W ((hp.ext hb0).ext hW) ((hN.ext hb0).ext hW))
  have hlp := hp.le
  have hln := hN.le
  have hNN := hN.ext hb0
  unfold quietP PT.right
  dsimp only
  cases hr : rightN st ps (hs.map Hd.nd) with
  | false =>
    rw [hr] at HR
    clear hr hw0 hb0 q1 hp hN hNN
    go_enter Tryz.func15, Tryz.ntmps15
    go_upto_region 1 with fail
    rw [← HW.out]
    refine wp_region_J (by kernel_rfl) (fun listed act w' => ∃ b0 b1 b2 b3 b4 b5 b6 b7 b8 b9 b10 b11 v3 v4 v5 v13 v2, listed = #[b0, b1, b2, b3, b4, b5, b6, b7, b8, b9, b10, b11] ∧ act = Act.mk #[.agg #[.int .i64 st, .slice A ps.length c, .slice B hs.length d], .pointer (some ⟨w.heap.size, 0, none⟩), v2, v3, v4, v5, undef, undef, undef, undef, undef, undef, undef, v13] [] ∧ QfJ w0 (.agg #[.int .i64 st, .slice A ps.length c, .slice B hs.length d]) b0 b1 b2 b3 b4 b5 b6 b7 b8 b9 b10 b11 v3 v4 v5 v13 v2 w') ?_ ?_ ?_
    · exact ⟨_, _, _, _, _, _, _, _, _, _, _, _, _, _, _, _, _, rfl, rfl, ⟨(by simp), (by simp), (by simp), (by simp), (by simp), (Below.refl _ w0).drew⟩⟩
    · rintro i listed act w' hi ⟨b0, b1, b2, b3, b4, b5, b6, b7, b8, b9, b10, b11, v3, v4, v5, v13, v2, rfl, rfl, H⟩
      have hi16 : i < 12 := by
        obtain ⟨-, o, ho, -⟩ := mem_ready.1 hi
        exact (Array.getElem?_eq_some_iff.1 ho).1
      obtain rfl | rfl | rfl | rfl | rfl | rfl | rfl | rfl | rfl | rfl | rfl | rfl : i = 0 ∨ i = 1 ∨ i = 2 ∨ i = 3 ∨ i = 4 ∨ i = 5 ∨ i = 6 ∨ i = 7 ∨ i = 8 ∨ i = 9 ∨ i = 10 ∨ i = 11 := by omega
      all_goals simp [mem_ready, Region.binds] at hi
      · obtain ⟨g0, g1, g2⟩ := (HT.out.ext H.below).cells
        refine wpOp_hidden rfl fun K hK => ?_
        go_wp2
        refine OnlyN.mk (hK.out _ _ ⟨true, _, _, _, _, _, _, _, _, _, _, _, .agg #[.int .i64 st, .slice A ps.length c, .slice B hs.length d], _, _, _, _, rfl, rfl, ⟨fun _ => rfl, H.h1, H.h2, H.h10, H.h11, H.below⟩⟩)
      · obtain rfl := H.h0 (by simp [hi])
        have HB0 := Lib.hid (H.below)
        have hcall := HR.out w' HB0.out
        have HCALL := Lib.hid hcall
        clear hcall
        refine wpOp_hidden rfl fun K hK => ?_
        go_wp2_with (go_at_call 22; refine HCALL.out.mono ?_; intro e w9 hx; obtain ⟨rfl, hb9⟩ := hx; refine Hid.out ?_)
        refine Lib.hid ?_
        have HB9 := Lib.hid hb9
        clear hb9 HCALL
        go_wp2
        refine OnlyN.mk (hK.out _ _ ⟨_, true, _, _, _, _, _, _, _, _, _, _, _, .bool false, _, _, _, rfl, rfl, ⟨(H.world HB9.out).h0, fun _ => rfl, (H.world HB9.out).h2, (H.world HB9.out).h10, (H.world HB9.out).h11, (H.world HB9.out).below⟩⟩)
      · obtain rfl := H.h1 (by simp [hi])
        refine wpOp_hidden rfl fun K hK => ?_
        go_wp2
        refine OnlyN.mk (hK.out _ _ ⟨_, _, true, _, _, _, _, _, _, _, _, _, _, _, .bool false, _, _, rfl, rfl, ⟨H.h0, H.h1, fun _ => rfl, H.h10, H.h11, H.below⟩⟩)
      · obtain rfl := H.h2 (by simp [hi])
        exact wpOp_skip rfl (by rfl) ⟨_, _, _, true, _, _, _, _, _, _, _, _, _, _, _, _, _, rfl, rfl, ⟨H.h0, H.h1, H.h2, H.h10, H.h11, H.below⟩⟩
      · obtain rfl := H.h2 (by simp [hi])
        exact wpOp_skip rfl (by rfl) ⟨_, _, _, _, true, _, _, _, _, _, _, _, _, _, _, _, _, rfl, rfl, ⟨H.h0, H.h1, H.h2, H.h10, H.h11, H.below⟩⟩
      · obtain rfl := H.h2 (by simp [hi])
        exact wpOp_skip rfl (by rfl) ⟨_, _, _, _, _, true, _, _, _, _, _, _, _, _, _, _, _, rfl, rfl, ⟨H.h0, H.h1, H.h2, H.h10, H.h11, H.below⟩⟩
      · obtain rfl := H.h2 (by simp [hi])
        exact wpOp_skip rfl (by rfl) ⟨_, _, _, _, _, _, true, _, _, _, _, _, _, _, _, _, _, rfl, rfl, ⟨H.h0, H.h1, H.h2, H.h10, H.h11, H.below⟩⟩
      · obtain rfl := H.h2 (by simp [hi])
        exact wpOp_skip rfl (by rfl) ⟨_, _, _, _, _, _, _, true, _, _, _, _, _, _, _, _, _, rfl, rfl, ⟨H.h0, H.h1, H.h2, H.h10, H.h11, H.below⟩⟩
      · obtain rfl := H.h2 (by simp [hi])
        exact wpOp_skip rfl (by rfl) ⟨_, _, _, _, _, _, _, _, true, _, _, _, _, _, _, _, _, rfl, rfl, ⟨H.h0, H.h1, H.h2, H.h10, H.h11, H.below⟩⟩
      · obtain rfl := H.h2 (by simp [hi])
        exact wpOp_skip rfl (by rfl) ⟨_, _, _, _, _, _, _, _, _, true, _, _, _, _, _, _, _, rfl, rfl, ⟨H.h0, H.h1, H.h2, H.h10, H.h11, H.below⟩⟩
      · obtain rfl := H.h2 (by simp [hi])
        refine wpOp_hidden rfl fun K hK => ?_
        go_wp2
        refine OnlyN.mk (hK.out _ _ ⟨_, _, _, _, _, _, _, _, _, _, true, _, _, _, _, .bool false, _, rfl, rfl, ⟨H.h0, H.h1, H.h2, fun _ => rfl, H.h11, H.below⟩⟩)
      · obtain rfl := H.h10 (by simp [hi])
        refine wpOp_hidden rfl fun K hK => ?_
        go_wp2
        refine OnlyN.mk (hK.out _ _ ⟨_, _, _, _, _, _, _, _, _, _, _, true, _, _, _, _, .bool false, rfl, rfl, ⟨H.h0, H.h1, H.h2, H.h10, fun _ => rfl, H.below⟩⟩)
    · rintro listed act w' hr ⟨b0, b1, b2, b3, b4, b5, b6, b7, b8, b9, b10, b11, v3, v4, v5, v13, v2, rfl, rfl, H⟩
      have hn := List.eq_nil_iff_forall_not_mem.1 hr
      have r0 := hn 0
      simp [mem_ready, Region.binds] at r0
      subst r0
      have r1 := hn 1
      simp [mem_ready, Region.binds] at r1
      subst r1
      have r2 := hn 2
      simp [mem_ready, Region.binds] at r2
      subst r2
      have r3 := hn 3
      simp [mem_ready, Region.binds] at r3
      subst r3
      have r4 := hn 4
      simp [mem_ready, Region.binds] at r4
      subst r4
      have r5 := hn 5
      simp [mem_ready, Region.binds] at r5
      subst r5
      have r6 := hn 6
      simp [mem_ready, Region.binds] at r6
      subst r6
      have r7 := hn 7
      simp [mem_ready, Region.binds] at r7
      subst r7
      have r8 := hn 8
      simp [mem_ready, Region.binds] at r8
      subst r8
      have r9 := hn 9
      simp [mem_ready, Region.binds] at r9
      subst r9
      have r10 := hn 10
      simp [mem_ready, Region.binds] at r10
      subst r10
      have r11 := hn 11
      simp [mem_ready, Region.binds] at r11
      subst r11
      try dsimp only
      obtain rfl := H.h11 rfl
      have HBF := Lib.hid (HB.out.trans (H.below.mono HB.out.size))
      clear H hr hn
      go_wp2
      go_ret
      exact ⟨rfl, HBF.out⟩
  | true =>
    rw [hr] at HR
    obtain ⟨a1, a2, a3, a4, a5, a6, a7, a8, a9⟩ := rightN_parts hr
    rw [List.length_map] at a4 a5 a6
    have hv := fun W (hW : Below w0.heap.size w0 W) (g : Nat) (hz : Ints W (some ⟨g, 0, none⟩) (List.replicate ps.length (0 : Int))) => tvalue_any st A ps.length c B d hs (some ⟨g, 0, none⟩) ps.length (List.replicate ps.length 0) W (hNN.ext hW) (by rw [List.map_replicate]; exact hz) st.toNat a8 (by omega) (by rw [a6, List.length_replicate]) (fun s hs => by rw [List.eq_of_mem_replicate hs]; omega)
    rw [List.length_replicate] at hv
    rw [List.length_map]
    obtain ⟨r, hre⟩ : ∃ r, r = val (hs.map Hd.nd) ((hs.length - 1 : Nat) : Int) (List.replicate ps.length 0) := ⟨_, rfl⟩
    rw [← hre] at hv ⊢
    have HV := Lib.hid hv
    have HL25 : Hid (ps.length ≤ 25) := Lib.hid a7
    clear hr hw0 hb0 q1 hp hN hNN a1 a2 a3 a4 a5 a6 a7 a8 a9 hv hre
    go_enter Tryz.func15, Tryz.ntmps15
    go_upto_region 1 with fail
    rw [← HW.out]
    refine wp_region_J (by kernel_rfl) (fun listed act w' => ∃ b0 b1 b2 b3 b4 b5 b6 b7 b8 b9 b10 b11 v3 v4 v5 v6 v7 v8 v9 v10 v11 v12 v13 v2, listed = #[b0, b1, b2, b3, b4, b5, b6, b7, b8, b9, b10, b11] ∧ act = Act.mk #[.agg #[.int .i64 st, .slice A ps.length c, .slice B hs.length d], .pointer (some ⟨w.heap.size, 0, none⟩), v2, v3, v4, v5, v6, v7, v8, v9, v10, v11, v12, v13] [] ∧ QtJ w0 (.agg #[.int .i64 st, .slice A ps.length c, .slice B hs.length d]) w.heap.size A ps.length c r b0 b1 b2 b3 b4 b5 b6 b7 b8 b9 b10 b11 v3 v4 v5 v6 v7 v8 v9 v10 v11 v12 v13 v2 w') ?_ ?_ ?_
    · exact ⟨_, _, _, _, _, _, _, _, _, _, _, _, _, _, _, _, _, _, _, _, _, _, _, _, rfl, rfl, ⟨(by simp), (by simp), (by simp), (by simp), (by simp), (by simp), (by simp), (by simp), (by simp), (by simp), (by simp), (Below.refl _ w0).drew, (by simp)⟩⟩
    · rintro i listed act w' hi ⟨b0, b1, b2, b3, b4, b5, b6, b7, b8, b9, b10, b11, v3, v4, v5, v6, v7, v8, v9, v10, v11, v12, v13, v2, rfl, rfl, H⟩
      have hi16 : i < 12 := by
        obtain ⟨-, o, ho, -⟩ := mem_ready.1 hi
        exact (Array.getElem?_eq_some_iff.1 ho).1
      obtain rfl | rfl | rfl | rfl | rfl | rfl | rfl | rfl | rfl | rfl | rfl | rfl : i = 0 ∨ i = 1 ∨ i = 2 ∨ i = 3 ∨ i = 4 ∨ i = 5 ∨ i = 6 ∨ i = 7 ∨ i = 8 ∨ i = 9 ∨ i = 10 ∨ i = 11 := by omega
      all_goals simp [mem_ready, Region.binds] at hi
      · obtain ⟨g0, g1, g2⟩ := (HT.out.ext H.below).cells
        refine wpOp_hidden rfl fun K hK => ?_
        go_wp2
        refine OnlyN.mk (hK.out _ _ ⟨true, _, _, _, _, _, _, _, _, _, _, _, .agg #[.int .i64 st, .slice A ps.length c, .slice B hs.length d], _, _, _, _, _, _, _, _, _, _, _, rfl, rfl, ⟨fun _ => rfl, H.h1, H.h2, H.h3, H.h4, H.h5, H.h6, H.h8, H.h9, H.h10, H.h11, H.below, H.m7⟩⟩)
      · obtain rfl := H.h0 (by simp [hi])
        have HB0 := Lib.hid (H.below)
        have hcall := HR.out w' HB0.out
        have HCALL := Lib.hid hcall
        clear hcall
        refine wpOp_hidden rfl fun K hK => ?_
        go_wp2_with (go_at_call 22; refine HCALL.out.mono ?_; intro e w9 hx; obtain ⟨rfl, hb9⟩ := hx; refine Hid.out ?_)
        refine Lib.hid ?_
        have HB9 := Lib.hid hb9
        clear hb9 HCALL
        go_wp2
        refine OnlyN.mk (hK.out _ _ ⟨_, true, _, _, _, _, _, _, _, _, _, _, _, .bool true, _, _, _, _, _, _, _, _, _, _, rfl, rfl, ⟨(H.world HB9.out).h0, fun _ => rfl, (H.world HB9.out).h2, (H.world HB9.out).h3, (H.world HB9.out).h4, (H.world HB9.out).h5, (H.world HB9.out).h6, (H.world HB9.out).h8, (H.world HB9.out).h9, (H.world HB9.out).h10, (H.world HB9.out).h11, (H.world HB9.out).below, (H.world HB9.out).m7⟩⟩)
      · obtain rfl := H.h1 (by simp [hi])
        refine wpOp_hidden rfl fun K hK => ?_
        go_wp2
        refine OnlyN.mk (hK.out _ _ ⟨_, _, true, _, _, _, _, _, _, _, _, _, _, _, .bool true, _, _, _, _, _, _, _, _, _, rfl, rfl, ⟨H.h0, H.h1, fun _ => rfl, H.h3, H.h4, H.h5, H.h6, H.h8, H.h9, H.h10, H.h11, H.below, H.m7⟩⟩)
      · obtain rfl := H.h2 (by simp [hi])
        obtain ⟨g0, g1, g2⟩ := (HT.out.ext H.below).cells
        refine wpOp_hidden rfl fun K hK => ?_
        go_wp2
        refine OnlyN.mk (hK.out _ _ ⟨_, _, _, true, _, _, _, _, _, _, _, _, _, _, _, .agg #[.int .i64 st, .slice A ps.length c, .slice B hs.length d], _, _, _, _, _, _, _, _, rfl, rfl, ⟨H.h0, H.h1, H.h2, fun _ => rfl, H.h4, H.h5, H.h6, H.h8, H.h9, H.h10, H.h11, H.below, H.m7⟩⟩)
      · obtain rfl := H.h2 (by simp [hi])
        refine wpOp_hidden rfl fun K hK => ?_
        go_wp2
        refine OnlyN.mk (hK.out _ _ ⟨_, _, _, _, true, _, _, _, _, _, _, _, _, _, _, _, .pointer (some ⟨w.heap.size, 1, none⟩), _, _, _, _, _, _, _, rfl, rfl, ⟨H.h0, H.h1, H.h2, H.h3, fun _ => rfl, H.h5, H.h6, H.h8, H.h9, H.h10, H.h11, H.below, H.m7⟩⟩)
      · obtain rfl := H.h2 (by simp [hi])
        obtain rfl := H.h4 (by simp [hi])
        obtain ⟨g0, g1, g2⟩ := (HT.out.ext H.below).cells
        refine wpOp_hidden rfl fun K hK => ?_
        go_wp2
        refine OnlyN.mk (hK.out _ _ ⟨_, _, _, _, _, true, _, _, _, _, _, _, _, _, _, _, _, .slice A ps.length c, _, _, _, _, _, _, rfl, rfl, ⟨H.h0, H.h1, H.h2, H.h3, H.h4, fun _ => rfl, H.h6, H.h8, H.h9, H.h10, H.h11, H.below, H.m7⟩⟩)
      · obtain rfl := H.h2 (by simp [hi])
        obtain rfl := H.h5 (by simp [hi])
        refine wpOp_hidden rfl fun K hK => ?_
        go_wp2
        refine OnlyN.mk (hK.out _ _ ⟨_, _, _, _, _, _, true, _, _, _, _, _, _, _, _, _, _, _, .int .i64 ps.length, _, _, _, _, _, rfl, rfl, ⟨H.h0, H.h1, H.h2, H.h3, H.h4, H.h5, fun _ => rfl, H.h8, H.h9, H.h10, H.h11, H.below, H.m7⟩⟩)
      · obtain rfl := H.h2 (by simp [hi])
        obtain rfl := H.h6 (by simp [hi])
        obtain ⟨hi0, hz0, hz1, hz2⟩ := HI0.out
        have HB0 := Lib.hid H.below
        have hps9 := HL25.out
        refine wpOp_hidden rfl fun K hK => ?_
        refine wpList_ask (by rfl) ?_
        refine wpList_make_full _ rfl _ _ 28 rfl w0.heap.size 3 i0 _ 1 Tryz.underlying28 hi0 hz0 hz1 .i64 .i64 ps.length ps.length ps.length rfl rfl rfl rfl (by rw [hz2]; omega) (by unfold maxLen; omega) HB0.out.size ?_
        intro wn hon hgn
        have hbn : Below w'.heap.size w' wn := (Below.refl _ w').grown hgn (Nat.le_refl _) (by intro k hk; cases hk)
        have hrn : OwnIA wn w0.heap.size (.slice (some ⟨w'.heap.size, 0, none⟩) ps.length ps.length) (List.replicate ps.length 0) := by
          unfold OwnIA OwnI
          rw [List.length_replicate, List.map_replicate]
          change wn.ownsRow _ _ _ _ _ (madeCells #[Value.int .i64 0] (ps.length * 1)).toList at hon
          rw [toList_madeCells_one, Nat.mul_one] at hon
          exact hon
        have HRN := Lib.hid (OwnI.reads hrn)
        have HB9 := Lib.hid hbn
        clear hon hgn hbn hrn hi0 hz0 hz1 hz2 hps9
        go_wp2
        refine OnlyN.mk (hK.out _ _ ⟨_, _, _, _, _, _, _, true, _, _, _, _, _, _, _, _, _, _, _, .slice (some ⟨w'.heap.size, 0, none⟩) ps.length ps.length, _, _, _, _, rfl, rfl, ⟨(H.world HB9.out).h0, (H.world HB9.out).h1, (H.world HB9.out).h2, (H.world HB9.out).h3, (H.world HB9.out).h4, (H.world HB9.out).h5, (H.world HB9.out).h6, (H.world HB9.out).h8, (H.world HB9.out).h9, (H.world HB9.out).h10, (H.world HB9.out).h11, (H.world HB9.out).below, fun _ => ⟨_, rfl, HRN.out⟩⟩⟩)
      · obtain ⟨g7, em7, hm7⟩ := H.m7 (by simp [hi])
        subst em7
        have HM7 := Lib.hid hm7
        clear hm7
        obtain rfl := H.h2 (by simp [hi])
        obtain rfl := H.h3 (by simp [hi])
        have HB0 := Lib.hid (H.below)
        have hcall := HV.out w' HB0.out g7 HM7.out
        have HCALL := Lib.hid hcall
        clear hcall
        refine wpOp_hidden rfl fun K hK => ?_
        go_wp2_with (go_at_call 43; refine HCALL.out.mono ?_; intro e w9 hx; obtain ⟨rfl, hb9⟩ := hx; refine Hid.out ?_)
        refine Lib.hid ?_
        have HB9 := Lib.hid hb9
        clear hb9 HCALL
        go_wp2
        refine OnlyN.mk (hK.out _ _ ⟨_, _, _, _, _, _, _, _, true, _, _, _, _, _, _, _, _, _, _, _, .int .i64 r, _, _, _, rfl, rfl, ⟨(H.world HB9.out).h0, (H.world HB9.out).h1, (H.world HB9.out).h2, (H.world HB9.out).h3, (H.world HB9.out).h4, (H.world HB9.out).h5, (H.world HB9.out).h6, fun _ => rfl, (H.world HB9.out).h9, (H.world HB9.out).h10, (H.world HB9.out).h11, (H.world HB9.out).below, (H.world HB9.out).m7⟩⟩)
      · obtain rfl := H.h2 (by simp [hi])
        obtain rfl := H.h8 (by simp [hi])
        refine wpOp_hidden rfl fun K hK => ?_
        go_wp2
        refine OnlyN.mk (hK.out _ _ ⟨_, _, _, _, _, _, _, _, _, true, _, _, _, _, _, _, _, _, _, _, _, .bool (r == 0), _, _, rfl, rfl, ⟨H.h0, H.h1, H.h2, H.h3, H.h4, H.h5, H.h6, H.h8, fun _ => rfl, H.h10, H.h11, H.below, H.m7⟩⟩)
      · obtain rfl := H.h2 (by simp [hi])
        obtain rfl := H.h9 (by simp [hi])
        refine wpOp_hidden rfl fun K hK => ?_
        go_wp2
        refine OnlyN.mk (hK.out _ _ ⟨_, _, _, _, _, _, _, _, _, _, true, _, _, _, _, _, _, _, _, _, _, _, .bool (r == 0), _, rfl, rfl, ⟨H.h0, H.h1, H.h2, H.h3, H.h4, H.h5, H.h6, H.h8, H.h9, fun _ => rfl, H.h11, H.below, H.m7⟩⟩)
      · obtain rfl := H.h10 (by simp [hi])
        refine wpOp_hidden rfl fun K hK => ?_
        go_wp2
        refine OnlyN.mk (hK.out _ _ ⟨_, _, _, _, _, _, _, _, _, _, _, true, _, _, _, _, _, _, _, _, _, _, _, .bool (r == 0), rfl, rfl, ⟨H.h0, H.h1, H.h2, H.h3, H.h4, H.h5, H.h6, H.h8, H.h9, H.h10, fun _ => rfl, H.below, H.m7⟩⟩)
    · rintro listed act w' hr ⟨b0, b1, b2, b3, b4, b5, b6, b7, b8, b9, b10, b11, v3, v4, v5, v6, v7, v8, v9, v10, v11, v12, v13, v2, rfl, rfl, H⟩
      have hn := List.eq_nil_iff_forall_not_mem.1 hr
      have r0 := hn 0
      simp [mem_ready, Region.binds] at r0
      subst r0
      have r1 := hn 1
      simp [mem_ready, Region.binds] at r1
      subst r1
      have r2 := hn 2
      simp [mem_ready, Region.binds] at r2
      subst r2
      have r3 := hn 3
      simp [mem_ready, Region.binds] at r3
      subst r3
      have r4 := hn 4
      simp [mem_ready, Region.binds] at r4
      subst r4
      have r5 := hn 5
      simp [mem_ready, Region.binds] at r5
      subst r5
      have r6 := hn 6
      simp [mem_ready, Region.binds] at r6
      subst r6
      have r7 := hn 7
      simp [mem_ready, Region.binds] at r7
      subst r7
      have r8 := hn 8
      simp [mem_ready, Region.binds] at r8
      subst r8
      have r9 := hn 9
      simp [mem_ready, Region.binds] at r9
      subst r9
      have r10 := hn 10
      simp [mem_ready, Region.binds] at r10
      subst r10
      have r11 := hn 11
      simp [mem_ready, Region.binds] at r11
      subst r11
      try dsimp only
      obtain rfl := H.h11 rfl
      have HBF := Lib.hid (HB.out.trans (H.below.mono HB.out.size))
      clear H hr hn
      go_wp2
      go_ret
      exact ⟨ret_bool (by simp), HBF.out⟩
theorem quiet_tv {w : World} {v : Value} {t : PT} (h : TreeAt w v t) : Calls Tryz.prog 15 #[v] w fun e w' => e = .returned (.bool (quietP t)) ∧ Below w.heap.size w w' := by
  obtain ⟨A, c, B, d, os, rfl, h1, h2, h3⟩ := h
  have := quiet_any t.st A c t.ps B d os w h1 h2
  rw [h3] at this
  exact this
set_option maxHeartbeats 4000000 in
theorem rrow_any (w : World) : Calls Tryz.prog 20 #[] w (RetPts rowP w) := by
  have hb : Below w.heap.size w (w.alloc (.cells #[.int .i64 (-1), .int .i64 0, .int .i64 0, .int .i64 0, .int .i64 1, .int .i64 0] 51)) := below_new _ _
  have ho : OwnP 51 (w.alloc (.cells #[.int .i64 (-1), .int .i64 0, .int .i64 0, .int .i64 0, .int .i64 1, .int .i64 0] 51)) w.heap.size (.slice (some ⟨w.heap.size, 0, none⟩) 3 3) rowP :=
    World.ownsRow_lit (base := w.heap.size) (e := 51) (size := 2) w #[.int .i64 (-1), .int .i64 0, .int .i64 0, .int .i64 0, .int .i64 1, .int .i64 0] 3 (Nat.le_refl _) (by decide) rfl
  have HO := Lib.hid ho
  have HB := Lib.hid hb
  clear ho hb
  go_enter Tryz.func20, Tryz.ntmps20
  go_wp2
  go_ret
  obtain ⟨A, c, e, h1, h2⟩ := HO.out.pts
  exact ⟨A, c, by rw [← e]; rfl, h1, h2, HB.out⟩
end Go.Proofs.YtmlhkbgifnifdaaGreatDoor
namespace Go.Proofs.YtmlhkbgifnifdaaGreatDoor
open Go.RowKit
set_option maxRecDepth 100000
set_option linter.unusedVariables false
set_option linter.unusedSimpArgs false

set_option maxHeartbeats 400000 in
theorem sameIntsR (A B : Option Addr) (xs ys : List Int) (c d : Nat) (w : World) (ha : Ints w A xs) (hb : Ints w B ys) :
    Calls Tryz.prog 33 #[.slice A xs.length c, .slice B ys.length d] w fun e w' => e = .returned (.bool (decide (xs = ys))) ∧ Qt w w' := by
  have hn := ha.le
  have hm := hb.le
  by_cases hl : xs.length = ys.length
  · have hd : ((xs.length : Int) != ys.length) = false := by simp [hl]
    have HL := Lib.hid hl
    clear hl
    go_enter Tryz.func33, Tryz.ntmps33
    go_wp2
    go_loopw [5] (fun i wr => ∃ k q : Nat, k ≤ xs.length ∧ i = .int .i64 k ∧ wr = w.drewN q ∧ Hid (xs.take k = ys.take k)) (fun i _ => xs.length - (intOf i).toNat)
    case atStart => exact ⟨0, 0, Nat.zero_le _, rfl, rfl, Lib.hid rfl⟩
    case round =>
      obtain ⟨k, q, hk, rfl, rfl, HT⟩ := hrel
      by_cases hlt : k < xs.length
      · have hlt2 : k < ys.length := by have := HL.out; omega
        obtain ⟨b1, o1, rfl, -, hc⟩ := ha.at_ hlt
        obtain ⟨b2, o2, rfl, -, hc2⟩ := hb.at_ hlt2
        go_wp2
        go_quiet (fail)
        go_wp2
        · have hne : ¬ xs[k] = ys[k] := by simpa using ‹(xs[k] != ys[k]) = true›
          go_ret
          refine ⟨ret_bool (decide_eq_false ?_).symm, (Qt.drewN _ _).step _⟩
          rintro rfl
          exact hne rfl
        · have he : xs[k] = ys[k] := by simpa using ‹(xs[k] != ys[k]) = false›
          go_roundw
          case rel => exact ⟨k + 1, _, by omega, by go_num, rfl, Lib.hid (take_eq_snoc HT.out hlt hlt2 he)⟩
          case measure => simp [intOf]; omega
      · have hk' : k = xs.length := by omega
        have hfin : xs = ys := by
          have := HT.out
          rwa [hk', List.take_of_length_le (Nat.le_refl _), List.take_of_length_le (by rw [HL.out]; exact Nat.le_refl _)] at this
        clear hk'
        have HF := Lib.hid hfin
        clear hfin
        go_wp2
        go_ret
        exact ⟨ret_bool (decide_eq_true HF.out).symm, Qt.drewN _ _⟩
  · have hd : ((xs.length : Int) != ys.length) = true := by simp; omega
    have hf : ¬ xs = ys := by
      rintro rfl
      exact hl rfl
    have HF := Lib.hid hf
    clear hl hf
    go_enter Tryz.func33, Tryz.ntmps33
    go_wp2
    go_ret
    exact ⟨ret_bool (decide_eq_false HF.out).symm, Qt.refl _⟩
set_option maxHeartbeats 4000000 in
theorem rnext_any (x : TotL) (A B C : Option Addr) (a b c : Nat) (s1 s2 : Int) (w : World) (ht : TotR w A B C x) (h0 : 0 ≤ s2) (h1 : s2 ≤ 100) (hq : 2 ≤ x.states) :
    Calls Tryz.prog 42 #[totV A a B b C c x, .int .i64 s2, .int .i64 s1] w fun e w' => e = .returned (.int .i64 (nextT x (s1, s2))) ∧ Below w.heap.size w w' := by
  unfold totV
  obtain ⟨w0, hw0⟩ : ∃ w0, w0 = w.alloc (.cells #[.slice A x.hood.length a, .int .i64 x.states, .slice B x.birth.length b, .slice C x.survive.length c] 30) := ⟨_, rfl⟩
  have hb0 : Below w.heap.size w w0 := by rw [hw0]; exact below_new _ _
  have q0 : Blk w0 w.heap.size 30 #[.slice A x.hood.length a, .int .i64 x.states, .slice B x.birth.length b, .slice C x.survive.length c] := by rw [hw0]; exact Blk.new _ _ _
  have x1 := q0.cell_ 1 (.int .i64 x.states) rfl
  have x2 := q0.cell_ 2 (.slice B x.birth.length b) rfl
  have x3 := q0.cell_ 3 (.slice C x.survive.length c) rfl
  have HCB := Lib.hid (has_any B x.birth b s1 w0 (ht.birth.ext hb0))
  have HCC := Lib.hid (has_any C x.survive c s1 w0 (ht.survive.ext hb0))
  have HB0 := Lib.hid hb0
  have HW0 := Lib.hid hw0
  have hn := ht.hood.le
  have e1 : wrap64 (s2 + 1) = s2 + 1 := by unfold wrap64; omega
  have hnz : ¬ x.states = 0 := by omega
  have HN : Hid (nextT x (s1, s2) = if s2 = 0 then (if s1 ∈ x.birth then 1 else 0) else if s2 = 1 ∧ s1 ∈ x.survive then 1 else (s2 + 1).tmod x.states) := Lib.hid rfl
  clear hb0 hw0 q0 ht h0 h1
  by_cases h0 : s2 = 0
  · have hn := HN.out
    rw [if_pos h0] at hn
    by_cases hm : s1 ∈ x.birth
    · rw [if_pos hm] at hn
      have HN2 := Lib.hid hn
      have hd := decide_eq_true hm
      rw [hd] at HCB
      subst h0
      clear hn HN hm hd HCC
      go_enter Tryz.func42, Tryz.ntmps42
      go_upto_region 1 with fail
      rw [← HW0.out]
      go_wp2_with fail
      refine HCB.out.mono ?_
      rintro e w' ⟨rfl, rfl⟩
      go_wp2
      go_ret
      exact ⟨ret_int HN2.out.symm, HB0.out⟩
    · rw [if_neg hm] at hn
      have HN2 := Lib.hid hn
      have hd := decide_eq_false hm
      rw [hd] at HCB
      subst h0
      clear hn HN hm hd HCC
      go_enter Tryz.func42, Tryz.ntmps42
      go_upto_region 1 with fail
      rw [← HW0.out]
      go_wp2_with fail
      refine HCB.out.mono ?_
      rintro e w' ⟨rfl, rfl⟩
      go_wp2
      go_ret
      exact ⟨ret_int HN2.out.symm, HB0.out⟩
  · have hn := HN.out
    rw [if_neg h0] at hn
    have hd0 : (s2 == 0) = false := by simp [h0]
    by_cases h2 : s2 = 1
    · by_cases hm : s1 ∈ x.survive
      · rw [if_pos ⟨h2, hm⟩] at hn
        have HN2 := Lib.hid hn
        have hd := decide_eq_true hm
        rw [hd] at HCC
        subst h2
        clear hn HN hm hd HCB h0 hd0
        go_enter Tryz.func42, Tryz.ntmps42
        go_upto_region 1 with fail
        rw [← HW0.out]
        go_wp2_with fail
        refine HCC.out.mono ?_
        rintro e w' ⟨rfl, rfl⟩
        go_wp2
        go_ret
        exact ⟨ret_int HN2.out.symm, HB0.out⟩
      · rw [if_neg (fun h => hm h.2)] at hn
        have HN2 := Lib.hid hn
        have hd := decide_eq_false hm
        rw [hd] at HCC
        subst h2
        clear hn HN hm hd HCB h0 hd0
        go_enter Tryz.func42, Tryz.ntmps42
        go_upto_region 1 with fail
        rw [← HW0.out]
        go_wp2_with fail
        refine HCC.out.mono ?_
        rintro e w' ⟨rfl, rfl⟩
        go_wp2
        go_ret
        exact ⟨ret_int (by rw [HN2.out]; exact (Int.tmod_eq_emod_of_nonneg (by decide)).symm), HB0.out⟩
    · rw [if_neg (fun h => h2 h.1)] at hn
      have HN2 := Lib.hid hn
      have hd2 : (s2 == 1) = false := by simp [h2]
      clear hn HN HCB HCC
      go_enter Tryz.func42, Tryz.ntmps42
      go_upto_region 1 with fail
      rw [← HW0.out]
      go_wp2
      go_ret
      exact ⟨ret_int HN2.out.symm, HB0.out⟩
end Go.Proofs.YtmlhkbgifnifdaaGreatDoor
namespace Go.Proofs.YtmlhkbgifnifdaaGreatDoor
open Go.RowKit
set_option maxRecDepth 100000
set_option linter.unusedVariables false
set_option linter.unusedSimpArgs false

/-- how many of the first i places but c hold 1 -/
def cntTo (c : Nat) (zs : List Int) : Nat → Nat
  | 0 => 0
  | i + 1 => if i ≠ c ∧ zs.getD i 0 = 1 then cntTo c zs i + 1 else cntTo c zs i
theorem cntTo_le (c : Nat) (zs : List Int) : ∀ i, cntTo c zs i ≤ i
  | 0 => Nat.le_refl _
  | i + 1 => by
    unfold cntTo
    have := cntTo_le c zs i
    split <;> omega
def valP (x : TotL) (zs : List Int) : Int := nextT x ((cntTo (ctrP x.hood).toNat zs zs.length : Nat), zs.getD (ctrP x.hood).toNat 0)
structure RvJ (W : World) (xv : Value) (sv : Value) (bq : Nat) (oq : Nat) (cn : Nat) (zc : Int) (ct : Nat) (r : Int) (b0 b1 b2 b3 b4 b5 b6 b7 : Bool) (v30 v31 v32 v33 v34 v35 v36 v4 : Value) (w : World) : Prop where
  h0 : b0 = true → v30 = xv
  h1 : b1 = true → v31 = sv
  h2 : b2 = true → v32 = .int .i64 (cn : Int)
  h3 : b3 = true → v33 = .pointer (some ⟨bq, oq + cn, none⟩)
  h4 : b4 = true → v34 = .int .i64 zc
  h5 : b5 = true → v35 = .int .i64 (ct : Int)
  h6 : b6 = true → v36 = .int .i64 r
  h7 : b7 = true → v4 = .int .i64 r
  below : Below W.heap.size W w
section
variable {W : World} {xv : Value} {sv : Value} {bq : Nat} {oq : Nat} {cn : Nat} {zc : Int} {ct : Nat} {r : Int} {b0 b1 b2 b3 b4 b5 b6 b7 : Bool} {v30 v31 v32 v33 v34 v35 v36 v4 : Value} {w w' : World}
theorem RvJ.world (H : RvJ W xv sv bq oq cn zc ct r b0 b1 b2 b3 b4 b5 b6 b7 v30 v31 v32 v33 v34 v35 v36 v4 w) (hb : Below w.heap.size w w') : RvJ W xv sv bq oq cn zc ct r b0 b1 b2 b3 b4 b5 b6 b7 v30 v31 v32 v33 v34 v35 v36 v4 w' :=
  ⟨H.h0, H.h1, H.h2, H.h3, H.h4, H.h5, H.h6, H.h7, H.below.trans (hb.mono H.below.size)⟩
end

end Go.Proofs.YtmlhkbgifnifdaaGreatDoor
