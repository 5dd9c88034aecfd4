/-
  cellularlaw09.GenerationsPlain: the walk. No condition but that the package's variable is there.
-/
import Derived.Test.YtaofninfjdepfaaDoorLaw0
import Derived.Test.YtaofninfjdepfaaDoorJ
import Derived.Deep.Cut
namespace Go.Proofs.YtaofninfjdepfaaDoor
open Go.RowKit
set_option maxRecDepth 100000
set_option linter.unusedVariables false
set_option linter.unusedSimpArgs false

theorem next_plain {t : TotL} (hr : rightT t = true) (h3 : 3 ≤ t.states) {s : Int} (hs : s = 0 ∨ s = 1) (n : Int) : (nextT t s n == 1) = (nextT (plainT t) s n == 1) := by
  have e : plainT t = ⟨t.hood, 2, t.birth, t.survive⟩ := by unfold plainT; rw [if_pos hr]
  have hr2 : rightT ⟨t.hood, 2, t.birth, t.survive⟩ = true := right_plain hr
  rw [e, Bool.eq_iff_iff, beq_iff_eq, beq_iff_eq]
  unfold nextT
  rw [hr, hr2]
  dsimp only
  by_cases hn : 0 ≤ n ∧ n < (t.hood.length : Int)
  · have c1 : true = true ∧ 0 ≤ s ∧ s < t.states ∧ 0 ≤ n ∧ n < (t.hood.length : Int) := ⟨rfl, by omega, by omega, hn.1, hn.2⟩
    have c2 : true = true ∧ 0 ≤ s ∧ s < (2 : Int) ∧ 0 ≤ n ∧ n < (t.hood.length : Int) := ⟨rfl, by omega, by omega, hn.1, hn.2⟩
    rw [if_pos c1, if_pos c2]
    by_cases h : (s = 0 ∧ n ∈ t.birth) ∨ (s = 1 ∧ n ∈ t.survive)
    · rw [if_pos h, if_pos h]
    · rw [if_neg h, if_neg h]
      rcases hs with rfl | rfl
      · simp
      · rw [if_neg (by omega), if_pos (by omega)]
        simp
  · rw [if_neg (fun h => hn ⟨h.2.2.2.1, h.2.2.2.2⟩), if_neg (fun h => hn ⟨h.2.2.2.1, h.2.2.2.2⟩)]
structure PJ (w0 : World) (T : Nat) (A : Option Addr) (a : Nat) (B : Option Addr) (b : Nat) (C : Option Addr) (c : Nat) (t : TotL) (l le s1 s2 y : List UInt8) (b0 b1 b2 b3 b4 b5 b6 b7 b8 b9 b10 b11 b12 b13 b14 b15 b16 b17 : Bool) (v4 v69 v70 v71 v72 v73 v74 v75 v76 v77 v78 v79 v80 v81 v82 v83 v84 v85 : Value) (w : World) : Prop where
  below : Below w0.heap.size w0 w
  h0 : b0 = true → v69 = .agg #[.slice A t.hood.length a, .int .i64 t.states, .slice B t.birth.length b, .slice C t.survive.length c]
  h1 : b1 = true → v70 = .string ⟨y.toArray⟩
  h2 : b2 = true → v71 = .string ⟨l.toArray⟩
  h3 : b3 = true → v72 = .string ⟨s1.toArray⟩
  h4 : b4 = true → v73 = .pointer (some ⟨T, 1, none⟩)
  h5 : b5 = true → v74 = .int .i64 t.states
  h6 : b6 = true → v75 = .int .i64 (48 + t.states)
  h7 : b7 = true → v76 = .int .u8 ((digC t.states).toNat : Int)
  h8 : b8 = true → ∃ g, v77 = .slice (some ⟨g, 0, none⟩) 1 1 ∧ w.cell? ⟨g, 0, none⟩ = some (.int .u8 ((digC t.states).toNat : Int))
  h9 : b9 = true → v78 = .string ⟨[digC t.states].toArray⟩
  h10 : b10 = true → v79 = .string ⟨s2.toArray⟩
  h11 : b11 = true → v80 = .string ⟨le.toArray⟩
  h12 : b12 = true → v81 = .string ⟨y.toArray⟩
  h13 : b13 = true → v82 = .bool true
  h14 : b14 = true → v83 = .bool true
  h15 : b15 = true → v84 = .bool true
  h16 : b16 = true → v85 = .bool true
  h17 : b17 = true → v4 = .bool true
section
variable {w0 : World} {T : Nat} {A B C : Option Addr} {a b c : Nat} {t : TotL} {l le s1 s2 y : List UInt8} {b0 b1 b2 b3 b4 b5 b6 b7 b8 b9 b10 b11 b12 b13 b14 b15 b16 b17 : Bool} {v4 v69 v70 v71 v72 v73 v74 v75 v76 v77 v78 v79 v80 v81 v82 v83 v84 v85 : Value} {w w' : World}
theorem PJ.world (H : PJ w0 T A a B b C c t l le s1 s2 y b0 b1 b2 b3 b4 b5 b6 b7 b8 b9 b10 b11 b12 b13 b14 b15 b16 b17 v4 v69 v70 v71 v72 v73 v74 v75 v76 v77 v78 v79 v80 v81 v82 v83 v84 v85 w) (hb : Below w.heap.size w w') : PJ w0 T A a B b C c t l le s1 s2 y b0 b1 b2 b3 b4 b5 b6 b7 b8 b9 b10 b11 b12 b13 b14 b15 b16 b17 v4 v69 v70 v71 v72 v73 v74 v75 v76 v77 v78 v79 v80 v81 v82 v83 v84 v85 w' :=
  ⟨H.below.trans (hb.mono H.below.size), H.h0, H.h1, H.h2, H.h3, H.h4, H.h5, H.h6, H.h7, fun h => by obtain ⟨g, h1, h2⟩ := H.h8 h; exact ⟨g, h1, by rw [hb.cell (World.block_lt_of_cell? _ _ h2)]; exact h2⟩, H.h9, H.h10, H.h11, H.h12, H.h13, H.h14, H.h15, H.h16, H.h17⟩
end
theorem wrap_two {k : Nat} (hk : k < 2) : wrap64 ((k : Int) + 1) = ((k + 1 : Nat) : Int) := by unfold wrap64; omega
set_option maxHeartbeats 8000000 in
theorem lawL_any (A B C : Option Addr) (a b c : Nat) (t : TotL) (n : Int) (w : World) (hg : Glob w) (ht : TotR w A B C t) :
    Calls Tryd.prog 8 #[totV A a B b C c t, .int .i64 n] w fun e w' => e = .returned (.bool true) ∧ Below w.heap.size w w' := by
  have hb0 := below_new w (.cells #[.slice A t.hood.length a, .int .i64 t.states, .slice B t.birth.length b, .slice C t.survive.length c] 26)
  have X1 := Lib.hid (Box.new ht a b c)
  have HB := Lib.hid hb0
  have HG := Lib.hid (hg.ext hb0)
  clear hb0 ht hg
  unfold totV at *
  cases s2 : fewT t
  · have HS := Lib.hid (few_box X1.out _ s2)
    clear s2
    go_enter Tryd.func8, Tryd.ntmps8
    have x1f0 := X1.out.c0
    have x1f1 := X1.out.c1
    have x1f2 := X1.out.c2
    have x1f3 := X1.out.c3
    go_wp2_with fail
    refine (HS.out).mono ?_
    rintro e w1 ⟨rfl, hb⟩
    clear x1f0 x1f1 x1f2 x1f3
    have X1n := Lib.hid (X1.out.ext hb)
    clear X1
    have X1 := X1n
    clear X1n
    have HGn := Lib.hid (HG.out.ext hb)
    clear HG
    have HG := HGn
    clear HGn
    have HBn := Lib.hid (HB.out.trans (hb.mono HB.out.size))
    clear HB hb
    have HB := HBn
    clear HBn
    clear HS
    go_wp2_with fail
    refine (awake_any _ HG.out).mono ?_
    rintro e w2 ⟨rfl, hb⟩
    have X1n := Lib.hid (X1.out.ext hb)
    clear X1
    have X1 := X1n
    clear X1n
    have HGn := Lib.hid (HG.out.ext hb)
    clear HG
    have HG := HGn
    clear HGn
    have HBn := Lib.hid (HB.out.trans (hb.mono HB.out.size))
    clear HB hb
    have HB := HBn
    clear HBn
    go_wp2_with fail
    go_ret
    exact ⟨rfl, HB.out⟩
  have HS := Lib.hid (few_box X1.out _ s2)
  clear s2
  have HR0 := Lib.hid (fun W h => rright_any A B C a b c t W h)
  unfold totV at HR0
  obtain ⟨kr, hkr⟩ : ∃ k, k = rightT t := ⟨_, rfl⟩
  rw [← hkr] at HR0
  cases kr
  · clear hkr
    go_enter Tryd.func8, Tryd.ntmps8
    have x1f0 := X1.out.c0
    have x1f1 := X1.out.c1
    have x1f2 := X1.out.c2
    have x1f3 := X1.out.c3
    go_wp2_with fail
    refine (HS.out).mono ?_
    rintro e w1 ⟨rfl, hb⟩
    clear x1f0 x1f1 x1f2 x1f3
    have X1n := Lib.hid (X1.out.ext hb)
    clear X1
    have X1 := X1n
    clear X1n
    have HGn := Lib.hid (HG.out.ext hb)
    clear HG
    have HG := HGn
    clear HGn
    have HBn := Lib.hid (HB.out.trans (hb.mono HB.out.size))
    clear HB hb
    have HB := HBn
    clear HBn
    clear HS
    have x1f0 := X1.out.c0
    have x1f1 := X1.out.c1
    have x1f2 := X1.out.c2
    have x1f3 := X1.out.c3
    go_wp2_with fail
    refine (HR0.out _ X1.out.tot).mono ?_
    rintro e w2 ⟨rfl, hb⟩
    clear x1f0 x1f1 x1f2 x1f3
    have X1n := Lib.hid (X1.out.ext hb)
    clear X1
    have X1 := X1n
    clear X1n
    have HGn := Lib.hid (HG.out.ext hb)
    clear HG
    have HG := HGn
    clear HGn
    have HBn := Lib.hid (HB.out.trans (hb.mono HB.out.size))
    clear HB hb
    have HB := HBn
    clear HBn
    clear HR0
    go_wp2_with fail
    refine (awake_any _ HG.out).mono ?_
    rintro e w3 ⟨rfl, hb⟩
    have X1n := Lib.hid (X1.out.ext hb)
    clear X1
    have X1 := X1n
    clear X1n
    have HGn := Lib.hid (HG.out.ext hb)
    clear HG
    have HG := HGn
    clear HGn
    have HBn := Lib.hid (HB.out.trans (hb.mono HB.out.size))
    clear HB hb
    have HB := HBn
    clear HBn
    go_wp2_with fail
    go_ret
    exact ⟨rfl, HB.out⟩
  by_cases k2 : t.states < 3
  · have d2 : decide (t.states < 3) = true := decide_eq_true k2
    clear hkr k2
    go_enter Tryd.func8, Tryd.ntmps8
    have x1f0 := X1.out.c0
    have x1f1 := X1.out.c1
    have x1f2 := X1.out.c2
    have x1f3 := X1.out.c3
    go_wp2_with fail
    refine (HS.out).mono ?_
    rintro e w1 ⟨rfl, hb⟩
    clear x1f0 x1f1 x1f2 x1f3
    have X1n := Lib.hid (X1.out.ext hb)
    clear X1
    have X1 := X1n
    clear X1n
    have HGn := Lib.hid (HG.out.ext hb)
    clear HG
    have HG := HGn
    clear HGn
    have HBn := Lib.hid (HB.out.trans (hb.mono HB.out.size))
    clear HB hb
    have HB := HBn
    clear HBn
    clear HS
    have x1f0 := X1.out.c0
    have x1f1 := X1.out.c1
    have x1f2 := X1.out.c2
    have x1f3 := X1.out.c3
    go_wp2_with fail
    refine (HR0.out _ X1.out.tot).mono ?_
    rintro e w2 ⟨rfl, hb⟩
    clear x1f0 x1f1 x1f2 x1f3
    have X1n := Lib.hid (X1.out.ext hb)
    clear X1
    have X1 := X1n
    clear X1n
    have HGn := Lib.hid (HG.out.ext hb)
    clear HG
    have HG := HGn
    clear HGn
    have HBn := Lib.hid (HB.out.trans (hb.mono HB.out.size))
    clear HB hb
    have HB := HBn
    clear HBn
    clear HR0
    have x1g1 := X1.out.c1
    go_wp2_with fail
    refine (awake_any _ HG.out).mono ?_
    rintro e w3 ⟨rfl, hb⟩
    have X1n := Lib.hid (X1.out.ext hb)
    clear X1
    have X1 := X1n
    clear X1n
    have HGn := Lib.hid (HG.out.ext hb)
    clear HG
    have HG := HGn
    clear HGn
    have HBn := Lib.hid (HB.out.trans (hb.mono HB.out.size))
    clear HB hb
    have HB := HBn
    clear HBn
    go_wp2_with fail
    go_ret
    exact ⟨rfl, HB.out⟩
  have d2 : decide (t.states < 3) = false := decide_eq_false k2
  have RT := Lib.hid (right_states hkr.symm)
  have HK : Hid (3 ≤ t.states ∧ rightT t = true) := Lib.hid ⟨by omega, hkr.symm⟩
  have HTP := Lib.hid (text_plain hkr.symm)
  have HTG : Hid (textG t = bodyP t ++ [47, 67] ++ [digC t.states] ++ (letterS t.hood).data.toList) := Lib.hid (by unfold textG; rw [if_pos ⟨hkr.symm, by omega⟩])
  have HBL := Lib.hid (bodyP_last hkr.symm)
  have HBN := Lib.hid (bodyP_len hkr.symm)
  have HNP := Lib.hid (fun (s : Int) (hs : s = 0 ∨ s = 1) => next_plain hkr.symm (by omega) hs n)
  have HPP := Lib.hid (fun W h => plain_any A B C a b c t W h)
  unfold totV at HPP
  clear hkr k2
  go_enter Tryd.func8, Tryd.ntmps8
  have x1f0 := X1.out.c0
  have x1f1 := X1.out.c1
  have x1f2 := X1.out.c2
  have x1f3 := X1.out.c3
  go_wp2_with fail
  refine (HS.out).mono ?_
  rintro e w1 ⟨rfl, hb⟩
  clear x1f0 x1f1 x1f2 x1f3
  have X1n := Lib.hid (X1.out.ext hb)
  clear X1
  have X1 := X1n
  clear X1n
  have HGn := Lib.hid (HG.out.ext hb)
  clear HG
  have HG := HGn
  clear HGn
  have HBn := Lib.hid (HB.out.trans (hb.mono HB.out.size))
  clear HB hb
  have HB := HBn
  clear HBn
  clear HS
  have x1f0 := X1.out.c0
  have x1f1 := X1.out.c1
  have x1f2 := X1.out.c2
  have x1f3 := X1.out.c3
  go_wp2_with fail
  refine (HR0.out _ X1.out.tot).mono ?_
  rintro e w2 ⟨rfl, hb⟩
  clear x1f0 x1f1 x1f2 x1f3
  have X1n := Lib.hid (X1.out.ext hb)
  clear X1
  have X1 := X1n
  clear X1n
  have HGn := Lib.hid (HG.out.ext hb)
  clear HG
  have HG := HGn
  clear HGn
  have HBn := Lib.hid (HB.out.trans (hb.mono HB.out.size))
  clear HB hb
  have HB := HBn
  clear HBn
  clear HR0
  have x1f0 := X1.out.c0
  have x1f1 := X1.out.c1
  have x1f2 := X1.out.c2
  have x1f3 := X1.out.c3
  go_wp2_with fail
  refine (HPP.out _ X1.out.tot).mono ?_
  rintro e w3 ⟨⟨Ap, ap, Bp, bp, Cp, cp, rfl, htp⟩, hb⟩
  clear x1f0 x1f1 x1f2 x1f3
  obtain ⟨p, hp⟩ : ∃ p, p = plainT t := ⟨_, rfl⟩
  rw [← hp] at HTP HNP htp ⊢
  clear hp HPP
  dsimp only [totV]
  have X1n := Lib.hid ((X1.out.ext hb).alloc (.cells #[.slice Ap p.hood.length ap, .int .i64 p.states, .slice Bp p.birth.length bp, .slice Cp p.survive.length cp] 26))
  clear X1
  have X1 := X1n
  clear X1n
  have X5 := Lib.hid (Box.new htp ap bp cp)
  have HGn := Lib.hid ((HG.out.ext hb).ext (below_new w3 (.cells #[.slice Ap p.hood.length ap, .int .i64 p.states, .slice Bp p.birth.length bp, .slice Cp p.survive.length cp] 26)))
  clear HG
  have HG := HGn
  clear HGn
  have HBn := Lib.hid (Below.alloc (HB.out.trans (hb.mono HB.out.size)) (HB.out.trans (hb.mono HB.out.size)).size (.cells #[.slice Ap p.hood.length ap, .int .i64 p.states, .slice Bp p.birth.length bp, .slice Cp p.survive.length cp] 26))
  clear HB htp hb
  have HB := HBn
  clear HBn
  go_wp2_with fail
  go_loopw [6] (fun i wr => ∃ k : Nat, k ≤ 2 ∧ i = .int .i64 k ∧ Hid (Box wr w.heap.size A a B b C c t) ∧ Hid (Box wr w3.heap.size Ap ap Bp bp Cp cp p) ∧ Hid (Glob wr) ∧ Hid (Below w.heap.size w wr)) (fun i _ => 2 - (intOf i).toNat)
  case atStart => exact ⟨0, by omega, rfl, X1, X5, HG, HB⟩
  case round =>
    clear X1 X5 HG HB
    obtain ⟨k, hk, rfl, X1, X5, HG, HB⟩ := hrel
    by_cases hlt : k < 2
    · have hlt' : decide ((k : Int) < 2) = true := decide_eq_true (by omega)
      have x1k0 := cell_regrown X1.out.c0
      have x1k1 := cell_regrown X1.out.c1
      have x1k2 := cell_regrown X1.out.c2
      have x1k3 := cell_regrown X1.out.c3
      have x5k0 := cell_regrown X5.out.c0
      have x5k1 := cell_regrown X5.out.c1
      have x5k2 := cell_regrown X5.out.c2
      have x5k3 := cell_regrown X5.out.c3
      have cN := fun d os => Calls.regrown_of (next_any A B C a b c t k n _ (X1.out.tot.ext (below_regrown _ d os)))
      have cM := fun d os => Calls.regrown_of (next_any Ap Bp Cp ap bp cp p k n _ (X5.out.tot.ext (below_regrown _ d os)))
      obtain ⟨bx, e1, e2⟩ : ∃ bx, (nextT t k n == 1) = bx ∧ (nextT p k n == 1) = bx := ⟨_, rfl, (HNP.out k (by omega)).symm⟩
      have e3 : (bx != bx) = false := by simp
      unfold totV at cN cM
      generalize nextT t k n = x at *
      generalize nextT p k n = y at *
      have CN := Lib.hid cN
      have CM := Lib.hid cM
      clear cN cM
      go_upto_region 7 with fail
      refine wp_region_quiet_below (by kernel_rfl) (by kernel_rfl) ?_
      repeat (go_big_quiet_step (first | with_reducible exact CN.out _ _ | with_reducible exact CM.out _ _))
      refine wpQuiet_nil ?_
      intro _ hw'
      obtain ⟨⟨dq, osq⟩, hw''⟩ := hw'
      subst hw''
      have hbq := below_regrown wr dq osq
      go_wp2_with fail
      go_roundw
      case rel =>
        refine ⟨k + 1, by omega, ?_, Lib.hid (X1.out.ext hbq), Lib.hid (X5.out.ext hbq), Lib.hid (HG.out.ext hbq), Lib.hid (HB.out.trans (hbq.mono HB.out.size))⟩
        exact congrArg (Value.int .i64) (by omega)
      case measure =>
        simp only [intOf]
        omega
    · obtain rfl : k = 2 := by omega
      have HT := text_any Ap Bp Cp ap bp cp p _ X5.out.tot
      rw [HTP.out] at HT
      unfold totV at HT
      obtain ⟨l, hl⟩ : ∃ l, l = bodyP t := ⟨_, rfl⟩
      rw [← hl] at HT HTG HBL HBN
      clear hl
      have HT2 := Lib.hid HT
      clear HT
      have x50 := X5.out.c0
      have x51 := X5.out.c1
      have x52 := X5.out.c2
      have x53 := X5.out.c3
      go_wp2_with fail
      refine HT2.out.mono ?_
      rintro e w4 ⟨rfl, hb⟩
      clear x50 x51 x52 x53 HT2 X5
      have X1n := Lib.hid (X1.out.ext hb)
      have HGn := Lib.hid (HG.out.ext hb)
      have HBn := Lib.hid (HB.out.trans (hb.mono HB.out.size))
      clear X1 HG HB hb
      have X1 := X1n
      have HG := HGn
      have HB := HBn
      clear X1n HGn HBn
      obtain ⟨le, hle0⟩ : ∃ le, le = (letterS t.hood).data.toList := ⟨_, rfl⟩
      have HTG2 : Hid (textG t = l ++ [47, 67] ++ [digC t.states] ++ le) := Lib.hid (by rw [HTG.out, hle0])
      have HLL : Hid (le.length ≤ 1) := Lib.hid (by rw [hle0, ← Lib.size_eq]; exact letter_len t.hood)
      clear HTG
      rcases letter_cases t.hood with hl | hl | hl
      all_goals rw [hl]
      · obtain ⟨p', x, hp', hx86, hx72⟩ := HBL.out
        obtain ⟨m, hm⟩ : ∃ m, m = p'.length := ⟨_, rfl⟩
        have hlen : l.length = m + 1 := by rw [hp', hm]; simp
        have hm30 : m ≤ 30 := by have := HBN.out; omega
        have hw : wrap64 (↑l.length - 1) = (m : Int) := by rw [hlen]; unfold wrap64; omega
        have hle : (m : Int) ≤ (l.length : Int) := by rw [hlen]; omega
        have hpos : 0 < l.length := by omega
        have hlt2 : m < l.length := by omega
        have hbt : ((⟨l.toArray⟩ : ByteArray)[m]'hlt2).toNat = x.toNat := by
          subst hp'
          simp [ByteArray.getElem_eq_getElem_data, hm]
        have f1 : ¬ (x.toNat : Int) = 86 := by
          intro h
          exact hx86 (UInt8.toNat_inj.1 (by show x.toNat = 86; omega))
        have f2 : ¬ (x.toNat : Int) = 72 := by
          intro h
          exact hx72 (UInt8.toNat_inj.1 (by show x.toNat = 72; omega))
        have f3 : ((x.toNat : Int) == 86) = false := by simpa using f1
        have f4 : ((x.toNat : Int) == 72) = false := by simpa using f2
        have hf2 : l ++ (⟨#[]⟩ : ByteArray).data.toList = l := by simp
        rw [hf2]
        have HLE : Hid (le = []) := Lib.hid (by rw [hle0, hl])
        clear hp' hf2 hm hlen hm30 hl hle0 hx86 hx72
        go_upto_if 60 with fail
        go_cut [7, 8] from 9 (fun v7 v8 wx => v7 = .string ⟨l.toArray⟩ ∧ v8 = .string ⟨le.toArray⟩ ∧ Hid (Below w4.heap.size w4 wx))
        case first =>
          go_wp2_with fail
          go_meet
          exact ⟨rfl, by rw [HLE.out], Lib.hid (Below.refl _ _)⟩
        case rest =>
          obtain ⟨rfl, rfl, hcut⟩ := hcut
          have XF := Lib.hid (X1.out.ext hcut.out)
          have HGF := Lib.hid (HG.out.ext hcut.out)
          have HBF := Lib.hid (HB.out.trans (hcut.out.mono HB.out.size))
          clear X1 HG HB hcut
          have HT := Lib.hid (fun W h => gtext_any A B C a b c t W h)
          obtain ⟨y, hy⟩ : ∃ y, y = textG t := ⟨_, rfl⟩
          unfold totV at HT
          rw [← hy] at HT HTG2
          clear hy
          obtain ⟨s1, q1⟩ : ∃ s1, s1 = l ++ [47, 67] := ⟨_, rfl⟩
          obtain ⟨s2, q2⟩ : ∃ s2, s2 = s1 ++ [digC t.states] := ⟨_, rfl⟩
          have sum : ∀ (x y z : List UInt8), z = x ++ y → x.length ≤ 100 → y.length ≤ 100 → ∀ w, (Op.stringOp .add ⟨x.toArray⟩ ⟨y.toArray⟩).run Tryd.prog w = .ok (.string ⟨z.toArray⟩) w := by
            intro x y z hz h1 h2 w
            rw [run_string_add_sum (P := Tryd.prog) w _ _ (by simp [ByteArray.size]; omega), text_end, hz]
          have n0 := HBN.out
          have n1 : s1.length ≤ 40 := by rw [q1]; simp; omega
          have n2 : s2.length ≤ 50 := by rw [q2]; simp; omega
          have HA1 := Lib.hid (sum l [47, 67] s1 q1 (by omega) (by simp))
          have HA2 := Lib.hid (sum s1 [digC t.states] s2 q2 (by omega) (by simp))
          have HA3 := Lib.hid (sum s2 le y (by rw [HTG2.out, q2, q1]) (by omega) (by have := HLL.out; omega))
          have HW48 : Hid (wrap64 (48 + t.states) = 48 + t.states) := Lib.hid (by have := RT.out; unfold wrap64; omega)
          have HW8 : Hid (IntKind.u8.wrap (48 + t.states) = ((digC t.states).toNat : Int)) := Lib.hid (by
            have := RT.out
            rw [digC_val (by omega) (by omega)]
            simp [IntKind.wrap, IntKind.bits, IntKind.signed]
            omega)
          clear sum q1 q2 n0 n1 n2
          go_upto_region 13 with fail
          go_cut [4] from 69 (fun v4 wx => v4 = .bool true ∧ Hid (Below wc.heap.size wc wx))
          case first =>
            refine wp_region_J (by kernel_rfl) (fun listed act w' => ∃ b0 b1 b2 b3 b4 b5 b6 b7 b8 b9 b10 b11 b12 b13 b14 b15 b16 b17 v4 v69 v70 v71 v72 v73 v74 v75 v76 v77 v78 v79 v80 v81 v82 v83 v84 v85, listed = #[b0, b1, b2, b3, b4, b5, b6, b7, b8, b9, b10, b11, b12, b13, b14, b15, b16, b17] ∧ act = Act.mk #[Value.agg #[Value.slice A t.hood.length a, Value.int IntKind.i64 t.states, Value.slice B t.birth.length b, Value.slice C t.survive.length c], Value.int IntKind.i64 n, Value.pointer (some { block := w.heap.size, off := 0 }), undef, v4, Value.pointer (some { block := w3.heap.size, off := 0 }), Value.int IntKind.i64 2, Value.string ⟨l.toArray⟩, Value.string ⟨le.toArray⟩, u9, u10, u11, u12, u13, u14, u15, u16, u17, u18, u19, u20, u21, u22, u23, u24, u25, u26, u27, u28, u29, u30, u31, u32, u33, u34, u35, u36, u37, u38, u39, u40, u41, u42, u43, u44, u45, u46, u47, u48, u49, u50, u51, u52, u53, u54, u55, u56, u57, u58, u59, u60, u61, u62, u63, u64, u65, u66, u67, u68, v69, v70, v71, v72, v73, v74, v75, v76, v77, v78, v79, v80, v81, v82, v83, v84, v85] [] ∧ PJ wc w.heap.size A a B b C c t l le s1 s2 y b0 b1 b2 b3 b4 b5 b6 b7 b8 b9 b10 b11 b12 b13 b14 b15 b16 b17 v4 v69 v70 v71 v72 v73 v74 v75 v76 v77 v78 v79 v80 v81 v82 v83 v84 v85 w') ?_ ?_ ?_
            · exact ⟨_, _, _, _, _, _, _, _, _, _, _, _, _, _, _, _, _, _, _, _, _, _, _, _, _, _, _, _, _, _, _, _, _, _, _, _, rfl, rfl, ⟨(Below.refl _ wc).drew, (by simp), (by simp), (by simp), (by simp), (by simp), (by simp), (by simp), (by simp), (by simp), (by simp), (by simp), (by simp), (by simp), (by simp), (by simp), (by simp), (by simp), (by simp)⟩⟩
            · rintro i listed act w' hi ⟨b0, b1, b2, b3, b4, b5, b6, b7, b8, b9, b10, b11, b12, b13, b14, b15, b16, b17, v4, v69, v70, v71, v72, v73, v74, v75, v76, v77, v78, v79, v80, v81, v82, v83, v84, v85, rfl, rfl, H⟩
              have hi16 : i < 18 := by
                obtain ⟨-, o, ho, -⟩ := mem_ready.1 hi
                exact (Array.getElem?_eq_some_iff.1 ho).1
              obtain rfl | rfl | rfl | rfl | rfl | rfl | rfl | rfl | rfl | rfl | rfl | rfl | rfl | rfl | rfl | rfl | rfl | rfl : i = 0 ∨ i = 1 ∨ i = 2 ∨ i = 3 ∨ i = 4 ∨ i = 5 ∨ i = 6 ∨ i = 7 ∨ i = 8 ∨ i = 9 ∨ i = 10 ∨ i = 11 ∨ i = 12 ∨ i = 13 ∨ i = 14 ∨ i = 15 ∨ i = 16 ∨ i = 17 := by omega
              all_goals simp [mem_ready, Region.binds] at hi
              · have cc0 := (XF.out.ext H.below).c0
                have cc1 := (XF.out.ext H.below).c1
                have cc2 := (XF.out.ext H.below).c2
                have cc3 := (XF.out.ext H.below).c3
                refine wpOp_hidden rfl fun K hK => ?_
                go_wp2
                refine OnlyN.mk (hK.out _ _ ⟨true, _, _, _, _, _, _, _, _, _, _, _, _, _, _, _, _, _, _, .agg #[.slice A t.hood.length a, .int .i64 t.states, .slice B t.birth.length b, .slice C t.survive.length c], _, _, _, _, _, _, _, _, _, _, _, _, _, _, _, _, rfl, rfl, ⟨H.below, fun _ => rfl, H.h1, H.h2, H.h3, H.h4, H.h5, H.h6, H.h7, H.h8, H.h9, H.h10, H.h11, H.h12, H.h13, H.h14, H.h15, H.h16, H.h17⟩⟩)
              · obtain rfl := H.h0 (by simp [hi])
                refine wpOp_hidden rfl fun K hK => ?_
                go_wp2_with fail
                refine (HT.out w' (XF.out.ext H.below).tot).mono ?_
                rintro e w9 ⟨rfl, hb2⟩
                go_wp2
                refine OnlyN.mk (hK.out _ _ ⟨_, true, _, _, _, _, _, _, _, _, _, _, _, _, _, _, _, _, _, _, .string ⟨y.toArray⟩, _, _, _, _, _, _, _, _, _, _, _, _, _, _, _, rfl, rfl, ⟨(H.world hb2).below, (H.world hb2).h0, fun _ => rfl, (H.world hb2).h2, (H.world hb2).h3, (H.world hb2).h4, (H.world hb2).h5, (H.world hb2).h6, (H.world hb2).h7, (H.world hb2).h8, (H.world hb2).h9, (H.world hb2).h10, (H.world hb2).h11, (H.world hb2).h12, (H.world hb2).h13, (H.world hb2).h14, (H.world hb2).h15, (H.world hb2).h16, (H.world hb2).h17⟩⟩)
              · refine wpOp_hidden rfl fun K hK => ?_
                go_wp2
                refine OnlyN.mk (hK.out _ _ ⟨_, _, true, _, _, _, _, _, _, _, _, _, _, _, _, _, _, _, _, _, _, .string ⟨l.toArray⟩, _, _, _, _, _, _, _, _, _, _, _, _, _, _, rfl, rfl, ⟨H.below, H.h0, H.h1, fun _ => rfl, H.h3, H.h4, H.h5, H.h6, H.h7, H.h8, H.h9, H.h10, H.h11, H.h12, H.h13, H.h14, H.h15, H.h16, H.h17⟩⟩)
              · obtain rfl := H.h2 (by simp [hi])
                have ha : ∀ w, (Op.stringOp .add ⟨l.toArray⟩ ⟨#[47, 67]⟩).run Tryd.prog w = .ok (.string ⟨s1.toArray⟩) w := HA1.out
                refine wpOp_hidden rfl fun K hK => ?_
                go_wp2
                refine OnlyN.mk (hK.out _ _ ⟨_, _, _, true, _, _, _, _, _, _, _, _, _, _, _, _, _, _, _, _, _, _, .string ⟨s1.toArray⟩, _, _, _, _, _, _, _, _, _, _, _, _, _, rfl, rfl, ⟨H.below, H.h0, H.h1, H.h2, fun _ => rfl, H.h4, H.h5, H.h6, H.h7, H.h8, H.h9, H.h10, H.h11, H.h12, H.h13, H.h14, H.h15, H.h16, H.h17⟩⟩)
              · refine wpOp_hidden rfl fun K hK => ?_
                go_wp2
                refine OnlyN.mk (hK.out _ _ ⟨_, _, _, _, true, _, _, _, _, _, _, _, _, _, _, _, _, _, _, _, _, _, _, .pointer (some ⟨w.heap.size, 1, none⟩), _, _, _, _, _, _, _, _, _, _, _, _, rfl, rfl, ⟨H.below, H.h0, H.h1, H.h2, H.h3, fun _ => rfl, H.h5, H.h6, H.h7, H.h8, H.h9, H.h10, H.h11, H.h12, H.h13, H.h14, H.h15, H.h16, H.h17⟩⟩)
              · obtain rfl := H.h4 (by simp [hi])
                have cc1 := (XF.out.ext H.below).c1
                refine wpOp_hidden rfl fun K hK => ?_
                go_wp2
                refine OnlyN.mk (hK.out _ _ ⟨_, _, _, _, _, true, _, _, _, _, _, _, _, _, _, _, _, _, _, _, _, _, _, _, .int .i64 t.states, _, _, _, _, _, _, _, _, _, _, _, rfl, rfl, ⟨H.below, H.h0, H.h1, H.h2, H.h3, H.h4, fun _ => rfl, H.h6, H.h7, H.h8, H.h9, H.h10, H.h11, H.h12, H.h13, H.h14, H.h15, H.h16, H.h17⟩⟩)
              · obtain rfl := H.h5 (by simp [hi])
                have hw48 := HW48.out
                refine wpOp_hidden rfl fun K hK => ?_
                go_wp2
                refine OnlyN.mk (hK.out _ _ ⟨_, _, _, _, _, _, true, _, _, _, _, _, _, _, _, _, _, _, _, _, _, _, _, _, _, .int .i64 (48 + t.states), _, _, _, _, _, _, _, _, _, _, rfl, rfl, ⟨H.below, H.h0, H.h1, H.h2, H.h3, H.h4, H.h5, fun _ => rfl, H.h7, H.h8, H.h9, H.h10, H.h11, H.h12, H.h13, H.h14, H.h15, H.h16, H.h17⟩⟩)
              · obtain rfl := H.h6 (by simp [hi])
                have hw8 := HW8.out
                refine wpOp_hidden rfl fun K hK => ?_
                go_wp2
                refine OnlyN.mk (hK.out _ _ ⟨_, _, _, _, _, _, _, true, _, _, _, _, _, _, _, _, _, _, _, _, _, _, _, _, _, _, .int .u8 ((digC t.states).toNat : Int), _, _, _, _, _, _, _, _, _, rfl, rfl, ⟨H.below, H.h0, H.h1, H.h2, H.h3, H.h4, H.h5, H.h6, fun _ => rfl, H.h8, H.h9, H.h10, H.h11, H.h12, H.h13, H.h14, H.h15, H.h16, H.h17⟩⟩)
              · obtain rfl := H.h7 (by simp [hi])
                have HA := Lib.hid (H.world (below_new w' (.cells #[.int .u8 ((digC t.states).toNat : Int)] 5)))
                have HI := Lib.hid ((Blk.new w' 5 #[.int .u8 ((digC t.states).toNat : Int)]).cell_ 0 _ rfl)
                have HH := Lib.hid H
                clear H
                refine wpOp_hidden rfl fun K hK => ?_
                go_wp2
                refine OnlyN.mk (hK.out _ _ ⟨_, _, _, _, _, _, _, _, true, _, _, _, _, _, _, _, _, _, _, _, _, _, _, _, _, _, _, .slice (some ⟨w'.heap.size, 0, none⟩) 1 1, _, _, _, _, _, _, _, _, rfl, rfl, ⟨HA.out.below, HA.out.h0, HA.out.h1, HA.out.h2, HA.out.h3, HA.out.h4, HA.out.h5, HA.out.h6, HA.out.h7, fun _ => ⟨w'.heap.size, rfl, HI.out⟩, HA.out.h9, HA.out.h10, HA.out.h11, HA.out.h12, HA.out.h13, HA.out.h14, HA.out.h15, HA.out.h16, HA.out.h17⟩⟩)
              · obtain ⟨g, rfl, hg⟩ := H.h8 (by simp [hi])
                have hcv := run_convert_bytes_back (P := Tryd.prog) w' 39 9 5 ⟨g, 0, none⟩ 1 [digC t.states] Tryd.underlying39 Tryd.underlying5 Tryd.underlying9 (by
                  intro j hj
                  have hj0 : j = 0 := by simpa using hj
                  subst hj0
                  exact hg)
                have hcv2 : (convert 39 9 (.slice (some ⟨g, 0, none⟩) 1 1)).run Tryd.prog w' = .ok (.string ⟨[digC t.states].toArray⟩) w' := hcv
                clear hcv hg
                refine wpOp_hidden rfl fun K hK => ?_
                go_wp2
                refine OnlyN.mk (hK.out _ _ ⟨_, _, _, _, _, _, _, _, _, true, _, _, _, _, _, _, _, _, _, _, _, _, _, _, _, _, _, _, .string ⟨[digC t.states].toArray⟩, _, _, _, _, _, _, _, rfl, rfl, ⟨H.below, H.h0, H.h1, H.h2, H.h3, H.h4, H.h5, H.h6, H.h7, H.h8, fun _ => rfl, H.h10, H.h11, H.h12, H.h13, H.h14, H.h15, H.h16, H.h17⟩⟩)
              · obtain rfl := H.h3 (by simp [hi])
                obtain rfl := H.h9 (by simp [hi])
                have ha : ∀ w, (Op.stringOp .add ⟨s1.toArray⟩ ⟨[digC t.states].toArray⟩).run Tryd.prog w = .ok (.string ⟨s2.toArray⟩) w := HA2.out
                refine wpOp_hidden rfl fun K hK => ?_
                go_wp2
                refine OnlyN.mk (hK.out _ _ ⟨_, _, _, _, _, _, _, _, _, _, true, _, _, _, _, _, _, _, _, _, _, _, _, _, _, _, _, _, _, .string ⟨s2.toArray⟩, _, _, _, _, _, _, rfl, rfl, ⟨H.below, H.h0, H.h1, H.h2, H.h3, H.h4, H.h5, H.h6, H.h7, H.h8, H.h9, fun _ => rfl, H.h11, H.h12, H.h13, H.h14, H.h15, H.h16, H.h17⟩⟩)
              · refine wpOp_hidden rfl fun K hK => ?_
                go_wp2
                refine OnlyN.mk (hK.out _ _ ⟨_, _, _, _, _, _, _, _, _, _, _, true, _, _, _, _, _, _, _, _, _, _, _, _, _, _, _, _, _, _, .string ⟨le.toArray⟩, _, _, _, _, _, rfl, rfl, ⟨H.below, H.h0, H.h1, H.h2, H.h3, H.h4, H.h5, H.h6, H.h7, H.h8, H.h9, H.h10, fun _ => rfl, H.h12, H.h13, H.h14, H.h15, H.h16, H.h17⟩⟩)
              · obtain rfl := H.h10 (by simp [hi])
                obtain rfl := H.h11 (by simp [hi])
                have ha : ∀ w, (Op.stringOp .add ⟨s2.toArray⟩ ⟨le.toArray⟩).run Tryd.prog w = .ok (.string ⟨y.toArray⟩) w := HA3.out
                refine wpOp_hidden rfl fun K hK => ?_
                go_wp2
                refine OnlyN.mk (hK.out _ _ ⟨_, _, _, _, _, _, _, _, _, _, _, _, true, _, _, _, _, _, _, _, _, _, _, _, _, _, _, _, _, _, _, .string ⟨y.toArray⟩, _, _, _, _, rfl, rfl, ⟨H.below, H.h0, H.h1, H.h2, H.h3, H.h4, H.h5, H.h6, H.h7, H.h8, H.h9, H.h10, H.h11, fun _ => rfl, H.h13, H.h14, H.h15, H.h16, H.h17⟩⟩)
              · obtain rfl := H.h1 (by simp [hi])
                obtain rfl := H.h12 (by simp [hi])
                refine wpOp_hidden rfl fun K hK => ?_
                go_wp2
                refine OnlyN.mk (hK.out _ _ ⟨_, _, _, _, _, _, _, _, _, _, _, _, _, true, _, _, _, _, _, _, _, _, _, _, _, _, _, _, _, _, _, _, .bool true, _, _, _, rfl, rfl, ⟨H.below, H.h0, H.h1, H.h2, H.h3, H.h4, H.h5, H.h6, H.h7, H.h8, H.h9, H.h10, H.h11, H.h12, fun _ => rfl, H.h14, H.h15, H.h16, H.h17⟩⟩)
              · obtain rfl := H.h13 (by simp [hi])
                refine wpOp_hidden rfl fun K hK => ?_
                go_wp2
                refine OnlyN.mk (hK.out _ _ ⟨_, _, _, _, _, _, _, _, _, _, _, _, _, _, true, _, _, _, _, _, _, _, _, _, _, _, _, _, _, _, _, _, _, .bool true, _, _, rfl, rfl, ⟨H.below, H.h0, H.h1, H.h2, H.h3, H.h4, H.h5, H.h6, H.h7, H.h8, H.h9, H.h10, H.h11, H.h12, H.h13, fun _ => rfl, H.h15, H.h16, H.h17⟩⟩)
              · obtain rfl := H.h14 (by simp [hi])
                refine wpOp_hidden rfl fun K hK => ?_
                go_wp2_with fail
                refine (awake_any w' (HGF.out.ext H.below)).mono ?_
                rintro e w9 ⟨rfl, hb2⟩
                go_wp2
                refine OnlyN.mk (hK.out _ _ ⟨_, _, _, _, _, _, _, _, _, _, _, _, _, _, _, true, _, _, _, _, _, _, _, _, _, _, _, _, _, _, _, _, _, _, .bool true, _, rfl, rfl, ⟨(H.world hb2).below, (H.world hb2).h0, (H.world hb2).h1, (H.world hb2).h2, (H.world hb2).h3, (H.world hb2).h4, (H.world hb2).h5, (H.world hb2).h6, (H.world hb2).h7, (H.world hb2).h8, (H.world hb2).h9, (H.world hb2).h10, (H.world hb2).h11, (H.world hb2).h12, (H.world hb2).h13, (H.world hb2).h14, fun _ => rfl, (H.world hb2).h16, (H.world hb2).h17⟩⟩)
              · obtain rfl := H.h14 (by simp [hi])
                obtain rfl := H.h15 (by simp [hi])
                refine wpOp_hidden rfl fun K hK => ?_
                go_wp2
                refine OnlyN.mk (hK.out _ _ ⟨_, _, _, _, _, _, _, _, _, _, _, _, _, _, _, _, true, _, _, _, _, _, _, _, _, _, _, _, _, _, _, _, _, _, _, .bool true, rfl, rfl, ⟨H.below, H.h0, H.h1, H.h2, H.h3, H.h4, H.h5, H.h6, H.h7, H.h8, H.h9, H.h10, H.h11, H.h12, H.h13, H.h14, H.h15, fun _ => rfl, H.h17⟩⟩)
              · obtain rfl := H.h16 (by simp [hi])
                refine wpOp_hidden rfl fun K hK => ?_
                go_wp2
                refine OnlyN.mk (hK.out _ _ ⟨_, _, _, _, _, _, _, _, _, _, _, _, _, _, _, _, _, true, .bool true, _, _, _, _, _, _, _, _, _, _, _, _, _, _, _, _, _, rfl, rfl, ⟨H.below, H.h0, H.h1, H.h2, H.h3, H.h4, H.h5, H.h6, H.h7, H.h8, H.h9, H.h10, H.h11, H.h12, H.h13, H.h14, H.h15, H.h16, fun _ => rfl⟩⟩)
            · rintro listed act w' hr ⟨b0, b1, b2, b3, b4, b5, b6, b7, b8, b9, b10, b11, b12, b13, b14, b15, b16, b17, v4, v69, v70, v71, v72, v73, v74, v75, v76, v77, v78, v79, v80, v81, v82, v83, v84, v85, rfl, rfl, H⟩
              have hn := List.eq_nil_iff_forall_not_mem.1 hr
              have r0 := hn 0
              simp [mem_ready, Region.binds] at r0
              subst r0
              have r1 := hn 1
              simp [mem_ready, Region.binds] at r1
              subst r1
              have r2 := hn 2
              simp [mem_ready, Region.binds] at r2
              subst r2
              have r3 := hn 3
              simp [mem_ready, Region.binds] at r3
              subst r3
              have r4 := hn 4
              simp [mem_ready, Region.binds] at r4
              subst r4
              have r5 := hn 5
              simp [mem_ready, Region.binds] at r5
              subst r5
              have r6 := hn 6
              simp [mem_ready, Region.binds] at r6
              subst r6
              have r7 := hn 7
              simp [mem_ready, Region.binds] at r7
              subst r7
              have r8 := hn 8
              simp [mem_ready, Region.binds] at r8
              subst r8
              have r9 := hn 9
              simp [mem_ready, Region.binds] at r9
              subst r9
              have r10 := hn 10
              simp [mem_ready, Region.binds] at r10
              subst r10
              have r11 := hn 11
              simp [mem_ready, Region.binds] at r11
              subst r11
              have r12 := hn 12
              simp [mem_ready, Region.binds] at r12
              subst r12
              have r13 := hn 13
              simp [mem_ready, Region.binds] at r13
              subst r13
              have r14 := hn 14
              simp [mem_ready, Region.binds] at r14
              subst r14
              have r15 := hn 15
              simp [mem_ready, Region.binds] at r15
              subst r15
              have r16 := hn 16
              simp [mem_ready, Region.binds] at r16
              subst r16
              have r17 := hn 17
              simp [mem_ready, Region.binds] at r17
              subst r17
              obtain rfl := H.h17 rfl
              dsimp only
              go_wp2_with fail
              go_meet
              exact ⟨rfl, Lib.hid H.below⟩
          case rest =>
            obtain ⟨rfl, hbc⟩ := hcut
            go_wp2_with fail
            go_ret
            exact ⟨rfl, HBF.out.trans (hbc.out.mono HBF.out.size)⟩
      · obtain ⟨f, hf⟩ : ∃ f, f = l ++ [86] := ⟨_, rfl⟩
        obtain ⟨m, hm⟩ : ∃ m, m = l.length := ⟨_, rfl⟩
        have hlen : f.length = m + 1 := by rw [hf, hm]; simp
        have hm30 : m ≤ 30 := by rw [hm]; exact HBN.out
        have hw : wrap64 (↑f.length - 1) = (m : Int) := by rw [hlen]; unfold wrap64; omega
        have hle : (m : Int) ≤ (f.length : Int) := by rw [hlen]; omega
        have hpos : 0 < f.length := by omega
        have hlt2 : m < f.length := by omega
        have hbt : ((⟨f.toArray⟩ : ByteArray)[m]'hlt2).toNat = 86 := by
          subst hf
          simp [ByteArray.getElem_eq_getElem_data, hm]
        have hx : (⟨f.toArray⟩ : ByteArray).extract m f.length = ⟨#[86]⟩ := by
          apply bytes_eq
          rw [Lib.extract_data, hf, hm]
          simp
        have hy : (⟨f.toArray⟩ : ByteArray).extract 0 m = ⟨l.toArray⟩ := by
          apply bytes_eq
          rw [Lib.extract_data, hf, hm]
          simp
        have hf2 : l ++ (⟨#[86]⟩ : ByteArray).data.toList = f := hf.symm
        rw [hf2]
        have HLE : Hid (le = [86]) := Lib.hid (by rw [hle0, hl])
        clear hf hf2 hm hlen hm30 hl hle0
        go_upto_if 60 with fail
        go_cut [7, 8] from 9 (fun v7 v8 wx => v7 = .string ⟨l.toArray⟩ ∧ v8 = .string ⟨le.toArray⟩ ∧ Hid (Below w4.heap.size w4 wx))
        case first =>
          go_wp2_with fail
          go_quiet (fail)
          go_wp2_with fail
          go_meet
          exact ⟨rfl, by rw [HLE.out], Lib.hid (below_drewN (Below.refl _ _) nq)⟩
        case rest =>
          obtain ⟨rfl, rfl, hcut⟩ := hcut
          have XF := Lib.hid (X1.out.ext hcut.out)
          have HGF := Lib.hid (HG.out.ext hcut.out)
          have HBF := Lib.hid (HB.out.trans (hcut.out.mono HB.out.size))
          clear X1 HG HB hcut
          have HT := Lib.hid (fun W h => gtext_any A B C a b c t W h)
          obtain ⟨y, hy⟩ : ∃ y, y = textG t := ⟨_, rfl⟩
          unfold totV at HT
          rw [← hy] at HT HTG2
          clear hy
          obtain ⟨s1, q1⟩ : ∃ s1, s1 = l ++ [47, 67] := ⟨_, rfl⟩
          obtain ⟨s2, q2⟩ : ∃ s2, s2 = s1 ++ [digC t.states] := ⟨_, rfl⟩
          have sum : ∀ (x y z : List UInt8), z = x ++ y → x.length ≤ 100 → y.length ≤ 100 → ∀ w, (Op.stringOp .add ⟨x.toArray⟩ ⟨y.toArray⟩).run Tryd.prog w = .ok (.string ⟨z.toArray⟩) w := by
            intro x y z hz h1 h2 w
            rw [run_string_add_sum (P := Tryd.prog) w _ _ (by simp [ByteArray.size]; omega), text_end, hz]
          have n0 := HBN.out
          have n1 : s1.length ≤ 40 := by rw [q1]; simp; omega
          have n2 : s2.length ≤ 50 := by rw [q2]; simp; omega
          have HA1 := Lib.hid (sum l [47, 67] s1 q1 (by omega) (by simp))
          have HA2 := Lib.hid (sum s1 [digC t.states] s2 q2 (by omega) (by simp))
          have HA3 := Lib.hid (sum s2 le y (by rw [HTG2.out, q2, q1]) (by omega) (by have := HLL.out; omega))
          have HW48 : Hid (wrap64 (48 + t.states) = 48 + t.states) := Lib.hid (by have := RT.out; unfold wrap64; omega)
          have HW8 : Hid (IntKind.u8.wrap (48 + t.states) = ((digC t.states).toNat : Int)) := Lib.hid (by
            have := RT.out
            rw [digC_val (by omega) (by omega)]
            simp [IntKind.wrap, IntKind.bits, IntKind.signed]
            omega)
          clear sum q1 q2 n0 n1 n2
          go_upto_region 13 with fail
          go_cut [4] from 69 (fun v4 wx => v4 = .bool true ∧ Hid (Below wc.heap.size wc wx))
          case first =>
            refine wp_region_J (by kernel_rfl) (fun listed act w' => ∃ b0 b1 b2 b3 b4 b5 b6 b7 b8 b9 b10 b11 b12 b13 b14 b15 b16 b17 v4 v69 v70 v71 v72 v73 v74 v75 v76 v77 v78 v79 v80 v81 v82 v83 v84 v85, listed = #[b0, b1, b2, b3, b4, b5, b6, b7, b8, b9, b10, b11, b12, b13, b14, b15, b16, b17] ∧ act = Act.mk #[Value.agg #[Value.slice A t.hood.length a, Value.int IntKind.i64 t.states, Value.slice B t.birth.length b, Value.slice C t.survive.length c], Value.int IntKind.i64 n, Value.pointer (some { block := w.heap.size, off := 0 }), undef, v4, Value.pointer (some { block := w3.heap.size, off := 0 }), Value.int IntKind.i64 2, Value.string ⟨l.toArray⟩, Value.string ⟨le.toArray⟩, u9, u10, u11, u12, u13, u14, u15, u16, u17, u18, u19, u20, u21, u22, u23, u24, u25, u26, u27, u28, u29, u30, u31, u32, u33, u34, u35, u36, u37, u38, u39, u40, u41, u42, u43, u44, u45, u46, u47, u48, u49, u50, u51, u52, u53, u54, u55, u56, u57, u58, u59, u60, u61, u62, u63, u64, u65, u66, u67, u68, v69, v70, v71, v72, v73, v74, v75, v76, v77, v78, v79, v80, v81, v82, v83, v84, v85] [] ∧ PJ wc w.heap.size A a B b C c t l le s1 s2 y b0 b1 b2 b3 b4 b5 b6 b7 b8 b9 b10 b11 b12 b13 b14 b15 b16 b17 v4 v69 v70 v71 v72 v73 v74 v75 v76 v77 v78 v79 v80 v81 v82 v83 v84 v85 w') ?_ ?_ ?_
            · exact ⟨_, _, _, _, _, _, _, _, _, _, _, _, _, _, _, _, _, _, _, _, _, _, _, _, _, _, _, _, _, _, _, _, _, _, _, _, rfl, rfl, ⟨(Below.refl _ wc).drew, (by simp), (by simp), (by simp), (by simp), (by simp), (by simp), (by simp), (by simp), (by simp), (by simp), (by simp), (by simp), (by simp), (by simp), (by simp), (by simp), (by simp), (by simp)⟩⟩
            · rintro i listed act w' hi ⟨b0, b1, b2, b3, b4, b5, b6, b7, b8, b9, b10, b11, b12, b13, b14, b15, b16, b17, v4, v69, v70, v71, v72, v73, v74, v75, v76, v77, v78, v79, v80, v81, v82, v83, v84, v85, rfl, rfl, H⟩
              have hi16 : i < 18 := by
                obtain ⟨-, o, ho, -⟩ := mem_ready.1 hi
                exact (Array.getElem?_eq_some_iff.1 ho).1
              obtain rfl | rfl | rfl | rfl | rfl | rfl | rfl | rfl | rfl | rfl | rfl | rfl | rfl | rfl | rfl | rfl | rfl | rfl : i = 0 ∨ i = 1 ∨ i = 2 ∨ i = 3 ∨ i = 4 ∨ i = 5 ∨ i = 6 ∨ i = 7 ∨ i = 8 ∨ i = 9 ∨ i = 10 ∨ i = 11 ∨ i = 12 ∨ i = 13 ∨ i = 14 ∨ i = 15 ∨ i = 16 ∨ i = 17 := by omega
              all_goals simp [mem_ready, Region.binds] at hi
              · have cc0 := (XF.out.ext H.below).c0
                have cc1 := (XF.out.ext H.below).c1
                have cc2 := (XF.out.ext H.below).c2
                have cc3 := (XF.out.ext H.below).c3
                refine wpOp_hidden rfl fun K hK => ?_
                go_wp2
                refine OnlyN.mk (hK.out _ _ ⟨true, _, _, _, _, _, _, _, _, _, _, _, _, _, _, _, _, _, _, .agg #[.slice A t.hood.length a, .int .i64 t.states, .slice B t.birth.length b, .slice C t.survive.length c], _, _, _, _, _, _, _, _, _, _, _, _, _, _, _, _, rfl, rfl, ⟨H.below, fun _ => rfl, H.h1, H.h2, H.h3, H.h4, H.h5, H.h6, H.h7, H.h8, H.h9, H.h10, H.h11, H.h12, H.h13, H.h14, H.h15, H.h16, H.h17⟩⟩)
              · obtain rfl := H.h0 (by simp [hi])
                refine wpOp_hidden rfl fun K hK => ?_
                go_wp2_with fail
                refine (HT.out w' (XF.out.ext H.below).tot).mono ?_
                rintro e w9 ⟨rfl, hb2⟩
                go_wp2
                refine OnlyN.mk (hK.out _ _ ⟨_, true, _, _, _, _, _, _, _, _, _, _, _, _, _, _, _, _, _, _, .string ⟨y.toArray⟩, _, _, _, _, _, _, _, _, _, _, _, _, _, _, _, rfl, rfl, ⟨(H.world hb2).below, (H.world hb2).h0, fun _ => rfl, (H.world hb2).h2, (H.world hb2).h3, (H.world hb2).h4, (H.world hb2).h5, (H.world hb2).h6, (H.world hb2).h7, (H.world hb2).h8, (H.world hb2).h9, (H.world hb2).h10, (H.world hb2).h11, (H.world hb2).h12, (H.world hb2).h13, (H.world hb2).h14, (H.world hb2).h15, (H.world hb2).h16, (H.world hb2).h17⟩⟩)
              · refine wpOp_hidden rfl fun K hK => ?_
                go_wp2
                refine OnlyN.mk (hK.out _ _ ⟨_, _, true, _, _, _, _, _, _, _, _, _, _, _, _, _, _, _, _, _, _, .string ⟨l.toArray⟩, _, _, _, _, _, _, _, _, _, _, _, _, _, _, rfl, rfl, ⟨H.below, H.h0, H.h1, fun _ => rfl, H.h3, H.h4, H.h5, H.h6, H.h7, H.h8, H.h9, H.h10, H.h11, H.h12, H.h13, H.h14, H.h15, H.h16, H.h17⟩⟩)
              · obtain rfl := H.h2 (by simp [hi])
                have ha : ∀ w, (Op.stringOp .add ⟨l.toArray⟩ ⟨#[47, 67]⟩).run Tryd.prog w = .ok (.string ⟨s1.toArray⟩) w := HA1.out
                refine wpOp_hidden rfl fun K hK => ?_
                go_wp2
                refine OnlyN.mk (hK.out _ _ ⟨_, _, _, true, _, _, _, _, _, _, _, _, _, _, _, _, _, _, _, _, _, _, .string ⟨s1.toArray⟩, _, _, _, _, _, _, _, _, _, _, _, _, _, rfl, rfl, ⟨H.below, H.h0, H.h1, H.h2, fun _ => rfl, H.h4, H.h5, H.h6, H.h7, H.h8, H.h9, H.h10, H.h11, H.h12, H.h13, H.h14, H.h15, H.h16, H.h17⟩⟩)
              · refine wpOp_hidden rfl fun K hK => ?_
                go_wp2
                refine OnlyN.mk (hK.out _ _ ⟨_, _, _, _, true, _, _, _, _, _, _, _, _, _, _, _, _, _, _, _, _, _, _, .pointer (some ⟨w.heap.size, 1, none⟩), _, _, _, _, _, _, _, _, _, _, _, _, rfl, rfl, ⟨H.below, H.h0, H.h1, H.h2, H.h3, fun _ => rfl, H.h5, H.h6, H.h7, H.h8, H.h9, H.h10, H.h11, H.h12, H.h13, H.h14, H.h15, H.h16, H.h17⟩⟩)
              · obtain rfl := H.h4 (by simp [hi])
                have cc1 := (XF.out.ext H.below).c1
                refine wpOp_hidden rfl fun K hK => ?_
                go_wp2
                refine OnlyN.mk (hK.out _ _ ⟨_, _, _, _, _, true, _, _, _, _, _, _, _, _, _, _, _, _, _, _, _, _, _, _, .int .i64 t.states, _, _, _, _, _, _, _, _, _, _, _, rfl, rfl, ⟨H.below, H.h0, H.h1, H.h2, H.h3, H.h4, fun _ => rfl, H.h6, H.h7, H.h8, H.h9, H.h10, H.h11, H.h12, H.h13, H.h14, H.h15, H.h16, H.h17⟩⟩)
              · obtain rfl := H.h5 (by simp [hi])
                have hw48 := HW48.out
                refine wpOp_hidden rfl fun K hK => ?_
                go_wp2
                refine OnlyN.mk (hK.out _ _ ⟨_, _, _, _, _, _, true, _, _, _, _, _, _, _, _, _, _, _, _, _, _, _, _, _, _, .int .i64 (48 + t.states), _, _, _, _, _, _, _, _, _, _, rfl, rfl, ⟨H.below, H.h0, H.h1, H.h2, H.h3, H.h4, H.h5, fun _ => rfl, H.h7, H.h8, H.h9, H.h10, H.h11, H.h12, H.h13, H.h14, H.h15, H.h16, H.h17⟩⟩)
              · obtain rfl := H.h6 (by simp [hi])
                have hw8 := HW8.out
                refine wpOp_hidden rfl fun K hK => ?_
                go_wp2
                refine OnlyN.mk (hK.out _ _ ⟨_, _, _, _, _, _, _, true, _, _, _, _, _, _, _, _, _, _, _, _, _, _, _, _, _, _, .int .u8 ((digC t.states).toNat : Int), _, _, _, _, _, _, _, _, _, rfl, rfl, ⟨H.below, H.h0, H.h1, H.h2, H.h3, H.h4, H.h5, H.h6, fun _ => rfl, H.h8, H.h9, H.h10, H.h11, H.h12, H.h13, H.h14, H.h15, H.h16, H.h17⟩⟩)
              · obtain rfl := H.h7 (by simp [hi])
                have HA := Lib.hid (H.world (below_new w' (.cells #[.int .u8 ((digC t.states).toNat : Int)] 5)))
                have HI := Lib.hid ((Blk.new w' 5 #[.int .u8 ((digC t.states).toNat : Int)]).cell_ 0 _ rfl)
                have HH := Lib.hid H
                clear H
                refine wpOp_hidden rfl fun K hK => ?_
                go_wp2
                refine OnlyN.mk (hK.out _ _ ⟨_, _, _, _, _, _, _, _, true, _, _, _, _, _, _, _, _, _, _, _, _, _, _, _, _, _, _, .slice (some ⟨w'.heap.size, 0, none⟩) 1 1, _, _, _, _, _, _, _, _, rfl, rfl, ⟨HA.out.below, HA.out.h0, HA.out.h1, HA.out.h2, HA.out.h3, HA.out.h4, HA.out.h5, HA.out.h6, HA.out.h7, fun _ => ⟨w'.heap.size, rfl, HI.out⟩, HA.out.h9, HA.out.h10, HA.out.h11, HA.out.h12, HA.out.h13, HA.out.h14, HA.out.h15, HA.out.h16, HA.out.h17⟩⟩)
              · obtain ⟨g, rfl, hg⟩ := H.h8 (by simp [hi])
                have hcv := run_convert_bytes_back (P := Tryd.prog) w' 39 9 5 ⟨g, 0, none⟩ 1 [digC t.states] Tryd.underlying39 Tryd.underlying5 Tryd.underlying9 (by
                  intro j hj
                  have hj0 : j = 0 := by simpa using hj
                  subst hj0
                  exact hg)
                have hcv2 : (convert 39 9 (.slice (some ⟨g, 0, none⟩) 1 1)).run Tryd.prog w' = .ok (.string ⟨[digC t.states].toArray⟩) w' := hcv
                clear hcv hg
                refine wpOp_hidden rfl fun K hK => ?_
                go_wp2
                refine OnlyN.mk (hK.out _ _ ⟨_, _, _, _, _, _, _, _, _, true, _, _, _, _, _, _, _, _, _, _, _, _, _, _, _, _, _, _, .string ⟨[digC t.states].toArray⟩, _, _, _, _, _, _, _, rfl, rfl, ⟨H.below, H.h0, H.h1, H.h2, H.h3, H.h4, H.h5, H.h6, H.h7, H.h8, fun _ => rfl, H.h10, H.h11, H.h12, H.h13, H.h14, H.h15, H.h16, H.h17⟩⟩)
              · obtain rfl := H.h3 (by simp [hi])
                obtain rfl := H.h9 (by simp [hi])
                have ha : ∀ w, (Op.stringOp .add ⟨s1.toArray⟩ ⟨[digC t.states].toArray⟩).run Tryd.prog w = .ok (.string ⟨s2.toArray⟩) w := HA2.out
                refine wpOp_hidden rfl fun K hK => ?_
                go_wp2
                refine OnlyN.mk (hK.out _ _ ⟨_, _, _, _, _, _, _, _, _, _, true, _, _, _, _, _, _, _, _, _, _, _, _, _, _, _, _, _, _, .string ⟨s2.toArray⟩, _, _, _, _, _, _, rfl, rfl, ⟨H.below, H.h0, H.h1, H.h2, H.h3, H.h4, H.h5, H.h6, H.h7, H.h8, H.h9, fun _ => rfl, H.h11, H.h12, H.h13, H.h14, H.h15, H.h16, H.h17⟩⟩)
              · refine wpOp_hidden rfl fun K hK => ?_
                go_wp2
                refine OnlyN.mk (hK.out _ _ ⟨_, _, _, _, _, _, _, _, _, _, _, true, _, _, _, _, _, _, _, _, _, _, _, _, _, _, _, _, _, _, .string ⟨le.toArray⟩, _, _, _, _, _, rfl, rfl, ⟨H.below, H.h0, H.h1, H.h2, H.h3, H.h4, H.h5, H.h6, H.h7, H.h8, H.h9, H.h10, fun _ => rfl, H.h12, H.h13, H.h14, H.h15, H.h16, H.h17⟩⟩)
              · obtain rfl := H.h10 (by simp [hi])
                obtain rfl := H.h11 (by simp [hi])
                have ha : ∀ w, (Op.stringOp .add ⟨s2.toArray⟩ ⟨le.toArray⟩).run Tryd.prog w = .ok (.string ⟨y.toArray⟩) w := HA3.out
                refine wpOp_hidden rfl fun K hK => ?_
                go_wp2
                refine OnlyN.mk (hK.out _ _ ⟨_, _, _, _, _, _, _, _, _, _, _, _, true, _, _, _, _, _, _, _, _, _, _, _, _, _, _, _, _, _, _, .string ⟨y.toArray⟩, _, _, _, _, rfl, rfl, ⟨H.below, H.h0, H.h1, H.h2, H.h3, H.h4, H.h5, H.h6, H.h7, H.h8, H.h9, H.h10, H.h11, fun _ => rfl, H.h13, H.h14, H.h15, H.h16, H.h17⟩⟩)
              · obtain rfl := H.h1 (by simp [hi])
                obtain rfl := H.h12 (by simp [hi])
                refine wpOp_hidden rfl fun K hK => ?_
                go_wp2
                refine OnlyN.mk (hK.out _ _ ⟨_, _, _, _, _, _, _, _, _, _, _, _, _, true, _, _, _, _, _, _, _, _, _, _, _, _, _, _, _, _, _, _, .bool true, _, _, _, rfl, rfl, ⟨H.below, H.h0, H.h1, H.h2, H.h3, H.h4, H.h5, H.h6, H.h7, H.h8, H.h9, H.h10, H.h11, H.h12, fun _ => rfl, H.h14, H.h15, H.h16, H.h17⟩⟩)
              · obtain rfl := H.h13 (by simp [hi])
                refine wpOp_hidden rfl fun K hK => ?_
                go_wp2
                refine OnlyN.mk (hK.out _ _ ⟨_, _, _, _, _, _, _, _, _, _, _, _, _, _, true, _, _, _, _, _, _, _, _, _, _, _, _, _, _, _, _, _, _, .bool true, _, _, rfl, rfl, ⟨H.below, H.h0, H.h1, H.h2, H.h3, H.h4, H.h5, H.h6, H.h7, H.h8, H.h9, H.h10, H.h11, H.h12, H.h13, fun _ => rfl, H.h15, H.h16, H.h17⟩⟩)
              · obtain rfl := H.h14 (by simp [hi])
                refine wpOp_hidden rfl fun K hK => ?_
                go_wp2_with fail
                refine (awake_any w' (HGF.out.ext H.below)).mono ?_
                rintro e w9 ⟨rfl, hb2⟩
                go_wp2
                refine OnlyN.mk (hK.out _ _ ⟨_, _, _, _, _, _, _, _, _, _, _, _, _, _, _, true, _, _, _, _, _, _, _, _, _, _, _, _, _, _, _, _, _, _, .bool true, _, rfl, rfl, ⟨(H.world hb2).below, (H.world hb2).h0, (H.world hb2).h1, (H.world hb2).h2, (H.world hb2).h3, (H.world hb2).h4, (H.world hb2).h5, (H.world hb2).h6, (H.world hb2).h7, (H.world hb2).h8, (H.world hb2).h9, (H.world hb2).h10, (H.world hb2).h11, (H.world hb2).h12, (H.world hb2).h13, (H.world hb2).h14, fun _ => rfl, (H.world hb2).h16, (H.world hb2).h17⟩⟩)
              · obtain rfl := H.h14 (by simp [hi])
                obtain rfl := H.h15 (by simp [hi])
                refine wpOp_hidden rfl fun K hK => ?_
                go_wp2
                refine OnlyN.mk (hK.out _ _ ⟨_, _, _, _, _, _, _, _, _, _, _, _, _, _, _, _, true, _, _, _, _, _, _, _, _, _, _, _, _, _, _, _, _, _, _, .bool true, rfl, rfl, ⟨H.below, H.h0, H.h1, H.h2, H.h3, H.h4, H.h5, H.h6, H.h7, H.h8, H.h9, H.h10, H.h11, H.h12, H.h13, H.h14, H.h15, fun _ => rfl, H.h17⟩⟩)
              · obtain rfl := H.h16 (by simp [hi])
                refine wpOp_hidden rfl fun K hK => ?_
                go_wp2
                refine OnlyN.mk (hK.out _ _ ⟨_, _, _, _, _, _, _, _, _, _, _, _, _, _, _, _, _, true, .bool true, _, _, _, _, _, _, _, _, _, _, _, _, _, _, _, _, _, rfl, rfl, ⟨H.below, H.h0, H.h1, H.h2, H.h3, H.h4, H.h5, H.h6, H.h7, H.h8, H.h9, H.h10, H.h11, H.h12, H.h13, H.h14, H.h15, H.h16, fun _ => rfl⟩⟩)
            · rintro listed act w' hr ⟨b0, b1, b2, b3, b4, b5, b6, b7, b8, b9, b10, b11, b12, b13, b14, b15, b16, b17, v4, v69, v70, v71, v72, v73, v74, v75, v76, v77, v78, v79, v80, v81, v82, v83, v84, v85, rfl, rfl, H⟩
              have hn := List.eq_nil_iff_forall_not_mem.1 hr
              have r0 := hn 0
              simp [mem_ready, Region.binds] at r0
              subst r0
              have r1 := hn 1
              simp [mem_ready, Region.binds] at r1
              subst r1
              have r2 := hn 2
              simp [mem_ready, Region.binds] at r2
              subst r2
              have r3 := hn 3
              simp [mem_ready, Region.binds] at r3
              subst r3
              have r4 := hn 4
              simp [mem_ready, Region.binds] at r4
              subst r4
              have r5 := hn 5
              simp [mem_ready, Region.binds] at r5
              subst r5
              have r6 := hn 6
              simp [mem_ready, Region.binds] at r6
              subst r6
              have r7 := hn 7
              simp [mem_ready, Region.binds] at r7
              subst r7
              have r8 := hn 8
              simp [mem_ready, Region.binds] at r8
              subst r8
              have r9 := hn 9
              simp [mem_ready, Region.binds] at r9
              subst r9
              have r10 := hn 10
              simp [mem_ready, Region.binds] at r10
              subst r10
              have r11 := hn 11
              simp [mem_ready, Region.binds] at r11
              subst r11
              have r12 := hn 12
              simp [mem_ready, Region.binds] at r12
              subst r12
              have r13 := hn 13
              simp [mem_ready, Region.binds] at r13
              subst r13
              have r14 := hn 14
              simp [mem_ready, Region.binds] at r14
              subst r14
              have r15 := hn 15
              simp [mem_ready, Region.binds] at r15
              subst r15
              have r16 := hn 16
              simp [mem_ready, Region.binds] at r16
              subst r16
              have r17 := hn 17
              simp [mem_ready, Region.binds] at r17
              subst r17
              obtain rfl := H.h17 rfl
              dsimp only
              go_wp2_with fail
              go_meet
              exact ⟨rfl, Lib.hid H.below⟩
          case rest =>
            obtain ⟨rfl, hbc⟩ := hcut
            go_wp2_with fail
            go_ret
            exact ⟨rfl, HBF.out.trans (hbc.out.mono HBF.out.size)⟩
      · obtain ⟨f, hf⟩ : ∃ f, f = l ++ [72] := ⟨_, rfl⟩
        obtain ⟨m, hm⟩ : ∃ m, m = l.length := ⟨_, rfl⟩
        have hlen : f.length = m + 1 := by rw [hf, hm]; simp
        have hm30 : m ≤ 30 := by rw [hm]; exact HBN.out
        have hw : wrap64 (↑f.length - 1) = (m : Int) := by rw [hlen]; unfold wrap64; omega
        have hle : (m : Int) ≤ (f.length : Int) := by rw [hlen]; omega
        have hpos : 0 < f.length := by omega
        have hlt2 : m < f.length := by omega
        have hbt : ((⟨f.toArray⟩ : ByteArray)[m]'hlt2).toNat = 72 := by
          subst hf
          simp [ByteArray.getElem_eq_getElem_data, hm]
        have hx : (⟨f.toArray⟩ : ByteArray).extract m f.length = ⟨#[72]⟩ := by
          apply bytes_eq
          rw [Lib.extract_data, hf, hm]
          simp
        have hy : (⟨f.toArray⟩ : ByteArray).extract 0 m = ⟨l.toArray⟩ := by
          apply bytes_eq
          rw [Lib.extract_data, hf, hm]
          simp
        have hf2 : l ++ (⟨#[72]⟩ : ByteArray).data.toList = f := hf.symm
        rw [hf2]
        have HLE : Hid (le = [72]) := Lib.hid (by rw [hle0, hl])
        clear hf hf2 hm hlen hm30 hl hle0
        go_upto_if 60 with fail
        go_cut [7, 8] from 9 (fun v7 v8 wx => v7 = .string ⟨l.toArray⟩ ∧ v8 = .string ⟨le.toArray⟩ ∧ Hid (Below w4.heap.size w4 wx))
        case first =>
          go_wp2_with fail
          go_quiet (fail)
          go_wp2_with fail
          go_meet
          exact ⟨rfl, by rw [HLE.out], Lib.hid (below_drewN (Below.refl _ _) nq)⟩
        case rest =>
          obtain ⟨rfl, rfl, hcut⟩ := hcut
          have XF := Lib.hid (X1.out.ext hcut.out)
          have HGF := Lib.hid (HG.out.ext hcut.out)
          have HBF := Lib.hid (HB.out.trans (hcut.out.mono HB.out.size))
          clear X1 HG HB hcut
          have HT := Lib.hid (fun W h => gtext_any A B C a b c t W h)
          obtain ⟨y, hy⟩ : ∃ y, y = textG t := ⟨_, rfl⟩
          unfold totV at HT
          rw [← hy] at HT HTG2
          clear hy
          obtain ⟨s1, q1⟩ : ∃ s1, s1 = l ++ [47, 67] := ⟨_, rfl⟩
          obtain ⟨s2, q2⟩ : ∃ s2, s2 = s1 ++ [digC t.states] := ⟨_, rfl⟩
          have sum : ∀ (x y z : List UInt8), z = x ++ y → x.length ≤ 100 → y.length ≤ 100 → ∀ w, (Op.stringOp .add ⟨x.toArray⟩ ⟨y.toArray⟩).run Tryd.prog w = .ok (.string ⟨z.toArray⟩) w := by
            intro x y z hz h1 h2 w
            rw [run_string_add_sum (P := Tryd.prog) w _ _ (by simp [ByteArray.size]; omega), text_end, hz]
          have n0 := HBN.out
          have n1 : s1.length ≤ 40 := by rw [q1]; simp; omega
          have n2 : s2.length ≤ 50 := by rw [q2]; simp; omega
          have HA1 := Lib.hid (sum l [47, 67] s1 q1 (by omega) (by simp))
          have HA2 := Lib.hid (sum s1 [digC t.states] s2 q2 (by omega) (by simp))
          have HA3 := Lib.hid (sum s2 le y (by rw [HTG2.out, q2, q1]) (by omega) (by have := HLL.out; omega))
          have HW48 : Hid (wrap64 (48 + t.states) = 48 + t.states) := Lib.hid (by have := RT.out; unfold wrap64; omega)
          have HW8 : Hid (IntKind.u8.wrap (48 + t.states) = ((digC t.states).toNat : Int)) := Lib.hid (by
            have := RT.out
            rw [digC_val (by omega) (by omega)]
            simp [IntKind.wrap, IntKind.bits, IntKind.signed]
            omega)
          clear sum q1 q2 n0 n1 n2
          go_upto_region 13 with fail
          go_cut [4] from 69 (fun v4 wx => v4 = .bool true ∧ Hid (Below wc.heap.size wc wx))
          case first =>
            refine wp_region_J (by kernel_rfl) (fun listed act w' => ∃ b0 b1 b2 b3 b4 b5 b6 b7 b8 b9 b10 b11 b12 b13 b14 b15 b16 b17 v4 v69 v70 v71 v72 v73 v74 v75 v76 v77 v78 v79 v80 v81 v82 v83 v84 v85, listed = #[b0, b1, b2, b3, b4, b5, b6, b7, b8, b9, b10, b11, b12, b13, b14, b15, b16, b17] ∧ act = Act.mk #[Value.agg #[Value.slice A t.hood.length a, Value.int IntKind.i64 t.states, Value.slice B t.birth.length b, Value.slice C t.survive.length c], Value.int IntKind.i64 n, Value.pointer (some { block := w.heap.size, off := 0 }), undef, v4, Value.pointer (some { block := w3.heap.size, off := 0 }), Value.int IntKind.i64 2, Value.string ⟨l.toArray⟩, Value.string ⟨le.toArray⟩, u9, u10, u11, u12, u13, u14, u15, u16, u17, u18, u19, u20, u21, u22, u23, u24, u25, u26, u27, u28, u29, u30, u31, u32, u33, u34, u35, u36, u37, u38, u39, u40, u41, u42, u43, u44, u45, u46, u47, u48, u49, u50, u51, u52, u53, u54, u55, u56, u57, u58, u59, u60, u61, u62, u63, u64, u65, u66, u67, u68, v69, v70, v71, v72, v73, v74, v75, v76, v77, v78, v79, v80, v81, v82, v83, v84, v85] [] ∧ PJ wc w.heap.size A a B b C c t l le s1 s2 y b0 b1 b2 b3 b4 b5 b6 b7 b8 b9 b10 b11 b12 b13 b14 b15 b16 b17 v4 v69 v70 v71 v72 v73 v74 v75 v76 v77 v78 v79 v80 v81 v82 v83 v84 v85 w') ?_ ?_ ?_
            · exact ⟨_, _, _, _, _, _, _, _, _, _, _, _, _, _, _, _, _, _, _, _, _, _, _, _, _, _, _, _, _, _, _, _, _, _, _, _, rfl, rfl, ⟨(Below.refl _ wc).drew, (by simp), (by simp), (by simp), (by simp), (by simp), (by simp), (by simp), (by simp), (by simp), (by simp), (by simp), (by simp), (by simp), (by simp), (by simp), (by simp), (by simp), (by simp)⟩⟩
            · rintro i listed act w' hi ⟨b0, b1, b2, b3, b4, b5, b6, b7, b8, b9, b10, b11, b12, b13, b14, b15, b16, b17, v4, v69, v70, v71, v72, v73, v74, v75, v76, v77, v78, v79, v80, v81, v82, v83, v84, v85, rfl, rfl, H⟩
              have hi16 : i < 18 := by
                obtain ⟨-, o, ho, -⟩ := mem_ready.1 hi
                exact (Array.getElem?_eq_some_iff.1 ho).1
              obtain rfl | rfl | rfl | rfl | rfl | rfl | rfl | rfl | rfl | rfl | rfl | rfl | rfl | rfl | rfl | rfl | rfl | rfl : i = 0 ∨ i = 1 ∨ i = 2 ∨ i = 3 ∨ i = 4 ∨ i = 5 ∨ i = 6 ∨ i = 7 ∨ i = 8 ∨ i = 9 ∨ i = 10 ∨ i = 11 ∨ i = 12 ∨ i = 13 ∨ i = 14 ∨ i = 15 ∨ i = 16 ∨ i = 17 := by omega
              all_goals simp [mem_ready, Region.binds] at hi
              · have cc0 := (XF.out.ext H.below).c0
                have cc1 := (XF.out.ext H.below).c1
                have cc2 := (XF.out.ext H.below).c2
                have cc3 := (XF.out.ext H.below).c3
                refine wpOp_hidden rfl fun K hK => ?_
                go_wp2
                refine OnlyN.mk (hK.out _ _ ⟨true, _, _, _, _, _, _, _, _, _, _, _, _, _, _, _, _, _, _, .agg #[.slice A t.hood.length a, .int .i64 t.states, .slice B t.birth.length b, .slice C t.survive.length c], _, _, _, _, _, _, _, _, _, _, _, _, _, _, _, _, rfl, rfl, ⟨H.below, fun _ => rfl, H.h1, H.h2, H.h3, H.h4, H.h5, H.h6, H.h7, H.h8, H.h9, H.h10, H.h11, H.h12, H.h13, H.h14, H.h15, H.h16, H.h17⟩⟩)
              · obtain rfl := H.h0 (by simp [hi])
                refine wpOp_hidden rfl fun K hK => ?_
                go_wp2_with fail
                refine (HT.out w' (XF.out.ext H.below).tot).mono ?_
                rintro e w9 ⟨rfl, hb2⟩
                go_wp2
                refine OnlyN.mk (hK.out _ _ ⟨_, true, _, _, _, _, _, _, _, _, _, _, _, _, _, _, _, _, _, _, .string ⟨y.toArray⟩, _, _, _, _, _, _, _, _, _, _, _, _, _, _, _, rfl, rfl, ⟨(H.world hb2).below, (H.world hb2).h0, fun _ => rfl, (H.world hb2).h2, (H.world hb2).h3, (H.world hb2).h4, (H.world hb2).h5, (H.world hb2).h6, (H.world hb2).h7, (H.world hb2).h8, (H.world hb2).h9, (H.world hb2).h10, (H.world hb2).h11, (H.world hb2).h12, (H.world hb2).h13, (H.world hb2).h14, (H.world hb2).h15, (H.world hb2).h16, (H.world hb2).h17⟩⟩)
              · refine wpOp_hidden rfl fun K hK => ?_
                go_wp2
                refine OnlyN.mk (hK.out _ _ ⟨_, _, true, _, _, _, _, _, _, _, _, _, _, _, _, _, _, _, _, _, _, .string ⟨l.toArray⟩, _, _, _, _, _, _, _, _, _, _, _, _, _, _, rfl, rfl, ⟨H.below, H.h0, H.h1, fun _ => rfl, H.h3, H.h4, H.h5, H.h6, H.h7, H.h8, H.h9, H.h10, H.h11, H.h12, H.h13, H.h14, H.h15, H.h16, H.h17⟩⟩)
              · obtain rfl := H.h2 (by simp [hi])
                have ha : ∀ w, (Op.stringOp .add ⟨l.toArray⟩ ⟨#[47, 67]⟩).run Tryd.prog w = .ok (.string ⟨s1.toArray⟩) w := HA1.out
                refine wpOp_hidden rfl fun K hK => ?_
                go_wp2
                refine OnlyN.mk (hK.out _ _ ⟨_, _, _, true, _, _, _, _, _, _, _, _, _, _, _, _, _, _, _, _, _, _, .string ⟨s1.toArray⟩, _, _, _, _, _, _, _, _, _, _, _, _, _, rfl, rfl, ⟨H.below, H.h0, H.h1, H.h2, fun _ => rfl, H.h4, H.h5, H.h6, H.h7, H.h8, H.h9, H.h10, H.h11, H.h12, H.h13, H.h14, H.h15, H.h16, H.h17⟩⟩)
              · refine wpOp_hidden rfl fun K hK => ?_
                go_wp2
                refine OnlyN.mk (hK.out _ _ ⟨_, _, _, _, true, _, _, _, _, _, _, _, _, _, _, _, _, _, _, _, _, _, _, .pointer (some ⟨w.heap.size, 1, none⟩), _, _, _, _, _, _, _, _, _, _, _, _, rfl, rfl, ⟨H.below, H.h0, H.h1, H.h2, H.h3, fun _ => rfl, H.h5, H.h6, H.h7, H.h8, H.h9, H.h10, H.h11, H.h12, H.h13, H.h14, H.h15, H.h16, H.h17⟩⟩)
              · obtain rfl := H.h4 (by simp [hi])
                have cc1 := (XF.out.ext H.below).c1
                refine wpOp_hidden rfl fun K hK => ?_
                go_wp2
                refine OnlyN.mk (hK.out _ _ ⟨_, _, _, _, _, true, _, _, _, _, _, _, _, _, _, _, _, _, _, _, _, _, _, _, .int .i64 t.states, _, _, _, _, _, _, _, _, _, _, _, rfl, rfl, ⟨H.below, H.h0, H.h1, H.h2, H.h3, H.h4, fun _ => rfl, H.h6, H.h7, H.h8, H.h9, H.h10, H.h11, H.h12, H.h13, H.h14, H.h15, H.h16, H.h17⟩⟩)
              · obtain rfl := H.h5 (by simp [hi])
                have hw48 := HW48.out
                refine wpOp_hidden rfl fun K hK => ?_
                go_wp2
                refine OnlyN.mk (hK.out _ _ ⟨_, _, _, _, _, _, true, _, _, _, _, _, _, _, _, _, _, _, _, _, _, _, _, _, _, .int .i64 (48 + t.states), _, _, _, _, _, _, _, _, _, _, rfl, rfl, ⟨H.below, H.h0, H.h1, H.h2, H.h3, H.h4, H.h5, fun _ => rfl, H.h7, H.h8, H.h9, H.h10, H.h11, H.h12, H.h13, H.h14, H.h15, H.h16, H.h17⟩⟩)
              · obtain rfl := H.h6 (by simp [hi])
                have hw8 := HW8.out
                refine wpOp_hidden rfl fun K hK => ?_
                go_wp2
                refine OnlyN.mk (hK.out _ _ ⟨_, _, _, _, _, _, _, true, _, _, _, _, _, _, _, _, _, _, _, _, _, _, _, _, _, _, .int .u8 ((digC t.states).toNat : Int), _, _, _, _, _, _, _, _, _, rfl, rfl, ⟨H.below, H.h0, H.h1, H.h2, H.h3, H.h4, H.h5, H.h6, fun _ => rfl, H.h8, H.h9, H.h10, H.h11, H.h12, H.h13, H.h14, H.h15, H.h16, H.h17⟩⟩)
              · obtain rfl := H.h7 (by simp [hi])
                have HA := Lib.hid (H.world (below_new w' (.cells #[.int .u8 ((digC t.states).toNat : Int)] 5)))
                have HI := Lib.hid ((Blk.new w' 5 #[.int .u8 ((digC t.states).toNat : Int)]).cell_ 0 _ rfl)
                have HH := Lib.hid H
                clear H
                refine wpOp_hidden rfl fun K hK => ?_
                go_wp2
                refine OnlyN.mk (hK.out _ _ ⟨_, _, _, _, _, _, _, _, true, _, _, _, _, _, _, _, _, _, _, _, _, _, _, _, _, _, _, .slice (some ⟨w'.heap.size, 0, none⟩) 1 1, _, _, _, _, _, _, _, _, rfl, rfl, ⟨HA.out.below, HA.out.h0, HA.out.h1, HA.out.h2, HA.out.h3, HA.out.h4, HA.out.h5, HA.out.h6, HA.out.h7, fun _ => ⟨w'.heap.size, rfl, HI.out⟩, HA.out.h9, HA.out.h10, HA.out.h11, HA.out.h12, HA.out.h13, HA.out.h14, HA.out.h15, HA.out.h16, HA.out.h17⟩⟩)
              · obtain ⟨g, rfl, hg⟩ := H.h8 (by simp [hi])
                have hcv := run_convert_bytes_back (P := Tryd.prog) w' 39 9 5 ⟨g, 0, none⟩ 1 [digC t.states] Tryd.underlying39 Tryd.underlying5 Tryd.underlying9 (by
                  intro j hj
                  have hj0 : j = 0 := by simpa using hj
                  subst hj0
                  exact hg)
                have hcv2 : (convert 39 9 (.slice (some ⟨g, 0, none⟩) 1 1)).run Tryd.prog w' = .ok (.string ⟨[digC t.states].toArray⟩) w' := hcv
                clear hcv hg
                refine wpOp_hidden rfl fun K hK => ?_
                go_wp2
                refine OnlyN.mk (hK.out _ _ ⟨_, _, _, _, _, _, _, _, _, true, _, _, _, _, _, _, _, _, _, _, _, _, _, _, _, _, _, _, .string ⟨[digC t.states].toArray⟩, _, _, _, _, _, _, _, rfl, rfl, ⟨H.below, H.h0, H.h1, H.h2, H.h3, H.h4, H.h5, H.h6, H.h7, H.h8, fun _ => rfl, H.h10, H.h11, H.h12, H.h13, H.h14, H.h15, H.h16, H.h17⟩⟩)
              · obtain rfl := H.h3 (by simp [hi])
                obtain rfl := H.h9 (by simp [hi])
                have ha : ∀ w, (Op.stringOp .add ⟨s1.toArray⟩ ⟨[digC t.states].toArray⟩).run Tryd.prog w = .ok (.string ⟨s2.toArray⟩) w := HA2.out
                refine wpOp_hidden rfl fun K hK => ?_
                go_wp2
                refine OnlyN.mk (hK.out _ _ ⟨_, _, _, _, _, _, _, _, _, _, true, _, _, _, _, _, _, _, _, _, _, _, _, _, _, _, _, _, _, .string ⟨s2.toArray⟩, _, _, _, _, _, _, rfl, rfl, ⟨H.below, H.h0, H.h1, H.h2, H.h3, H.h4, H.h5, H.h6, H.h7, H.h8, H.h9, fun _ => rfl, H.h11, H.h12, H.h13, H.h14, H.h15, H.h16, H.h17⟩⟩)
              · refine wpOp_hidden rfl fun K hK => ?_
                go_wp2
                refine OnlyN.mk (hK.out _ _ ⟨_, _, _, _, _, _, _, _, _, _, _, true, _, _, _, _, _, _, _, _, _, _, _, _, _, _, _, _, _, _, .string ⟨le.toArray⟩, _, _, _, _, _, rfl, rfl, ⟨H.below, H.h0, H.h1, H.h2, H.h3, H.h4, H.h5, H.h6, H.h7, H.h8, H.h9, H.h10, fun _ => rfl, H.h12, H.h13, H.h14, H.h15, H.h16, H.h17⟩⟩)
              · obtain rfl := H.h10 (by simp [hi])
                obtain rfl := H.h11 (by simp [hi])
                have ha : ∀ w, (Op.stringOp .add ⟨s2.toArray⟩ ⟨le.toArray⟩).run Tryd.prog w = .ok (.string ⟨y.toArray⟩) w := HA3.out
                refine wpOp_hidden rfl fun K hK => ?_
                go_wp2
                refine OnlyN.mk (hK.out _ _ ⟨_, _, _, _, _, _, _, _, _, _, _, _, true, _, _, _, _, _, _, _, _, _, _, _, _, _, _, _, _, _, _, .string ⟨y.toArray⟩, _, _, _, _, rfl, rfl, ⟨H.below, H.h0, H.h1, H.h2, H.h3, H.h4, H.h5, H.h6, H.h7, H.h8, H.h9, H.h10, H.h11, fun _ => rfl, H.h13, H.h14, H.h15, H.h16, H.h17⟩⟩)
              · obtain rfl := H.h1 (by simp [hi])
                obtain rfl := H.h12 (by simp [hi])
                refine wpOp_hidden rfl fun K hK => ?_
                go_wp2
                refine OnlyN.mk (hK.out _ _ ⟨_, _, _, _, _, _, _, _, _, _, _, _, _, true, _, _, _, _, _, _, _, _, _, _, _, _, _, _, _, _, _, _, .bool true, _, _, _, rfl, rfl, ⟨H.below, H.h0, H.h1, H.h2, H.h3, H.h4, H.h5, H.h6, H.h7, H.h8, H.h9, H.h10, H.h11, H.h12, fun _ => rfl, H.h14, H.h15, H.h16, H.h17⟩⟩)
              · obtain rfl := H.h13 (by simp [hi])
                refine wpOp_hidden rfl fun K hK => ?_
                go_wp2
                refine OnlyN.mk (hK.out _ _ ⟨_, _, _, _, _, _, _, _, _, _, _, _, _, _, true, _, _, _, _, _, _, _, _, _, _, _, _, _, _, _, _, _, _, .bool true, _, _, rfl, rfl, ⟨H.below, H.h0, H.h1, H.h2, H.h3, H.h4, H.h5, H.h6, H.h7, H.h8, H.h9, H.h10, H.h11, H.h12, H.h13, fun _ => rfl, H.h15, H.h16, H.h17⟩⟩)
              · obtain rfl := H.h14 (by simp [hi])
                refine wpOp_hidden rfl fun K hK => ?_
                go_wp2_with fail
                refine (awake_any w' (HGF.out.ext H.below)).mono ?_
                rintro e w9 ⟨rfl, hb2⟩
                go_wp2
                refine OnlyN.mk (hK.out _ _ ⟨_, _, _, _, _, _, _, _, _, _, _, _, _, _, _, true, _, _, _, _, _, _, _, _, _, _, _, _, _, _, _, _, _, _, .bool true, _, rfl, rfl, ⟨(H.world hb2).below, (H.world hb2).h0, (H.world hb2).h1, (H.world hb2).h2, (H.world hb2).h3, (H.world hb2).h4, (H.world hb2).h5, (H.world hb2).h6, (H.world hb2).h7, (H.world hb2).h8, (H.world hb2).h9, (H.world hb2).h10, (H.world hb2).h11, (H.world hb2).h12, (H.world hb2).h13, (H.world hb2).h14, fun _ => rfl, (H.world hb2).h16, (H.world hb2).h17⟩⟩)
              · obtain rfl := H.h14 (by simp [hi])
                obtain rfl := H.h15 (by simp [hi])
                refine wpOp_hidden rfl fun K hK => ?_
                go_wp2
                refine OnlyN.mk (hK.out _ _ ⟨_, _, _, _, _, _, _, _, _, _, _, _, _, _, _, _, true, _, _, _, _, _, _, _, _, _, _, _, _, _, _, _, _, _, _, .bool true, rfl, rfl, ⟨H.below, H.h0, H.h1, H.h2, H.h3, H.h4, H.h5, H.h6, H.h7, H.h8, H.h9, H.h10, H.h11, H.h12, H.h13, H.h14, H.h15, fun _ => rfl, H.h17⟩⟩)
              · obtain rfl := H.h16 (by simp [hi])
                refine wpOp_hidden rfl fun K hK => ?_
                go_wp2
                refine OnlyN.mk (hK.out _ _ ⟨_, _, _, _, _, _, _, _, _, _, _, _, _, _, _, _, _, true, .bool true, _, _, _, _, _, _, _, _, _, _, _, _, _, _, _, _, _, rfl, rfl, ⟨H.below, H.h0, H.h1, H.h2, H.h3, H.h4, H.h5, H.h6, H.h7, H.h8, H.h9, H.h10, H.h11, H.h12, H.h13, H.h14, H.h15, H.h16, fun _ => rfl⟩⟩)
            · rintro listed act w' hr ⟨b0, b1, b2, b3, b4, b5, b6, b7, b8, b9, b10, b11, b12, b13, b14, b15, b16, b17, v4, v69, v70, v71, v72, v73, v74, v75, v76, v77, v78, v79, v80, v81, v82, v83, v84, v85, rfl, rfl, H⟩
              have hn := List.eq_nil_iff_forall_not_mem.1 hr
              have r0 := hn 0
              simp [mem_ready, Region.binds] at r0
              subst r0
              have r1 := hn 1
              simp [mem_ready, Region.binds] at r1
              subst r1
              have r2 := hn 2
              simp [mem_ready, Region.binds] at r2
              subst r2
              have r3 := hn 3
              simp [mem_ready, Region.binds] at r3
              subst r3
              have r4 := hn 4
              simp [mem_ready, Region.binds] at r4
              subst r4
              have r5 := hn 5
              simp [mem_ready, Region.binds] at r5
              subst r5
              have r6 := hn 6
              simp [mem_ready, Region.binds] at r6
              subst r6
              have r7 := hn 7
              simp [mem_ready, Region.binds] at r7
              subst r7
              have r8 := hn 8
              simp [mem_ready, Region.binds] at r8
              subst r8
              have r9 := hn 9
              simp [mem_ready, Region.binds] at r9
              subst r9
              have r10 := hn 10
              simp [mem_ready, Region.binds] at r10
              subst r10
              have r11 := hn 11
              simp [mem_ready, Region.binds] at r11
              subst r11
              have r12 := hn 12
              simp [mem_ready, Region.binds] at r12
              subst r12
              have r13 := hn 13
              simp [mem_ready, Region.binds] at r13
              subst r13
              have r14 := hn 14
              simp [mem_ready, Region.binds] at r14
              subst r14
              have r15 := hn 15
              simp [mem_ready, Region.binds] at r15
              subst r15
              have r16 := hn 16
              simp [mem_ready, Region.binds] at r16
              subst r16
              have r17 := hn 17
              simp [mem_ready, Region.binds] at r17
              subst r17
              obtain rfl := H.h17 rfl
              dsimp only
              go_wp2_with fail
              go_meet
              exact ⟨rfl, Lib.hid H.below⟩
          case rest =>
            obtain ⟨rfl, hbc⟩ := hcut
            go_wp2_with fail
            go_ret
            exact ⟨rfl, HBF.out.trans (hbc.out.mono HBF.out.size)⟩
end Go.Proofs.YtaofninfjdepfaaDoor
