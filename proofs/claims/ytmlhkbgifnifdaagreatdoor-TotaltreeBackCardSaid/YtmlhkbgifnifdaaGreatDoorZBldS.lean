/-
  totaltree.build's visit, with the steps of Sums. No condition but bounds, and that the steps do what is said of them.
-/
import Derived.BigRegion
import Derived.Test.YtmlhkbgifnifdaaGreatDoorZG6
import Derived.Deep.DeepCutAuto
import Derived.Deep.DeepFit
import Derived.Deep.CutBlock
namespace Go.Proofs.YtmlhkbgifnifdaaGreatDoor
open Go.RowKit Go.Maps
set_option maxRecDepth 100000
set_option linter.unusedVariables false
set_option linter.unusedSimpArgs false

structure BxS (V : World) (CP : World → Prop) (gP : Nat) (aI : Int) (jI : Int) (id : Int) (vVis : Value) (vStep : Value) (vS : Value) (vS2 : Value) (vPl : Value) (b0 b1 b2 b3 b4 b5 b6 b7 b8 b9 b10 b11 b12 b13 : Bool) (v50 v51 v52 v53 v54 v55 v56 v57 v58 v59 v60 v61 v62 v16 : Value) (w : World) : Prop where
  h0 : b0 = true → v50 = vVis
  h1 : b1 = true → v51 = .pointer (some ⟨gP, 0, none⟩)
  h2 : b2 = true → v52 = .int .i64 aI
  h3 : b3 = true → v53 = .int .i64 (aI + 1)
  h4 : b4 = true → v54 = vStep
  h5 : b5 = true → v55 = .pointer (some ⟨gP, 1, none⟩)
  h6 : b6 = true → v56 = vS
  h7 : b7 = true → v57 = .pointer (some ⟨gP, 0, none⟩)
  h8 : b8 = true → v58 = .int .i64 aI
  h9 : b9 = true → v59 = .int .i64 jI
  h11 : b11 = true → v61 = vPl
  below : b12 = false → Below V.heap.size V w
  h10 : b10 = true → v60 = vS2
  h12 : b12 = true → v62 = .int .i64 id ∧ CP w
  he : b13 = true → v16 = v62
  oe : b13 = true → b12 = true
  o3 : b3 = true → b2 = true
  o10 : b10 = true → b4 = true ∧ b6 = true ∧ b8 = true ∧ b9 = true
  o11 : b11 = true → b3 = true ∧ b10 = true
  o12 : b12 = true → b0 = true ∧ b11 = true
set_option maxHeartbeats 32000000 in
theorem visitS_any (Y : Sys Int) (R : Nat → Int → Prop) (hR : ∀ a s t, R a s → a < Y.L → t < Y.q → R (a + 1) (Y.step s a t)) (hF : ∀ s, R Y.L s → 0 ≤ Y.fin s ∧ Y.fin s < (Y.q : Int)) (hok : ∀ a s, R a s → plI.ok a s) (hL : Y.L ≤ 100) (hq1 : 1 ≤ Y.q) (hq8 : Y.q ≤ 8)
    (C : BC) (w1 : World) (pX : Nat) (hvV : C.vV = .func (.func 74) #[] #[.pointer (some ⟨C.pL, 0, none⟩), .pointer (some ⟨C.pE, 0, none⟩), .pointer (some ⟨C.pS, 0, none⟩), .pointer (some ⟨C.pQ, 0, none⟩), .pointer (some ⟨C.pV, 0, none⟩), .pointer (some ⟨C.pF, 0, none⟩), .pointer (some ⟨C.pI, 0, none⟩), .pointer (some ⟨C.pT, 0, none⟩)]) (hvF : C.vF = .func (.func 50) #[] #[]) (hvE : C.vE = .func (.func 51) #[] #[.pointer (some ⟨pX, 0, none⟩)]) (hst : C.st = (Y.q : Int)) (hhn : C.hn = Y.L) (hB : TabB C.B w1) (hB1 : C.B ≤ w1.heap.size)
    (hstep : ∀ a s t W', R a s → a < Y.L → t < Y.q → Kept (fun g => g = C.pT ∨ g = C.MS ∨ g = C.MI) w1 W' → Calls Tryz.prog 50 #[.int .i64 s, .int .i64 (a : Int), .int .i64 (t : Int)] W' fun e w' => e = .returned (.int .i64 (Y.step s a t)) ∧ Below W'.heap.size W' w')
    (hend : ∀ s W', R Y.L s → Kept (fun g => g = C.pT ∨ g = C.MS ∨ g = C.MI) w1 W' → Calls Tryz.prog 51 #[.int .i64 s, .pointer (some ⟨pX, 0, none⟩)] W' fun e w' => e = .returned (.int .i64 (Y.fin s)) ∧ Below W'.heap.size W' w') :
    ∀ (n a : Nat) (s : Int) (b : BS Int) (ov : Value) (os : List Hd) (DS DI : DataW Unit) (w : World), a + n = Y.L → R a s → BI Y b → BW plI C w1 ov os DS DI b w → b.1.length + cap Y.q n ≤ 1000000000 → b.2.length + cap Y.q n ≤ 1000000000 →
    Calls Tryz.prog 74 #[.agg #[.int .i64 (a : Int), .int .i64 s], .pointer (some ⟨C.pL, 0, none⟩), .pointer (some ⟨C.pE, 0, none⟩), .pointer (some ⟨C.pS, 0, none⟩), .pointer (some ⟨C.pQ, 0, none⟩), .pointer (some ⟨C.pV, 0, none⟩), .pointer (some ⟨C.pF, 0, none⟩), .pointer (some ⟨C.pI, 0, none⟩), .pointer (some ⟨C.pT, 0, none⟩)] w fun e w' => ∃ ov' os' DS' DI', e = .returned (.int .i64 (bld Y n s b).1) ∧ BV plI C w1 ov os (bld Y n s b).2 w ov' os' DS' DI' w' := by
  have HR := Lib.hid hR
  have HF := Lib.hid hF
  have HOKS := Lib.hid hok
  have HL := Lib.hid hL
  have HQ : Hid (1 ≤ Y.q ∧ Y.q ≤ 8) := Lib.hid ⟨hq1, hq8⟩
  have HVV := Lib.hid (And.intro hvV (And.intro hvF (And.intro hvE (And.intro hst hhn))))
  have HTAB := Lib.hid (And.intro hB hB1)
  have HSTEP := Lib.hid hstep
  have HEND := Lib.hid hend
  clear hR hF hok hL hq1 hq8 hvV hvF hvE hst hhn hB hB1 hstep hend
  intro n
  induction n with
  | zero =>
    intro a s b ov os DS DI w ha hr hI hW hs1 hs2
    obtain rfl : a = Y.L := by omega
    obtain ⟨w0, hw0⟩ : ∃ w0, w0 = w.alloc (.cells #[.int .i64 (Y.L : Int), .int .i64 s] 97) := ⟨_, rfl⟩
    have hb0 : Below w.heap.size w w0 := by rw [hw0]; exact below_new _ _
    have hP : Blk w0 w.heap.size 97 #[.int .i64 (Y.L : Int), .int .i64 s] := by rw [hw0]; exact Blk.new _ _ _
    have hW0 := hW.ext hb0
    obtain ⟨cL, cE, cS, cQ, cV, cF, cI, cT⟩ := hW0.cells
    rw [HVV.out.2.2.1] at cE
    rw [HVV.out.2.2.2.2] at cL
    have p0 := hP.cell_ 0 (.int .i64 (Y.L : Int)) rfl
    have p1 := hP.cell_ 1 (.int .i64 s) rfl
    have HEN := Lib.hid (HEND.out s w0 hr hW0.kp)
    have HW := Lib.hid hW
    have HB0 := Lib.hid hb0
    have HW0 := Lib.hid hw0
    have HEX : Hid (bld Y 0 s b = (Y.fin s, b)) := Lib.hid rfl
    clear hr hI hW hs1 hs2 hw0 hb0 hP hW0 ha
    go_enter Tryz.func74, Tryz.ntmps74
    go_upto_region 1 with fail
    rw [← HW0.out]
    go_wp2_with (go_at_call 51; refine HEN.out.mono ?_; intro e w9 hx9; obtain ⟨rfl, hb9⟩ := hx9; refine Hid.out ?_)
    refine Lib.hid ?_
    have HB9 := Lib.hid (HB0.out.trans (hb9.mono HB0.out.size))
    clear hb9 cL cE cS cQ cV cF cI cT
    go_wp2
    go_ret
    refine ⟨ov, os, DS, DI, ?_, ?_⟩
    · rw [HEX.out]
      first | rfl | done
    · rw [HEX.out]
      exact BV.same HW.out HB9.out
  | succ n ih =>
    intro a s b ov os DS DI w ha hr hI hW hs1 hs2
    have haL : a < Y.L := by omega
    have hLa : Y.L - (n + 1) = a := by omega
    obtain ⟨w0, hw0⟩ : ∃ w0, w0 = w.alloc (.cells #[.int .i64 (a : Int), .int .i64 s] 97) := ⟨_, rfl⟩
    have hb0 : Below w.heap.size w w0 := by rw [hw0]; exact below_new _ _
    have hP : Blk w0 w.heap.size 97 #[.int .i64 (a : Int), .int .i64 s] := by rw [hw0]; exact Blk.new _ _ _
    have hW0 := hW.ext hb0
    obtain ⟨gP, hgP⟩ : ∃ gP, gP = w.heap.size := ⟨_, rfl⟩
    rw [← hgP] at hP
    obtain ⟨cL, cE, cS, cQ, cV, cF, cI, cT⟩ := hW0.cells
    rw [HVV.out.2.2.2.2] at cL
    have p0 := hP.cell_ 0 (.int .i64 (a : Int)) rfl
    have p1 := hP.cell_ 1 (.int .i64 s) rfl
    have hoks := HOKS.out a s hr
    have hkey := plI.keyOf_ a s hoks
    have hlook : ∃ v : Int, (Instr.lookup 94 (.map (some C.MS)) (.agg #[.int .i64 (a : Int), .int .i64 s]) true).run Tryz.prog w0 = .ok (.tuple #[.int .i64 v, .bool (Maps.has DS (.string (plI.key a s)))]) w0 ∧ DS.atKey (.string (plI.key a s)) (.lit (.int .i64 0)) = .lit (.int .i64 v) := by
      obtain ⟨v, ps, hrun, hat⟩ := hW0.mS.look_ok plI.law plI.und (Tryz.zeroInt _) (plainElem_int Tryz.underlying3 (by decide)) hkey
      obtain ⟨x, rfl, hx, -⟩ := plainElem_int_inv Tryz.underlying3 hat
      exact ⟨x, hrun, congrArg Prod.fst hx⟩
    have hkn := hW0.kS.2 a s hoks
    have hne : ((a : Int) == (Y.L : Int)) = false := beq_eq_false_iff_ne.2 (by omega)
    have hne2 : (a == Y.L) = false := beq_eq_false_iff_ne.2 (by omega)
    have HW := Lib.hid hW
    have HB0 := Lib.hid hb0
    have HW0 := Lib.hid (And.intro hw0 hgP)
    have HP0 := Lib.hid hP
    have HI := Lib.hid hI
    have HRS := Lib.hid hr
    have HA := Lib.hid (And.intro ha (And.intro haL hLa))
    have HSZ := Lib.hid (And.intro hs1 hs2)
    have HIH := Lib.hid ih
    have HOK := Lib.hid hoks
    have HKEY := Lib.hid hkey
    cases hls : lookS b.1 (a, s) with
    | some k =>
      have HEX : Hid (bld Y (n + 1) s b = ((k : Int), b)) := Lib.hid (by unfold bld; rw [hLa, hls])
      have hrun : (Instr.lookup 94 (.map (some C.MS)) (.agg #[.int .i64 (a : Int), .int .i64 s]) true).run Tryz.prog w0 = .ok (.tuple #[.int .i64 (k : Int), .bool true]) w0 := by
        obtain ⟨v, h1, h2⟩ := hlook
        have h3 := hkn.1
        rw [hls] at h3
        have h4 := hkn.2 k hls
        rw [h4] at h2
        injection h2 with h2
        injection h2 with _ h2
        rw [h1, h3, ← h2]
        rfl
      clear hr hI hW hs1 hs2 hw0 hgP hb0 hP hW0 ha haL hLa hoks hkey hlook hkn ih hls
      go_enter Tryz.func74, Tryz.ntmps74
      go_upto_region 1 with fail
      rw [← HW0.out.1, ← HW0.out.2]
      go_wp2
      go_ret
      refine ⟨ov, os, DS, DI, ?_, ?_⟩
      · rw [HEX.out]
        first | rfl | done
      · rw [HEX.out]
        exact BV.same HW.out HB0.out
    | none =>
      obtain ⟨kB, hkB⟩ : ∃ kB : Nat → List Int × BS Int, kB = fun j => kidsB (bld Y n) (fun t => Y.step s a t) j b := ⟨_, rfl⟩
      obtain ⟨lv, hlv⟩ : ∃ lv : Int, lv = ((n + 1 : Nat) : Int) := ⟨_, rfl⟩
      have hEX : bld Y (n + 1) s b = (((addN (kB Y.q).2.2 (lv, (kB Y.q).1)).1 : Int), ((kB Y.q).2.1 ++ [((a, s), (addN (kB Y.q).2.2 (lv, (kB Y.q).1)).1)], (addN (kB Y.q).2.2 (lv, (kB Y.q).1)).2)) := by
        unfold bld
        rw [hLa, hls, hkB, hlv]
      have hwl : wrap64 ((Y.L : Int) - (a : Int)) = lv := by rw [hlv]; have := HL.out; unfold wrap64; omega
      have hrun : ∃ v : Int, (Instr.lookup 94 (.map (some C.MS)) (.agg #[.int .i64 (a : Int), .int .i64 s]) true).run Tryz.prog w0 = .ok (.tuple #[.int .i64 v, .bool false]) w0 := by
        obtain ⟨v, h1, h2⟩ := hlook
        have h3 := hkn.1
        rw [hls] at h3
        exact ⟨v, by rw [h1, h3]; rfl⟩
      obtain ⟨v0, hrun⟩ := hrun
      have HEX := Lib.hid hEX
      have HKB := Lib.hid hkB
      have HLV := Lib.hid hlv
      have HLS := Lib.hid hls
      have HL8 : Hid (1 ≤ lv ∧ lv ≤ 100) := Lib.hid (by have := HL.out; omega)
      clear hr hI hW hs1 hs2 hw0 hgP hb0 hP hW0 ha haL hLa hoks hkey hlook hkn ih hls hEX hkB hlv
      go_enter Tryz.func74, Tryz.ntmps74
      go_upto_region 1 with fail
      rw [← HW0.out.1, ← HW0.out.2]
      rw [HVV.out.2.2.2.1] at cQ
      go_upto_region 8 with fail
      obtain ⟨w3, hw3⟩ : ∃ w3, w3 = w0.alloc (.cells #[.int .i64 lv, .slice none 0 0] 42) := ⟨_, rfl⟩
      obtain ⟨w4, hw4⟩ : ∃ w4, w4 = w3.alloc (.cells #[.int .u8 (lv % 256)] 5) := ⟨_, rfl⟩
      rw [← hw3, ← hw4]
      have hb3 : Below w0.heap.size w0 w3 := by rw [hw3]; exact below_new _ _
      have hb4 : Below w3.heap.size w3 w4 := by rw [hw4]; exact below_new _ _
      have hz3 : w3.heap.size = w0.heap.size + 1 := by rw [hw3]; simp
      have hG3 : Blk w3 w0.heap.size 42 #[.int .i64 lv, .slice none 0 0] := by rw [hw3]; exact Blk.new _ _ _
      have hG4 := hG3.below hb4 hG3.lt
      have hb04 : Below w0.heap.size w0 w4 := hb3.trans (hb4.mono (by omega))
      have hK4 : OwnB w4 w.heap.size (.slice (some ⟨w0.heap.size + 1, 0, none⟩) 1 1) (key14 (lv, [])) := by
        have h1 := World.ownsRow_lit (base := w.heap.size) (e := 5) (size := 1) w3 #[.int .u8 (lv % 256)] 1 (by have := HB0.out.size; omega) (by decide) rfl
        rw [← hw4, hz3] at h1
        have h2 : Lib.byteCells (key14 (lv, [])) = [.int .u8 (lv % 256)] := by
          have := HL8.out
          simp only [key14, tailB, List.flatMap_nil, Lib.byteCells, List.map_cons, List.map_nil, UInt8.toNat_ofNat']
          rw [show (((lv.toNat % 2 ^ 8 : Nat)) : Int) = lv % 256 from by omega]
        unfold OwnB
        rw [h2]
        exact h1
      have HL0 := Lib.hid (BdL.start HW.out (HB0.out.trans (hb04.mono HB0.out.size)) (HP0.out.below hb04 HP0.out.lt) hG4 hK4 (by rw [HW0.out.2]; exact Nat.le_refl _) HB0.out.size (by decide))
      obtain ⟨gX, hgX⟩ : ∃ gX, gX = w0.heap.size := ⟨_, rfl⟩
      rw [← hgX] at HL0 ⊢
      have HK0 : Hid (kB 0 = ([], b)) := Lib.hid (by rw [HKB.out]; rfl)
      have hko := kids_ok HR.out HF.out (n := n) (s := s) (b := b) (by have := HA.out; omega) (by rw [HA.out.2.2]; exact HRS.out) HI.out
      rw [HA.out.2.2] at hko
      have HKO : Hid (∀ j, j ≤ Y.q → KOk Y n (fun t => Y.step s a t) j b (kB j)) := Lib.hid (by rw [HKB.out]; exact hko)
      have hst0 : w4.cell? ⟨C.pQ, 0, none⟩ = some (.int .i64 (Y.q : Int)) := by
        have := HL0.out.wk.cells.2.2.2.1
        rw [HVV.out.2.2.2.1] at this
        exact this
      clear hw3 hw4 hb3 hb4 hz3 hG3 hG4 hb04 hK4 hgX hko hrun cL cS cQ cV cF cI cT cE p0 p1 hne hne2 hwl
      go_wp2
      clear hst0
      go_loopw [14, 47] (fun kv sv wr => ∃ (j : Nat) (ov1 : Value) (os1 : List Hd) (DS1 DI1 : DataW Unit) (xv : Value), j ≤ Y.q ∧ sv = .int .i64 j ∧ Hid (BdL plI C w1 w ov os lv gP gX #[.int .i64 (a : Int), .int .i64 s] (kB j).1 (key14 (lv, (kB j).1)) ov1 os1 DS1 DI1 (kB j).2 xv kv wr)) (fun _ sv _ => Y.q - (intOf sv).toNat)
      case atStart => exact ⟨0, ov, os, DS, DI, _, Nat.zero_le _, rfl, Lib.hid (by rw [HK0.out]; exact HL0.out)⟩
      case round =>
        clear HL0 HK0
        obtain ⟨j, ov1, os1, DS1, DI1, xv, hj, rfl, HLo⟩ := hrel
        have hwj : wrap64 ((j : Int) + 1) = (j : Int) + 1 := by have := HQ.out; unfold wrap64; omega
        by_cases hjq : j < Y.q
        · have hkoj := HKO.out j hj
          obtain ⟨cL, cE, cS, cQ, cV, cF, cI, cT⟩ := HLo.out.wk.cells
          rw [HVV.out.1] at cV
          rw [HVV.out.2.1] at cF
          obtain ⟨s2, hs2⟩ : ∃ s2, s2 = Y.step s a j := ⟨_, rfl⟩
          have hr2 : R (a + 1) s2 := by rw [hs2]; exact HR.out a s j HRS.out HA.out.2.1 hjq
          obtain ⟨bj, hbj⟩ : ∃ bj, bj = (kB j).2 := ⟨_, rfl⟩
          obtain ⟨acc, hacc⟩ : ∃ acc, acc = (kB j).1 := ⟨_, rfl⟩
          have hsz1 : bj.1.length + cap Y.q n ≤ 1000000000 := by
            have h1 := hkoj.sz1
            have h2 := HSZ.out.1
            have h3 : (j + 1) * cap Y.q n ≤ Y.q * cap Y.q n := Nat.mul_le_mul_right _ hjq
            rw [Nat.succ_mul] at h3
            rw [show cap Y.q (n + 1) = Y.q * cap Y.q n + 1 from rfl] at h2
            rw [hbj]
            omega
          have hsz2 : bj.2.length + cap Y.q n ≤ 1000000000 := by
            have h1 := hkoj.sz2
            have h2 := HSZ.out.2
            have h3 : (j + 1) * cap Y.q n ≤ Y.q * cap Y.q n := Nat.mul_le_mul_right _ hjq
            rw [Nat.succ_mul] at h3
            rw [show cap Y.q (n + 1) = Y.q * cap Y.q n + 1 from rfl] at h2
            rw [hbj]
            omega
          obtain ⟨rb, hrb⟩ : ∃ rb, rb = bld Y n s2 bj := ⟨_, rfl⟩
          have hij : BI Y bj := by rw [hbj]; exact hkoj.i
          have hbok : BOk Y n s2 bj rb := by
            rw [hrb]
            exact bld_ok HR.out HF.out n (by have := HA.out.1; omega) s2 bj (by rw [show Y.L - n = a + 1 by have := HA.out.1; omega]; exact hr2) hij
          have hkj1 : kB (j + 1) = (acc ++ [rb.1], rb.2) := by
            rw [hrb, hacc, hbj, hs2, HKB.out]
            rfl
          have hidr : 0 ≤ rb.1 ∧ rb.1 ≤ 2000000000 := by
            have h1 := vis_ok n _ _ _ hij.nv hbok.vis
            have h2 := hbok.sz2
            by_cases hn1 : 1 ≤ n
            · obtain ⟨a1, a2, a3⟩ := h1.nd hn1
              omega
            · obtain ⟨a1, a2, a3⟩ := h1.low (by omega)
              have := HQ.out
              omega
          rw [← hbj, ← hacc] at HLo
          have hal : acc.length = j := by rw [hacc]; exact hkoj.len
          have harng : ∀ z ∈ acc, 0 ≤ z ∧ z ≤ (1000000000 : Int) := by
            rw [hacc]
            refine kids_rng HI.out hkoj (by have := HQ.out; omega) (N := 1000000000) ?_ (by decide)
            rw [← hbj]
            omega
          have HST := Lib.hid (fun W' (hW' : Below wr.heap.size wr W') => HSTEP.out a s j W' HRS.out HA.out.2.1 hjq (HLo.out.wk.kp.trans (Kept.of_new _ hW')))
          have HVI : Hid (∀ W', Below wr.heap.size wr W' → Calls Tryz.prog 74 #[.agg #[.int .i64 ((a : Int) + 1), .int .i64 s2], .pointer (some ⟨C.pL, 0, none⟩), .pointer (some ⟨C.pE, 0, none⟩), .pointer (some ⟨C.pS, 0, none⟩), .pointer (some ⟨C.pQ, 0, none⟩), .pointer (some ⟨C.pV, 0, none⟩), .pointer (some ⟨C.pF, 0, none⟩), .pointer (some ⟨C.pI, 0, none⟩), .pointer (some ⟨C.pT, 0, none⟩)] W' fun e w' => e = .returned (.int .i64 rb.1) ∧ ∃ ov2 os2 DS2 DI2, BV plI C w1 ov1 os1 rb.2 wr ov2 os2 DS2 DI2 w') := Lib.hid (fun W' hW' => by
            have h1 := HIH.out (a + 1) s2 bj ov1 os1 DS1 DI1 W' (by have := HA.out.1; omega) hr2 hij (HLo.out.wk.ext hW') hsz1 hsz2
            rw [← hrb, Int.natCast_succ] at h1
            refine h1.mono ?_
            rintro e w' ⟨ov2, os2, DS2, DI2, e1, e2⟩
            exact ⟨e1, ov2, os2, DS2, DI2, e2.pre hW'⟩)
          rw [← hs2] at HST
          obtain ⟨id, hid⟩ : ∃ id, id = rb.1 := ⟨_, rfl⟩
          rw [← hid] at HVI hkj1 hidr
          have HKJ := Lib.hid hkj1
          have HIDR := Lib.hid hidr
          have HAL := Lib.hid hal
          have HARNG := Lib.hid harng
          have HJQ := Lib.hid hjq
          have HX0 : Hid (wr.cell? ⟨C.pV, 0, none⟩ = some (.func (.func 74) #[] #[.pointer (some ⟨C.pL, 0, none⟩), .pointer (some ⟨C.pE, 0, none⟩), .pointer (some ⟨C.pS, 0, none⟩), .pointer (some ⟨C.pQ, 0, none⟩), .pointer (some ⟨C.pV, 0, none⟩), .pointer (some ⟨C.pF, 0, none⟩), .pointer (some ⟨C.pI, 0, none⟩), .pointer (some ⟨C.pT, 0, none⟩)]) ∧ C.pV < wr.heap.size) := Lib.hid ⟨cV, Nat.lt_of_lt_of_le HLo.out.wk.k0.bV.lt HLo.out.wk.kp.below.size⟩
          have HX4 : Hid (wr.cell? ⟨C.pF, 0, none⟩ = some (.func (.func 50) #[] #[]) ∧ C.pF < wr.heap.size) := Lib.hid ⟨cF, Nat.lt_of_lt_of_le HLo.out.wk.k0.bF.lt HLo.out.wk.kp.below.size⟩
          have hwa1 : wrap64 ((a : Int) + 1) = (a : Int) + 1 := by have := HL.out; have := HA.out.1; unfold wrap64; omega
          have HWA := Lib.hid hwa1
          have HC0 : Hid (wr.cell? ⟨gP, 0, none⟩ = some (.int .i64 (a : Int))) := Lib.hid (HLo.out.Pl.cell_ 0 _ rfl)
          have HC1 : Hid (wr.cell? ⟨gP, 1, none⟩ = some (.int .i64 s)) := Lib.hid (HLo.out.Pl.cell_ 1 _ rfl)
          have HPX := Lib.hid HLo.out.Pl.lt
          clear hkoj cL cE cS cQ cV cF cI cT hs2 hr2 hbj hacc hsz1 hsz2 hrb hij hbok hkj1 hidr hal harng hid hj hwa1
          go_upto_region 11 with fail
          refine wp_region_J (by kernel_rfl) (fun listed act w' => ∃ b0 b1 b2 b3 b4 b5 b6 b7 b8 b9 b10 b11 b12 b13 v50 v51 v52 v53 v54 v55 v56 v57 v58 v59 v60 v61 v62 v16, listed = #[b0, b1, b2, b3, b4, b5, b6, b7, b8, b9, b10, b11, b12, b13] ∧ act = Act.mk #[.agg #[.int .i64 (a : Int), .int .i64 s], .pointer (some ⟨C.pL, 0, none⟩), .pointer (some ⟨C.pE, 0, none⟩), .pointer (some ⟨C.pS, 0, none⟩), .pointer (some ⟨C.pQ, 0, none⟩), .pointer (some ⟨C.pV, 0, none⟩), .pointer (some ⟨C.pF, 0, none⟩), .pointer (some ⟨C.pI, 0, none⟩), .pointer (some ⟨C.pT, 0, none⟩), .pointer (some ⟨gP, 0, none⟩), .int .i64 0, .int .i64 v0, .bool false, .pointer (some ⟨gX, 0, none⟩), u14, .int .i64 j, v16, undef, undef, .pointer (some ⟨gP, 0, none⟩), .int .i64 a, .slice C.hA Y.L C.hc, .int .i64 Y.L, .bool false, undef, undef, undef, undef, .tuple #[.int .i64 v0, .bool false], .map (some C.MS), .agg #[.int .i64 (a : Int), .int .i64 s], .tuple #[.int .i64 v0, .bool false], .int .i64 v0, .bool false, .bool false, undef, .slice C.hA Y.L C.hc, .int .i64 Y.L, .pointer (some ⟨gP, 0, none⟩), .int .i64 a, .int .i64 (wrap64 ((Y.L : Int) - (a : Int))), .agg #[.int .i64 lv, .slice none 0 0], .pointer (some ⟨gX, 0, none⟩), .int .i64 lv, .int .u8 (lv % 256), .slice (some ⟨gX + 1, 0, none⟩) 1 1, .int .i64 Y.q, .int .i64 j, .bool true, .int .i64 j, v50, v51, v52, v53, v54, v55, v56, v57, v58, v59, v60, v61, v62, u63, u64, u65, u66, u67, u68, u69, u70, u71, u72, u73, u74, undef, undef, undef, undef, undef, undef, undef, undef, undef, undef, undef, undef, undef, undef, undef, undef, undef, undef, undef, undef, undef, undef, undef, undef, undef, undef] [] ∧ BxS wr (fun w' => ∃ ov2 os2 DS2 DI2, BV plI C w1 ov1 os1 rb.2 wr ov2 os2 DS2 DI2 w') gP (a : Int) (j : Int) id (.func (.func 74) #[] #[.pointer (some ⟨C.pL, 0, none⟩), .pointer (some ⟨C.pE, 0, none⟩), .pointer (some ⟨C.pS, 0, none⟩), .pointer (some ⟨C.pQ, 0, none⟩), .pointer (some ⟨C.pV, 0, none⟩), .pointer (some ⟨C.pF, 0, none⟩), .pointer (some ⟨C.pI, 0, none⟩), .pointer (some ⟨C.pT, 0, none⟩)]) (.func (.func 50) #[] #[]) (.int .i64 s) (.int .i64 s2) (.agg #[.int .i64 ((a : Int) + 1), .int .i64 s2]) b0 b1 b2 b3 b4 b5 b6 b7 b8 b9 b10 b11 b12 b13 v50 v51 v52 v53 v54 v55 v56 v57 v58 v59 v60 v61 v62 v16 w') ?_ ?_ ?_
          · exact ⟨_, _, _, _, _, _, _, _, _, _, _, _, _, _, _, _, _, _, _, _, _, _, _, _, _, _, _, _, rfl, rfl, ⟨(by simp), (by simp), (by simp), (by simp), (by simp), (by simp), (by simp), (by simp), (by simp), (by simp), (by simp), (fun _ => (Below.refl _ wr).drew), (by simp), (by simp), (by simp), (by simp), (by simp), (by simp), (by simp), (by simp)⟩⟩
          · rintro i listed act w' hi ⟨b0, b1, b2, b3, b4, b5, b6, b7, b8, b9, b10, b11, b12, b13, v50, v51, v52, v53, v54, v55, v56, v57, v58, v59, v60, v61, v62, v16, rfl, rfl, H⟩
            have hi16 : i < 14 := by
              obtain ⟨-, o, ho, -⟩ := mem_ready.1 hi
              exact (Array.getElem?_eq_some_iff.1 ho).1
            obtain rfl | rfl | rfl | rfl | rfl | rfl | rfl | rfl | rfl | rfl | rfl | rfl | rfl | rfl : i = 0 ∨ i = 1 ∨ i = 2 ∨ i = 3 ∨ i = 4 ∨ i = 5 ∨ i = 6 ∨ i = 7 ∨ i = 8 ∨ i = 9 ∨ i = 10 ∨ i = 11 ∨ i = 12 ∨ i = 13 := by omega
            all_goals simp [mem_ready, Region.binds] at hi
            · have bAf : b12 = false := by
                cases hb : b12 with
                | false => rfl
                | true => exact absurd (H.o12 hb).1 (by simp [hi])
              have hbl := H.below bAf
              have cc := (hbl.cell (p := ⟨C.pV, 0, none⟩) HX0.out.2).trans HX0.out.1
              clear hbl bAf
              refine wpOp_hidden rfl fun K hK => ?_
              go_wp2
              refine OnlyN.mk (hK.out _ _ ⟨true, _, _, _, _, _, _, _, _, _, _, _, _, _, .func (.func 74) #[] #[.pointer (some ⟨C.pL, 0, none⟩), .pointer (some ⟨C.pE, 0, none⟩), .pointer (some ⟨C.pS, 0, none⟩), .pointer (some ⟨C.pQ, 0, none⟩), .pointer (some ⟨C.pV, 0, none⟩), .pointer (some ⟨C.pF, 0, none⟩), .pointer (some ⟨C.pI, 0, none⟩), .pointer (some ⟨C.pT, 0, none⟩)], _, _, _, _, _, _, _, _, _, _, _, _, _, rfl, rfl, ⟨fun _ => rfl, H.h1, H.h2, H.h3, H.h4, H.h5, H.h6, H.h7, H.h8, H.h9, H.h11, H.below, H.h10, H.h12, H.he, H.oe, H.o3, H.o10, H.o11, fun h => ⟨rfl, (H.o12 h).2⟩⟩⟩)
            · refine wpOp_hidden rfl fun K hK => ?_
              go_wp2
              refine OnlyN.mk (hK.out _ _ ⟨_, true, _, _, _, _, _, _, _, _, _, _, _, _, _, .pointer (some ⟨gP, 0, none⟩), _, _, _, _, _, _, _, _, _, _, _, _, rfl, rfl, ⟨H.h0, fun _ => rfl, H.h2, H.h3, H.h4, H.h5, H.h6, H.h7, H.h8, H.h9, H.h11, H.below, H.h10, H.h12, H.he, H.oe, H.o3, H.o10, H.o11, H.o12⟩⟩)
            · have bAf : b12 = false := by
                cases hb : b12 with
                | false => rfl
                | true => exact absurd (H.o3 (H.o11 (H.o12 hb).2).1) (by simp [hi])
              have hbl := H.below bAf
              obtain rfl := H.h1 (by simp [hi])
              have cc := (hbl.cell (p := ⟨gP, 0, none⟩) HPX.out).trans HC0.out
              clear hbl bAf
              refine wpOp_hidden rfl fun K hK => ?_
              go_wp2
              refine OnlyN.mk (hK.out _ _ ⟨_, _, true, _, _, _, _, _, _, _, _, _, _, _, _, _, .int .i64 (a : Int), _, _, _, _, _, _, _, _, _, _, _, rfl, rfl, ⟨H.h0, H.h1, fun _ => rfl, H.h3, H.h4, H.h5, H.h6, H.h7, H.h8, H.h9, H.h11, H.below, H.h10, H.h12, H.he, H.oe, fun h => rfl, H.o10, H.o11, H.o12⟩⟩)
            · obtain rfl := H.h2 (by simp [hi])
              have hwa1 := HWA.out
              refine wpOp_hidden rfl fun K hK => ?_
              go_wp2
              refine OnlyN.mk (hK.out _ _ ⟨_, _, _, true, _, _, _, _, _, _, _, _, _, _, _, _, _, .int .i64 ((a : Int) + 1), _, _, _, _, _, _, _, _, _, _, rfl, rfl, ⟨H.h0, H.h1, H.h2, fun _ => rfl, H.h4, H.h5, H.h6, H.h7, H.h8, H.h9, H.h11, H.below, H.h10, H.h12, H.he, H.oe, fun _ => (by simp [hi]), H.o10, fun h => ⟨rfl, (H.o11 h).2⟩, H.o12⟩⟩)
            · have bAf : b12 = false := by
                cases hb : b12 with
                | false => rfl
                | true => exact absurd (H.o10 (H.o11 (H.o12 hb).2).2).1 (by simp [hi])
              have hbl := H.below bAf
              have cc := (hbl.cell (p := ⟨C.pF, 0, none⟩) HX4.out.2).trans HX4.out.1
              clear hbl bAf
              refine wpOp_hidden rfl fun K hK => ?_
              go_wp2
              refine OnlyN.mk (hK.out _ _ ⟨_, _, _, _, true, _, _, _, _, _, _, _, _, _, _, _, _, _, .func (.func 50) #[] #[], _, _, _, _, _, _, _, _, _, rfl, rfl, ⟨H.h0, H.h1, H.h2, H.h3, fun _ => rfl, H.h5, H.h6, H.h7, H.h8, H.h9, H.h11, H.below, H.h10, H.h12, H.he, H.oe, H.o3, fun h => ⟨rfl, (H.o10 h).2.1, (H.o10 h).2.2.1, (H.o10 h).2.2.2⟩, H.o11, H.o12⟩⟩)
            · refine wpOp_hidden rfl fun K hK => ?_
              go_wp2
              refine OnlyN.mk (hK.out _ _ ⟨_, _, _, _, _, true, _, _, _, _, _, _, _, _, _, _, _, _, _, .pointer (some ⟨gP, 1, none⟩), _, _, _, _, _, _, _, _, rfl, rfl, ⟨H.h0, H.h1, H.h2, H.h3, H.h4, fun _ => rfl, H.h6, H.h7, H.h8, H.h9, H.h11, H.below, H.h10, H.h12, H.he, H.oe, H.o3, H.o10, H.o11, H.o12⟩⟩)
            · have bAf : b12 = false := by
                cases hb : b12 with
                | false => rfl
                | true => exact absurd (H.o10 (H.o11 (H.o12 hb).2).2).2.1 (by simp [hi])
              have hbl := H.below bAf
              obtain rfl := H.h5 (by simp [hi])
              have cc1 := (hbl.cell (p := ⟨gP, 1, none⟩) HPX.out).trans HC1.out
              clear hbl bAf
              refine wpOp_hidden rfl fun K hK => ?_
              go_wp2
              refine OnlyN.mk (hK.out _ _ ⟨_, _, _, _, _, _, true, _, _, _, _, _, _, _, _, _, _, _, _, _, .int .i64 s, _, _, _, _, _, _, _, rfl, rfl, ⟨H.h0, H.h1, H.h2, H.h3, H.h4, H.h5, fun _ => rfl, H.h7, H.h8, H.h9, H.h11, H.below, H.h10, H.h12, H.he, H.oe, H.o3, fun h => ⟨(H.o10 h).1, rfl, (H.o10 h).2.2.1, (H.o10 h).2.2.2⟩, H.o11, H.o12⟩⟩)
            · refine wpOp_hidden rfl fun K hK => ?_
              go_wp2
              refine OnlyN.mk (hK.out _ _ ⟨_, _, _, _, _, _, _, true, _, _, _, _, _, _, _, _, _, _, _, _, _, .pointer (some ⟨gP, 0, none⟩), _, _, _, _, _, _, rfl, rfl, ⟨H.h0, H.h1, H.h2, H.h3, H.h4, H.h5, H.h6, fun _ => rfl, H.h8, H.h9, H.h11, H.below, H.h10, H.h12, H.he, H.oe, H.o3, H.o10, H.o11, H.o12⟩⟩)
            · have bAf : b12 = false := by
                cases hb : b12 with
                | false => rfl
                | true => exact absurd (H.o10 (H.o11 (H.o12 hb).2).2).2.2.1 (by simp [hi])
              have hbl := H.below bAf
              obtain rfl := H.h7 (by simp [hi])
              have cc := (hbl.cell (p := ⟨gP, 0, none⟩) HPX.out).trans HC0.out
              clear hbl bAf
              refine wpOp_hidden rfl fun K hK => ?_
              go_wp2
              refine OnlyN.mk (hK.out _ _ ⟨_, _, _, _, _, _, _, _, true, _, _, _, _, _, _, _, _, _, _, _, _, _, .int .i64 (a : Int), _, _, _, _, _, rfl, rfl, ⟨H.h0, H.h1, H.h2, H.h3, H.h4, H.h5, H.h6, H.h7, fun _ => rfl, H.h9, H.h11, H.below, H.h10, H.h12, H.he, H.oe, H.o3, fun h => ⟨(H.o10 h).1, (H.o10 h).2.1, rfl, (H.o10 h).2.2.2⟩, H.o11, H.o12⟩⟩)
            · refine wpOp_hidden rfl fun K hK => ?_
              go_wp2
              refine OnlyN.mk (hK.out _ _ ⟨_, _, _, _, _, _, _, _, _, true, _, _, _, _, _, _, _, _, _, _, _, _, _, .int .i64 (j : Int), _, _, _, _, rfl, rfl, ⟨H.h0, H.h1, H.h2, H.h3, H.h4, H.h5, H.h6, H.h7, H.h8, fun _ => rfl, H.h11, H.below, H.h10, H.h12, H.he, H.oe, H.o3, fun h => ⟨(H.o10 h).1, (H.o10 h).2.1, (H.o10 h).2.2.1, rfl⟩, H.o11, H.o12⟩⟩)
            · have bAf : b12 = false := by
                cases hb : b12 with
                | false => rfl
                | true => exact absurd (H.o11 (H.o12 hb).2).2 (by simp [hi])
              have hbl := H.below bAf
              obtain rfl := H.h4 (by simp [hi])
              obtain rfl := H.h6 (by simp [hi])
              obtain rfl := H.h8 (by simp [hi])
              obtain rfl := H.h9 (by simp [hi])
              have HB0 := Lib.hid hbl
              have HCX := Lib.hid (HST.out w' hbl)
              have HF12 := Lib.hid bAf
              clear hbl bAf
              refine wpOp_hidden rfl fun K hK => ?_
              go_wp2_with (go_at_call 50; refine HCX.out.mono ?_; intro e w9 hx9; obtain ⟨rfl, hb9⟩ := hx9; refine Hid.out ?_)
              refine Lib.hid ?_
              have HB9 := Lib.hid hb9
              clear hb9 HCX
              go_wp2
              refine OnlyN.mk (hK.out _ _ ⟨_, _, _, _, _, _, _, _, _, _, true, _, _, _, _, _, _, _, _, _, _, _, _, _, .int .i64 s2, _, _, _, rfl, rfl, ⟨H.h0, H.h1, H.h2, H.h3, H.h4, H.h5, H.h6, H.h7, H.h8, H.h9, H.h11, fun h => (H.below h).trans (HB9.out.mono (H.below h).size), fun _ => rfl, fun h => absurd h (by rw [HF12.out]; decide), H.he, H.oe, H.o3, fun _ => (by simp [hi]), fun h => ⟨(H.o11 h).1, rfl⟩, H.o12⟩⟩)
            · obtain rfl := H.h3 (by simp [hi])
              obtain rfl := H.h10 (by simp [hi])
              refine wpOp_hidden rfl fun K hK => ?_
              go_wp2
              refine OnlyN.mk (hK.out _ _ ⟨_, _, _, _, _, _, _, _, _, _, _, true, _, _, _, _, _, _, _, _, _, _, _, _, _, .agg #[.int .i64 ((a : Int) + 1), .int .i64 s2], _, _, rfl, rfl, ⟨H.h0, H.h1, H.h2, H.h3, H.h4, H.h5, H.h6, H.h7, H.h8, H.h9, fun _ => rfl, H.below, H.h10, H.h12, H.he, H.oe, H.o3, H.o10, fun _ => (by simp [hi]), fun h => ⟨(H.o12 h).1, rfl⟩⟩⟩)
            · have hbl := H.below (by simp [hi])
              obtain rfl := H.h0 (by simp [hi])
              obtain rfl := H.h11 (by simp [hi])
              have HB0 := Lib.hid hbl
              have HCX := Lib.hid (HVI.out w' hbl)
              have hE : b13 = false := by
                cases hb : b13 with
                | false => rfl
                | true => exact absurd (H.oe hb) (by simp [hi])
              clear hbl
              refine wpOp_hidden rfl fun K hK => ?_
              go_wp2_with (go_at_call 74; refine HCX.out.mono ?_; intro e w9 hx9; obtain ⟨rfl, hcp⟩ := hx9; refine Hid.out ?_)
              refine Lib.hid ?_
              have HCP := Lib.hid hcp
              clear hcp HCX
              go_wp2
              refine OnlyN.mk (hK.out _ _ ⟨_, _, _, _, _, _, _, _, _, _, _, _, true, _, _, _, _, _, _, _, _, _, _, _, _, _, .int .i64 id, _, rfl, rfl, ⟨H.h0, H.h1, H.h2, H.h3, H.h4, H.h5, H.h6, H.h7, H.h8, H.h9, H.h11, fun h => (by cases h), H.h10, fun _ => ⟨rfl, HCP.out⟩, fun h => absurd h (by rw [hE]; decide), fun _ => rfl, H.o3, H.o10, H.o11, fun _ => (by simp [hi])⟩⟩)
            · obtain ⟨hv, hcp⟩ := H.h12 (by simp [hi])
              subst hv
              clear hcp
              refine wpOp_hidden rfl fun K hK => ?_
              go_wp2
              refine OnlyN.mk (hK.out _ _ ⟨_, _, _, _, _, _, _, _, _, _, _, _, _, true, _, _, _, _, _, _, _, _, _, _, _, _, _, .int .i64 id, rfl, rfl, ⟨H.h0, H.h1, H.h2, H.h3, H.h4, H.h5, H.h6, H.h7, H.h8, H.h9, H.h11, H.below, H.h10, H.h12, fun _ => rfl, fun _ => (by simp [hi]), H.o3, H.o10, H.o11, H.o12⟩⟩)
          · rintro listed act w' hr ⟨b0, b1, b2, b3, b4, b5, b6, b7, b8, b9, b10, b11, b12, b13, v50, v51, v52, v53, v54, v55, v56, v57, v58, v59, v60, v61, v62, v16, rfl, rfl, H⟩
            have hn := List.eq_nil_iff_forall_not_mem.1 hr
            have r0 := hn 0
            simp [mem_ready, Region.binds] at r0
            subst r0
            have r1 := hn 1
            simp [mem_ready, Region.binds] at r1
            subst r1
            have r2 := hn 2
            simp [mem_ready, Region.binds] at r2
            subst r2
            have r3 := hn 3
            simp [mem_ready, Region.binds] at r3
            subst r3
            have r4 := hn 4
            simp [mem_ready, Region.binds] at r4
            subst r4
            have r5 := hn 5
            simp [mem_ready, Region.binds] at r5
            subst r5
            have r6 := hn 6
            simp [mem_ready, Region.binds] at r6
            subst r6
            have r7 := hn 7
            simp [mem_ready, Region.binds] at r7
            subst r7
            have r8 := hn 8
            simp [mem_ready, Region.binds] at r8
            subst r8
            have r9 := hn 9
            simp [mem_ready, Region.binds] at r9
            subst r9
            have r10 := hn 10
            simp [mem_ready, Region.binds] at r10
            subst r10
            have r11 := hn 11
            simp [mem_ready, Region.binds] at r11
            subst r11
            have r12 := hn 12
            simp [mem_ready, Region.binds] at r12
            subst r12
            have r13 := hn 13
            simp [mem_ready, Region.binds] at r13
            subst r13
            try dsimp only
            obtain ⟨hv, hcp⟩ := H.h12 rfl
            subst hv
            obtain rfl := H.he rfl
            obtain ⟨ov2, os2, DS2, DI2, hbv⟩ := hcp
            have HL5 := Lib.hid (HLo.out.call hbv)
            clear H hr hn hbv
            have hown := HL5.out.R
            have hal : acc.length < 1000000000000 := by have := HAL.out; have := HJQ.out; have := HQ.out; omega
            obtain ⟨w5, hw5⟩ : ∃ w5, w5 = w' := ⟨_, rfl⟩
            rw [← hw5] at HL5 hown ⊢
            clear hw5
            have hws : w.heap.size ≤ w5.heap.size := HL5.out.kp.below.size
            have hx5 := HL5.out.G.cell_ 1 xv rfl
            go_wp2_with (at_builtin; refine wpList_pushIk rfl _ _ _ rfl w.heap.size 3 Tryz.underlying28 Tryz.infoInt _ _ rfl hown _ rfl hal hws ?_)
            intro xv' w6 ho6 hk6 hm6
            obtain ⟨xA', xc', hxv', -, -⟩ := ho6.ints
            rw [List.length_append, List.length_singleton] at hxv'
            subst hxv'
            have hG6 := hk6.blk HL5.out.G (own_blk_ne' HL5.out.R HL5.out.G (by decide))
            have hx6 := hG6.cell_ 1 xv rfl
            have hf6 := hG6.frozen 1
            have HL7 := Lib.hid (HL5.out.push ho6 hk6 hm6)
            clear ho6 hk6 hm6 hG6 hown hal hws hx5
            go_upto_region 13 with fail
            obtain ⟨w7, hw7⟩ : ∃ w7, w7 = w6.setCell ⟨gX, 1, none⟩ (.slice xA' (acc.length + 1) xc') := ⟨_, rfl⟩
            rw [← hw7] at HL7 ⊢
            clear hw7 hx6 hf6
            have hown7 := HL7.out.K
            have hln7 : (key14 (lv, acc)).length < 1000000000000 := by
              have h1 := key14_len (x := (lv, acc)) (fun z hz => by have := HARNG.out z hz; omega)
              have h2 := HAL.out; have h3 := HJQ.out; have h4 := HQ.out
              dsimp only at h1
              omega
            have hbs7 : w.heap.size ≤ w7.heap.size := HL7.out.kp.below.size
            have HTW : Hid (∀ w8, Below w.heap.size w7 w8 → TabB w.heap.size w8) := Lib.hid (fun w8 h8 => by
              have hlo : C.B ≤ w.heap.size := Nat.le_trans HTAB.out.2 HW.out.kp.below.size
              have h1 : Below C.B w1 w := HW.out.kp.to_below HTAB.out.2 (fun g hg e => by have := HW.out.k0.lo; omega)
              exact (HTAB.out.1.on (h1.trans ((HW.out.below HL7.out.kp).trans (h8.mono hlo)))).up hlo)
            have HLN := Lib.hid hln7
            go_wp2_with (at_builtin; refine wpList_pushBk rfl _ _ rfl w.heap.size _ _ rfl hown7 32 _ rfl rfl hln7 hbs7 ?_)
            intro v8 w8 ho8 hk8 hb8
            have HK8 := Lib.hid hk8
            have HB8 := Lib.hid hb8
            have HA9 := Lib.hid (appIntK w.heap.size _ id v8 w8 ho8 (Nat.le_trans HL7.out.kp.below.size hb8.size) (by
              have h1 := key14_len (x := (lv, acc)) (fun z hz => by have := HARNG.out z hz; omega)
              have h2 := HAL.out; have h3 := HJQ.out; have h4 := HQ.out
              rw [List.length_append, List.length_singleton]
              dsimp only at h1
              omega) (by have := HIDR.out; omega) (by have := HIDR.out; omega) (HTW.out w8 hb8))
            clear ho8 hk8 hb8 hown7 hln7 hbs7 HTW
            go_wp2_with (go_at_call 70; refine HA9.out.mono ?_; intro e w9 hx9; obtain ⟨v9, rfl, ho9, hk9, hb9⟩ := hx9; refine Hid.out ?_)
            refine Lib.hid ?_
            have HL9 : Hid (BdL plI C w1 w ov os lv gP gX #[.int .i64 (a : Int), .int .i64 s] (acc ++ [id]) (key14 (lv, acc ++ [id])) ov2 os2 DS2 DI2 rb.2 (.slice xA' (acc.length + 1) xc') v9 w9) := Lib.hid (by
              rw [key14_snoc]
              exact HL7.out.key ho9 (HK8.out.u8 hk9) (HB8.out.trans hb9))
            clear ho9 hk9 hb9 HA9
            go_wp2
            go_roundw
            case rel => exact ⟨j + 1, ov2, os2, DS2, DI2, _, HJQ.out, (by first | rfl | (rw [hwj]; rfl)), Lib.hid (by rw [HKJ.out]; exact HL9.out)⟩
            case measure => (try rw [hwj]); exact meas_stepB HJQ.out
        · have hje : j = Y.q := Nat.le_antisymm hj (Nat.le_of_not_lt hjq)
          have hkoj := HKO.out j hj
          obtain ⟨bj, hbj⟩ : ∃ bj, bj = (kB j).2 := ⟨_, rfl⟩
          obtain ⟨acc, hacc⟩ : ∃ acc, acc = (kB j).1 := ⟨_, rfl⟩
          rw [← hbj, ← hacc] at HLo
          have HEJ : Hid (bld Y (n + 1) s b = (((addN bj.2 (lv, acc)).1 : Int), (bj.1 ++ [((a, s), (addN bj.2 (lv, acc)).1)], (addN bj.2 (lv, acc)).2))) := Lib.hid (by rw [HEX.out, hbj, hacc, hje])
          have hls2 : lookS bj.1 (a, s) = none := by rw [hbj]; exact kids_look hkoj HA.out.1 HLS.out
          have hsz1 : bj.1.length ≤ 1000000000 := by
            have h1 := hkoj.sz1
            have h2 := HSZ.out.1
            rw [show cap Y.q (n + 1) = Y.q * cap Y.q n + 1 from rfl] at h2
            rw [hje] at h1
            rw [hbj, hje]
            omega
          have hsz2 : bj.2.length ≤ 1000000000 := by
            have h1 := hkoj.sz2
            have h2 := HSZ.out.2
            rw [show cap Y.q (n + 1) = Y.q * cap Y.q n + 1 from rfl] at h2
            rw [hje] at h1
            rw [hbj, hje]
            omega
          have hal : acc.length = Y.q := by rw [hacc, ← hje]; exact hkoj.len
          have harng : ∀ z ∈ acc, 0 ≤ z ∧ z ≤ (1000000000 : Int) := by
            rw [hacc]
            exact kids_rng HI.out hkoj (by have := HQ.out; omega) (N := 1000000000) (by rw [← hbj]; exact hsz2) (by decide)
          have hkl : (key14 (lv, acc)).length ≤ maxLen := by
            have h1 := key14_len (x := (lv, acc)) (fun z hz => by have := harng z hz; omega)
            have h4 := HQ.out
            dsimp only at h1
            unfold maxLen
            omega
          obtain ⟨A7, c7, hv7⟩ := HLo.out.K.form
          subst hv7
          have h8 : lv8 (lv, acc) := by unfold lv8; have := HL8.out; dsimp only; omega
          have hky : keyOf Tryz.prog 9 (.string ⟨(key14 (lv, acc)).toArray⟩) = some (.string (key14 (lv, acc))) := WideMaps.keyOf_string_mk Tryz.underlying9 hkl
          have hlk : ∃ v : Int, (Instr.lookup 85 (.map (some C.MI)) (.string ⟨(key14 (lv, acc)).toArray⟩) true).run Tryz.prog wr = .ok (.tuple #[.int .i64 v, .bool (Maps.has DI1 (.string (key14 (lv, acc))))]) wr ∧ DI1.atKey (.string (key14 (lv, acc))) (.lit (.int .i64 0)) = .lit (.int .i64 v) := by
            obtain ⟨v, ps, hrun, hat⟩ := HLo.out.wk.mI.look_ok Tryz.law Tryz.underlying85 (Tryz.zeroInt _) (plainElem_int Tryz.underlying3 (by decide)) hky
            obtain ⟨x, rfl, hx, -⟩ := plainElem_int_inv Tryz.underlying3 hat
            exact ⟨x, hrun, congrArg Prod.fst hx⟩
          have hkn := HLo.out.wk.kI.2 (lv, acc) h8
          have hcv := back_any (w := wr) HLo.out.K
          obtain ⟨xA, xc, exv, -, -⟩ := HLo.out.R.ints
          subst exv
          obtain ⟨KS, hKS⟩ : ∃ KS : ByteArray, KS = ⟨(key14 (lv, acc)).toArray⟩ := ⟨_, rfl⟩
          obtain ⟨KL, hKL⟩ : ∃ KL, KL = (key14 (lv, acc)).length := ⟨_, rfl⟩
          rw [← hKS] at hky hlk hcv
          rw [← hKL] at hcv ⊢
          have HKS := Lib.hid hKS
          have HKLe := Lib.hid hKL
          have HKY := Lib.hid hky
          have HLS2 := Lib.hid hls2
          have HSZ1 := Lib.hid hsz1
          have HSZ2 := Lib.hid hsz2
          have H8 := Lib.hid h8
          have HAL := Lib.hid hal
          obtain ⟨cL, cE, cS, cQ, cV, cF, cI, cT⟩ := HLo.out.wk.cells
          have HOL : Hid (os1.length = bj.2.length) := Lib.hid (by rw [← HLo.out.wk.eq, List.length_map])
          have HPB := Lib.hid HLo.out.Pl
          have p0 := HLo.out.Pl.cell_ 0 (.int .i64 (a : Int)) rfl
          have p1 := HLo.out.Pl.cell_ 1 (.int .i64 s) rfl
          cases hpo : posOf bj.2 (lv, acc) with
          | some i =>
            have hrun2 : (Instr.lookup 85 (.map (some C.MI)) (.string KS) true).run Tryz.prog wr = .ok (.tuple #[.int .i64 (i : Int), .bool true]) wr := by
              obtain ⟨v, h1, h2⟩ := hlk
              have h3 := hkn.1
              rw [hpo] at h3
              have h4 := hkn.2 i hpo
              rw [h4] at h2
              injection h2 with h2
              injection h2 with _ h2
              rw [h1, h3, ← h2]
              rfl
            have HAD : Hid (addN bj.2 (lv, acc) = (i, bj.2)) := Lib.hid (by unfold addN; rw [hpo])
            have hil : i < bj.2.length := (posOf_some hpo).1
            obtain ⟨w7, hrun7, hM7, hg7⟩ := World.ownsMap.update (w := wr) HLo.out.wk.mS plI.law plI.und (by unfold maxLen; omega) HKEY.out (plainElem_int (q := .i64) (a := (i : Int)) Tryz.underlying3 (WalkArith.wf_i64 (by omega)))
            change (Instr.mapUpdate 94 (.map (some C.MS)) (.agg #[.int .i64 (a : Int), .int .i64 s]) (.int .i64 (i : Int))).run Tryz.prog wr = .ok () w7 at hrun7
            have hsee := HLo.out.wk.see HOK.out hls2 i hM7 hg7
            have HFIN : Hid (∃ DS' DI', BV plI C w1 ov os (bj.1 ++ [((a, s), i)], bj.2) w ov1 os1 DS' DI' w7) := Lib.hid ⟨_, _, hsee.1, HLo.out.kp.bT HLo.out.mv hsee.2, HLo.out.mv, HLo.out.new⟩
            clear hM7 hg7 hsee hlk hkn hpo hil hls2 hsz1 hsz2 hal harng hkl h8 hky hje hkoj hbj hacc hKS hKL hj hwj
            go_wp2
            obtain ⟨DS', DI', hfin⟩ := HFIN.out
            go_ret
            refine ⟨ov1, os1, DS', DI', ?_, ?_⟩
            · rw [HEJ.out, HAD.out]
              first | rfl | done
            · rw [HEJ.out, HAD.out]
              exact hfin
          | none =>
            have hrun2 : ∃ v : Int, (Instr.lookup 85 (.map (some C.MI)) (.string KS) true).run Tryz.prog wr = .ok (.tuple #[.int .i64 v, .bool false]) wr := by
              obtain ⟨v, h1, h2⟩ := hlk
              have h3 := hkn.1
              rw [hpo] at h3
              exact ⟨v, by rw [h1, h3]; rfl⟩
            obtain ⟨v1, hrun2⟩ := hrun2
            have HAD : Hid (addN bj.2 (lv, acc) = (bj.2.length, bj.2 ++ [(lv, acc)])) := Lib.hid (by unfold addN; rw [hpo])
            have HPO := Lib.hid hpo
            obtain ⟨oA, oc, eov, -, -⟩ := HLo.out.wk.out.nds
            subst eov
            have hlo : C.B ≤ w.heap.size := Nat.le_trans HTAB.out.2 HW.out.kp.below.size
            have hout := HLo.out.wk.out
            have hI6 : OwnIA wr C.B (.slice xA acc.length xc) acc := own_down HLo.out.R hlo
            have hln : os1.length < 1000000000000 := by have := HOL.out; omega
            have hws : C.B ≤ wr.heap.size := Nat.le_trans hlo HLo.out.kp.below.size
            have x0 := HLo.out.G.cell_ 0 (.int .i64 lv) rfl
            have x1 := HLo.out.G.cell_ 1 (.slice xA acc.length xc) rfl
            clear hlk hkn hpo hls2 hsz1 hsz2 hal harng hkl h8 hky hje hkoj hbj hacc hKS hKL hj hlo
            go_upto_region 18 with fail
            go_wp2_with (at_builtin; refine wpList_pushN rfl _ _ _ rfl C.B 42 3 (by decide) Tryz.underlying23 Tryz.infoNode _ _ rfl hout _ _ _ _ hI6 rfl hln hws ?_)
            intro v9 w9 hN9 hk9 hm9
            obtain ⟨x, hx⟩ : ∃ x, x = (⟨lv, xA, xc, acc⟩ : Hd) := ⟨_, rfl⟩
            have hxn : x.nd = (lv, acc) := by rw [hx]; rfl
            rw [← hx] at hN9
            obtain ⟨oA9, oc9, e9, -, -⟩ := hN9.nds
            obtain ⟨n9, hn9⟩ : ∃ n9, n9 = (os1 ++ [x]).length := ⟨_, rfl⟩
            rw [← hn9] at e9
            subst e9
            obtain ⟨q1, q2, q3, q4⟩ := HLo.out.wk.row hN9 hk9 hm9
            obtain ⟨f1, f2, f3, f4⟩ := HLo.out.far
            obtain ⟨wa, hwa⟩ : ∃ wa, wa = w9.setCell ⟨C.pT, 2, none⟩ (.slice oA9 n9 oc9) := ⟨_, rfl⟩
            rw [← hwa] at q1 q2
            have hKa : OwnB wa w.heap.size (.slice A7 KL c7) (key14 (lv, acc)) := by
              have h1 : OwnB wa w.heap.size (.slice A7 (key14 (lv, acc)).length c7) (key14 (lv, acc)) := q1.own HLo.out.K f2
              rw [HKLe.out]
              exact h1
            have hPa := q1.blk HLo.out.Pl f4
            have hcva : (convert 90 9 (.slice A7 KL c7)).run Tryz.prog wa = .ok (.string KS) wa := by
              have := back_any (w := wa) (base := w.heap.size) (A := A7) (c := c7) (l := key14 (lv, acc)) (by rw [← HKLe.out]; exact hKa)
              rw [← HKLe.out, ← HKS.out] at this
              exact this
            have hidc := HLo.out.wk.idsCell q1
            obtain ⟨w8, hrun8, hM8, hg8⟩ := World.ownsMap.update (w := wa) q2 Tryz.law Tryz.underlying85 (by have := HOL.out; have := HSZ2.out; unfold maxLen; omega) HKY.out (plainElem_int (q := .i64) (a := (os1.length : Int)) Tryz.underlying3 (WalkArith.wf_i64 (by have := HOL.out; have := HSZ2.out; omega)))
            rw [hwa] at hg8
            obtain ⟨hB8, hK8⟩ := HLo.out.wk.node (x := x) (by rw [hxn]; exact H8.out) (by rw [hxn]; exact HPO.out) hN9 hk9 hm9 (by rw [hxn]; exact hM8) hg8 (fun g _ => .inr trivial)
            have hP8 := hK8.blk HLo.out.Pl f4
            obtain ⟨w7, hrun7, hM7, hg7⟩ := World.ownsMap.update (w := w8) hB8.mS plI.law plI.und (by have := HSZ1.out; unfold maxLen; dsimp only; omega) HKEY.out (plainElem_int (q := .i64) (a := (os1.length : Int)) Tryz.underlying3 (WalkArith.wf_i64 (by have := HOL.out; have := HSZ2.out; omega)))
            change (Instr.mapUpdate 94 (.map (some C.MS)) (.agg #[.int .i64 (a : Int), .int .i64 s]) (.int .i64 (os1.length : Int))).run Tryz.prog w8 = .ok () w7 at hrun7
            have hsee := hB8.see HOK.out HLS2.out os1.length hM7 hg7
            have hmv := HLo.out.mv.trans hm9 HLo.out.kp.below.size
            have hse : C.pS < w8.heap.size := Nat.lt_of_lt_of_le HLo.out.wk.k0.bS.lt hB8.kp.below.size
            have hs8 := hB8.cells.2.2.1
            have HFIN : Hid (∃ DS' DI', BV plI C w1 ov os (bj.1 ++ [((a, s), os1.length)], bj.2 ++ [(lv, acc)]) w (.slice oA9 n9 oc9) (os1 ++ [x]) DS' DI' w7) := Lib.hid ⟨_, _, by
              have h1 := hsee.1
              rw [hxn] at h1
              refine ⟨h1, (HLo.out.kp.bT HLo.out.mv hK8).bT hmv hsee.2, hmv, fun y hy => ?_⟩
              rcases List.mem_append.1 hy with hy | hy
              · exact HLo.out.new y hy
              · rw [List.mem_singleton] at hy
                subst hy
                rw [hx]
                have hap : 0 < acc.length := by have := HAL.out; have := HQ.out; omega
                obtain ⟨g, c', e, hg, -⟩ := HLo.out.R.some_ hap
                injection e with e1 e2 e3
                subst e1
                exact .inr ⟨g, rfl, hg⟩⟩
            have HM7 := Lib.hid (And.intro hB8 hK8)
            have HP8 := Lib.hid hP8
            clear hn9 hN9 hk9 hm9 hx hxn q1 q2 f1 f2 f3 f4 hKa hM8 hg8 hB8 hK8 hP8 hM7 hg7 hsee hmv hse hout hI6 hln hws cL cE cS cQ cV cF cI cT x0 x1 hcv hrun2 p0 p1
            go_upto_region 19 with fail
            rw [← hwa]
            clear q3 q4 hwa
            go_upto_region 20 with fail
            have p0 := HP8.out.cell_ 0 (.int .i64 (a : Int)) rfl
            have p1 := HP8.out.cell_ 1 (.int .i64 s) rfl
            clear hidc hcva hPa hrun8
            go_wp2
            obtain ⟨DS', DI', hfin⟩ := HFIN.out
            go_ret
            refine ⟨.slice oA9 n9 oc9, os1 ++ [x], DS', DI', ?_, ?_⟩
            · rw [HEJ.out, HAD.out, ← HOL.out]
              first | rfl | done
            · rw [HEJ.out, HAD.out, ← HOL.out]
              exact hfin
end Go.Proofs.YtmlhkbgifnifdaaGreatDoor
