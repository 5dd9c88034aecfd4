/-
  generations.Parse: it reads a rule with states. At most 2^31 bytes.
-/
import Derived.Test.YtaofninfjdepfaaDoorSplit
import Derived.Test.YtaofninfjdepfaaDoorTextG
import Derived.Deep.Cut
import Derived.BigQuiet
namespace Go.Proofs.YtaofninfjdepfaaDoor
open Go.RowKit
set_option maxRecDepth 100000
set_option linter.unusedVariables false
set_option linter.unusedSimpArgs false

/-- the package's variable that the search reads is there -/
def Glob (w : World) : Prop := ∃ m, w.cell? ⟨2, 0, none⟩ = some (.int .i64 m)
theorem Glob.ext {w w' : World} (h : Glob w) (hb : Below w.heap.size w w') : Glob w' := by
  obtain ⟨m, hm⟩ := h
  exact ⟨m, by rw [hb.cell (World.block_lt_of_cell? _ _ hm)]; exact hm⟩
theorem Glob.far {w w' : World} (h : Glob w) (hb : Below w.heap.size w w') {g : Nat} (hg : 2 < g) (u : Value) {i : Nat} : Glob (w'.setCell ⟨g, i, none⟩ u) := by
  obtain ⟨m, hm⟩ := h.ext hb
  exact ⟨m, by rw [((Below.refl 3 w').setCell (p := ⟨g, i, none⟩) (by simp; omega) u).cell (by simp)]; exact hm⟩
theorem cutPre_any (l p : List UInt8) (w : World) : Calls Tryd.prog 28 #[.string ⟨l.toArray⟩, .string ⟨p.toArray⟩] w fun e w' => e = .returned (.tuple #[.string ⟨(Lib.trimPrefix l p).toArray⟩, .bool (Lib.hasPrefix l p)]) ∧ w = w' :=
  (Tryd.strings_CutPrefix ⟨l.toArray⟩ ⟨p.toArray⟩ w).mono fun e w' h => ⟨h.1, h.2.symm⟩
theorem cutB_any (l : List UInt8) (w : World) : Calls Tryd.prog 28 #[.string ⟨l.toArray⟩, .string ⟨#[66]⟩] w fun e w' => e = .returned (.tuple #[.string ⟨(restB l).toArray⟩, .bool (startB l)]) ∧ w = w' := cutPre_any l [66] w
theorem cutS_any (l : List UInt8) (w : World) : Calls Tryd.prog 28 #[.string ⟨l.toArray⟩, .string ⟨#[83]⟩] w fun e w' => e = .returned (.tuple #[.string ⟨(restS l).toArray⟩, .bool (startS l)]) ∧ w = w' := cutPre_any l [83] w
theorem cutC_any (l : List UInt8) (w : World) : Calls Tryd.prog 28 #[.string ⟨l.toArray⟩, .string ⟨#[67]⟩] w fun e w' => e = .returned (.tuple #[.string ⟨(restC l).toArray⟩, .bool (startC l)]) ∧ w = w' := cutPre_any l [67] w
theorem cutV_any (l : List UInt8) (w : World) (hl : l.length < 4294967281) : Calls Tryd.prog 24 #[.string ⟨l.toArray⟩, .string ⟨#[86]⟩] w fun e w' => e = .returned (.tuple #[.string ⟨(cutV l).toArray⟩, .bool (tailV l)]) ∧ w = w' :=
  (Tryd.strings_CutSuffix ⟨l.toArray⟩ ⟨#[86]⟩ w (by simp [ByteArray.size]; omega)).mono fun e w' h => ⟨h.1, h.2.symm⟩
theorem cutH_any (l : List UInt8) (w : World) (hl : l.length < 4294967281) : Calls Tryd.prog 24 #[.string ⟨l.toArray⟩, .string ⟨#[72]⟩] w fun e w' => e = .returned (.tuple #[.string ⟨(cutH l).toArray⟩, .bool (tailH l)]) ∧ w = w' :=
  (Tryd.strings_CutSuffix ⟨l.toArray⟩ ⟨#[72]⟩ w (by simp [ByteArray.size]; omega)).mono fun e w' h => ⟨h.1, h.2.symm⟩
theorem countB_one (l : List UInt8) : Lib.countB ⟨l.toArray⟩ ⟨#[47]⟩ = l.count 47 := by
  show Lib.count l [47] = _
  rw [Lib.count_one]
theorem split_any (l : List UInt8) (w : World) (hg : Glob w) (hl : l.length < 4294967281) : Calls Tryd.prog 27 #[.string ⟨l.toArray⟩, .string ⟨#[47]⟩] w fun e w' => e = .returned (.slice (some ⟨w.heap.size, 0, none⟩) (l.count 47 + 1) (l.count 47 + 1)) ∧ ∃ o, w.alloc o = w' := by
  obtain ⟨m, hm⟩ := hg
  refine (Tryd.strings_Split ⟨l.toArray⟩ ⟨#[47]⟩ m w (by simpa [ByteArray.size] using hl) hm (by simp [ByteArray.size])).mono ?_
  rintro e w' ⟨rfl, rfl⟩
  rw [countB_one]
  exact ⟨rfl, _, rfl⟩
theorem split3_any (a b c : List UInt8) (ha : (47 : UInt8) ∉ a) (hb : (47 : UInt8) ∉ b) (hc : (47 : UInt8) ∉ c) (w : World) (hg : Glob w) (hl : (a ++ 47 :: (b ++ 47 :: c)).length < 4294967281) :
    Calls Tryd.prog 27 #[.string ⟨(a ++ 47 :: (b ++ 47 :: c)).toArray⟩, .string ⟨#[47]⟩] w fun e w' => e = .returned (.slice (some ⟨w.heap.size, 0, none⟩) 3 3) ∧ w.alloc (.cells #[.string ⟨a.toArray⟩, .string ⟨b.toArray⟩, .string ⟨c.toArray⟩] 9) = w' := by
  obtain ⟨m, hm⟩ := hg
  refine (Tryd.strings_Split ⟨(a ++ 47 :: (b ++ 47 :: c)).toArray⟩ ⟨#[47]⟩ m w (by simpa [ByteArray.size] using hl) hm (by simp [ByteArray.size])).mono ?_
  rintro e w' ⟨rfl, rfl⟩
  rw [countB_one, count_three ha hb hc, splitB_three ha hb]
  exact ⟨rfl, rfl⟩
theorem below_bytes (w : World) (e : TypeId) (t : ByteArray) : Below w.heap.size w (Lib.bytesWorld w e t) :=
  ⟨rfl, rfl, rfl, by rw [Lib.bytesWorld_size]; omega, fun j hj => Lib.bytesWorld_at_old w e t j hj⟩
theorem digitsG_any (l : List UInt8) (w : World) (hl : l.length ≤ 2147483648) : Calls Tryd.prog 29 #[.string ⟨l.toArray⟩] w (RetIntsB (digG l).1 (digG l).2 w) := digits_any ⟨l.toArray⟩ w hl
set_option maxHeartbeats 4000000 in
theorem parseG_any (l : List UInt8) (w : World) (hg : Glob w) (hs : l.length ≤ 2147483648) :
    Calls Tryd.prog 10 #[.string ⟨l.toArray⟩] w (RetTot (parseG l) w) := by
  have hO := below_new w (.cells #[.slice none 0 0, .int .i64 0, .slice none 0 0, .slice none 0 0] 26)
  have br0 : Blk (w.alloc (.cells #[.slice none 0 0, .int .i64 0, .slice none 0 0, .slice none 0 0] 26)) w.heap.size 26 #[.slice none 0 0, .int .i64 0, .slice none 0 0, .slice none 0 0] := Blk.new _ _ _
  have hg0 := hg.ext hO
  have C1 := cutV_any l
  have C2 := cutH_any l
  have hV : (cutV l).length ≤ l.length := trimSuffix_len _ _
  have hH : (cutH l).length ≤ l.length := trimSuffix_len _ _
  have hP : ∃ p, p = hoodP l := ⟨_, rfl⟩
  obtain ⟨p, hp⟩ := hP
  have hp' := hp
  unfold hoodP at hp'
  unfold parseG
  rw [← hp]
  have hpl : p.1.length ≤ 2147483648 := by rw [hp']; split; · exact Nat.le_trans hV hs
                                           split; · exact Nat.le_trans hH hs
                                           exact hs
  generalize tailV l = kv at *
  generalize tailH l = kh at *
  generalize cutV l = lv at *
  generalize cutH l = lh at *
  obtain ⟨bd, hd⟩ := p
  dsimp only at *
  have H1 := Lib.hid (And.intro (fun w => C1 w (by omega)) (fun w => C2 w (by omega)))
  have HP := Lib.hid hp'
  have HO := Lib.hid (And.intro hO (And.intro br0 hg0))
  have HL := Lib.hid hpl
  clear C1 C2 hp' hp hV hH hs hO br0 hg0 hpl
  go_enter Tryd.func10, Tryd.ntmps10
  go_wp2_with fail
  refine (moore_one _).mono ?_
  rintro e w1 ⟨A1, a1, rfl, hp1, hn1, hb1⟩
  have hO2 := HO.out.1.trans (hb1.mono HO.out.1.size)
  have hg1 := HO.out.2.2.ext hb1
  have br1 := HO.out.2.1.below hb1 HO.out.2.1.lt
  have hnh : NewA (w.heap.size + 1) A1 := hn1.mono (by simp)
  have bt1 : Blk (w1.alloc (.cells #[.slice A1 (mooreL 1).length a1, .int .i64 0, .slice none 0 0, .slice none 0 0] 26)) w1.heap.size 26 #[.slice A1 (mooreL 1).length a1, .int .i64 0, .slice none 0 0, .slice none 0 0] := Blk.new _ _ _
  have br2 := br1.alloc (.cells #[.slice A1 (mooreL 1).length a1, .int .i64 0, .slice none 0 0, .slice none 0 0] 26)
  have hO3 := hO2.alloc hO2.size (.cells #[.slice A1 (mooreL 1).length a1, .int .i64 0, .slice none 0 0, .slice none 0 0] 26)
  have hb2 := below_new w1 (.cells #[.slice A1 (mooreL 1).length a1, .int .i64 0, .slice none 0 0, .slice none 0 0] 26)
  have hp2 := hp1.ext hb2
  have hg2 := hg1.ext hb2
  have hlt : w.heap.size < w1.heap.size := br1.lt
  have hg0lt : 2 < w1.heap.size := by
    obtain ⟨m, hm⟩ := hg1
    exact World.block_lt_of_cell? _ _ hm
  have K1 := Lib.hid (And.intro hp1 (And.intro hp2 (And.intro hnh (And.intro hg2 (And.intro hO3 (And.intro br2 (And.intro bt1 hlt)))))))
  clear hp1 hp2 hnh hg2 hO3 br2 hlt hg1 hn1 hb1 hO2 hb2 br1
  go_wp2_with fail
  refine (H1.out.1 _).mono ?_
  rintro e w2 ⟨rfl, rfl⟩
  go_upto_if 30 with fail
  go_cut [0] from 5 (fun v0 wx => v0 = .string ⟨bd.toArray⟩ ∧ ∃ A a, Blk wx w1.heap.size 26 #[.slice A hd.length a, .int .i64 0, .slice none 0 0, .slice none 0 0] ∧ Blk wx w.heap.size 26 #[.slice none 0 0, .int .i64 0, .slice none 0 0, .slice none 0 0] ∧ Pts wx A hd ∧ NewA (w.heap.size + 1) A ∧ (∀ W i u, Pts W A hd → Pts (W.setCell ⟨w1.heap.size, i, none⟩ u) A hd) ∧ Below w.heap.size w wx ∧ Glob wx)
  case first =>
    have HPS := HP.out
    cases kv
    · simp only [Bool.false_eq_true, if_false] at HPS
      go_wp2_with fail
      refine (H1.out.2 _).mono ?_
      rintro e w2 ⟨rfl, rfl⟩
      cases kh
      · simp only [Bool.false_eq_true, if_false, Prod.mk.injEq] at HPS
        obtain ⟨rfl, rfl⟩ := HPS
        go_wp2_with fail
        go_meet
        exact ⟨rfl, A1, a1, bt1, K1.out.2.2.2.2.2.1, K1.out.2.1, K1.out.2.2.1, fun W i u h => h.set_old K1.out.1 (by simp) u, K1.out.2.2.2.2.1, K1.out.2.2.2.1⟩
      · simp only [if_true, Prod.mk.injEq] at HPS
        obtain ⟨rfl, rfl⟩ := HPS
        go_wp2_with fail
        refine (hex_any _).mono ?_
        rintro e w2 ⟨A2, a2, rfl, hp2, hn2, hb2⟩
        have bt2 := bt1.below hb2 bt1.lt
        have br3 := K1.out.2.2.2.2.2.1.below hb2 K1.out.2.2.2.2.2.1.lt
        have hO4 := K1.out.2.2.2.2.1.trans (hb2.mono K1.out.2.2.2.2.1.size)
        have hg3 := K1.out.2.2.2.1.ext hb2
        have hlt := K1.out.2.2.2.2.2.2.2
        have hn2t : NewA (w1.heap.size + 1) A2 := hn2.mono (by simp)
        have hnh : NewA (w.heap.size + 1) A2 := hn2.mono (by simp; omega)
        have bt3 : Blk (w2.setCell ⟨w1.heap.size, 0, none⟩ (.slice A2 hexL.length a2)) w1.heap.size 26 #[.slice A2 hexL.length a2, .int .i64 0, .slice none 0 0, .slice none 0 0] := bt2.set_ 0 _
        have br4 := br3.far (p := ⟨w1.heap.size, 0, none⟩) (by simp; omega) (.slice A2 hexL.length a2)
        have hO5 := hO4.setCell (p := ⟨w1.heap.size, 0, none⟩) (by simp; omega) (.slice A2 hexL.length a2)
        have hfar : ∀ (W : World) (i : Nat) (u : Value), Pts W A2 hexL → Pts (W.setCell ⟨w1.heap.size, i, none⟩ u) A2 hexL := fun W i u h => h.set_new hn2t (by simp) u
        have hph := hfar w2 0 (.slice A2 hexL.length a2) hp2
        have hg4 : Glob (w2.setCell ⟨w1.heap.size, 0, none⟩ (.slice A2 hexL.length a2)) := K1.out.2.2.2.1.far hb2 hg0lt _
        have c0 := bt2.cell_ 0 _ rfl
        have f0 := bt2.frozen 0
        have R := Lib.hid (And.intro bt3 (And.intro br4 (And.intro hph (And.intro hnh (And.intro hfar (And.intro hO5 hg4))))))
        clear bt1 bt2 br3 hO4 hg3 hlt hn2t hnh bt3 br4 hO5 hfar hph hg4 hp2 hn2 hb2
        go_wp2_with fail
        go_meet
        exact ⟨rfl, A2, a2, R.out.1, R.out.2.1, R.out.2.2.1, R.out.2.2.2.1, R.out.2.2.2.2.1, R.out.2.2.2.2.2.1, R.out.2.2.2.2.2.2⟩

    · simp only [if_true, Prod.mk.injEq] at HPS
      obtain ⟨rfl, rfl⟩ := HPS
      go_wp2_with fail
      refine (neum_one _).mono ?_
      rintro e w2 ⟨A2, a2, rfl, hp2, hn2, hb2⟩
      have bt2 := bt1.below hb2 bt1.lt
      have br3 := K1.out.2.2.2.2.2.1.below hb2 K1.out.2.2.2.2.2.1.lt
      have hO4 := K1.out.2.2.2.2.1.trans (hb2.mono K1.out.2.2.2.2.1.size)
      have hg3 := K1.out.2.2.2.1.ext hb2
      have hlt := K1.out.2.2.2.2.2.2.2
      have hn2t : NewA (w1.heap.size + 1) A2 := hn2.mono (by simp)
      have hnh : NewA (w.heap.size + 1) A2 := hn2.mono (by simp; omega)
      have bt3 : Blk (w2.setCell ⟨w1.heap.size, 0, none⟩ (.slice A2 (neumL 1).length a2)) w1.heap.size 26 #[.slice A2 (neumL 1).length a2, .int .i64 0, .slice none 0 0, .slice none 0 0] := bt2.set_ 0 _
      have br4 := br3.far (p := ⟨w1.heap.size, 0, none⟩) (by simp; omega) (.slice A2 (neumL 1).length a2)
      have hO5 := hO4.setCell (p := ⟨w1.heap.size, 0, none⟩) (by simp; omega) (.slice A2 (neumL 1).length a2)
      have hfar : ∀ (W : World) (i : Nat) (u : Value), Pts W A2 (neumL 1) → Pts (W.setCell ⟨w1.heap.size, i, none⟩ u) A2 (neumL 1) := fun W i u h => h.set_new hn2t (by simp) u
      have hph := hfar w2 0 (.slice A2 (neumL 1).length a2) hp2
      have hg4 : Glob (w2.setCell ⟨w1.heap.size, 0, none⟩ (.slice A2 (neumL 1).length a2)) := K1.out.2.2.2.1.far hb2 hg0lt _
      have c0 := bt2.cell_ 0 _ rfl
      have f0 := bt2.frozen 0
      have R := Lib.hid (And.intro bt3 (And.intro br4 (And.intro hph (And.intro hnh (And.intro hfar (And.intro hO5 hg4))))))
      clear bt1 bt2 br3 hO4 hg3 hlt hn2t hnh bt3 br4 hO5 hfar hph hg4 hp2 hn2 hb2
      go_wp2_with fail
      go_meet
      exact ⟨rfl, A2, a2, R.out.1, R.out.2.1, R.out.2.2.1, R.out.2.2.2.1, R.out.2.2.2.2.1, R.out.2.2.2.2.2.1, R.out.2.2.2.2.2.2⟩

  case rest =>
    obtain ⟨rfl, A, a, hcut⟩ := hcut
    have HC := Lib.hid hcut
    clear hcut bt1
    by_cases k1 : bd.count 47 = 2
    · obtain ⟨pa, pb, pc, hb, na, nb, nc⟩ := three_of k1
      have HF : Hid (partsG bd = form3 bd pa pb pc) := Lib.hid (by rw [hb]; exact parts_three na nb nc)
      have hbl : bd.length = pa.length + pb.length + pc.length + 2 := by rw [hb]; simp; omega
      have HLL : Hid (pa.length ≤ 2147483648 ∧ pb.length ≤ 2147483648 ∧ pc.length ≤ 2147483648) := Lib.hid (by have := HL.out; omega)
      have W1 := split3_any pa pb pc na nb nc wc HC.out.2.2.2.2.2.2 (by rw [← hb]; have := HL.out; omega)
      rw [← hb] at W1
      have HW := Lib.hid W1
      have HN := Lib.hid (And.intro na (And.intro nb nc))
      have HB := Lib.hid hb
      have C3 := cutB_any bd
      obtain ⟨kb, hkb⟩ : ∃ k, k = startB bd := ⟨_, rfl⟩
      obtain ⟨rb, hrb⟩ : ∃ k, k = restB bd := ⟨_, rfl⟩
      rw [← hkb, ← hrb] at C3
      have HKB := Lib.hid (And.intro hkb hrb)
      have H3 := Lib.hid C3
      clear W1 na nb nc hb k1 hbl C3 hkb hrb
      go_wp2_with fail
      refine HW.out.mono ?_
      rintro e w2 ⟨rfl, rfl⟩
      have hbA := below_new wc (.cells #[.string ⟨pa.toArray⟩, .string ⟨pb.toArray⟩, .string ⟨pc.toArray⟩] 9)
      have bp : Blk (wc.alloc (.cells #[.string ⟨pa.toArray⟩, .string ⟨pb.toArray⟩, .string ⟨pc.toArray⟩] 9)) wc.heap.size 9 #[.string ⟨pa.toArray⟩, .string ⟨pb.toArray⟩, .string ⟨pc.toArray⟩] := Blk.new _ _ _
      have p0 := bp.cell_ 0 (.string ⟨pa.toArray⟩) rfl
      have p1 := bp.cell_ 1 (.string ⟨pb.toArray⟩) rfl
      have p2 := bp.cell_ 2 (.string ⟨pc.toArray⟩) rfl
      have HBA := Lib.hid hbA
      clear hbA bp HW
      go_upto_region 11 with fail
      go_quiet (fail)
      have hbq : Below wc.heap.size wc ((wc.alloc (.cells #[.string ⟨pa.toArray⟩, .string ⟨pb.toArray⟩, .string ⟨pc.toArray⟩] 9)).drewN nq) := below_drewN HBA.out nq
      clear p0 p1 p2 HBA
      generalize (wc.alloc (.cells #[.string ⟨pa.toArray⟩, .string ⟨pb.toArray⟩, .string ⟨pc.toArray⟩] 9)).drewN nq = wq at *
      have HBA := Lib.hid hbq
      clear hbq
      go_wp2_with fail
      refine (H3.out _).mono ?_
      rintro e w2 ⟨rfl, rfl⟩
      go_upto_if 63 with fail
      go_cut [9, 10, 11, 12] from 13 (fun v9 v10 v11 v12 wx => ∃ B S N, partsG bd = some (B, S, N) ∧ v10 = .string ⟨B.toArray⟩ ∧ v11 = .string ⟨S.toArray⟩ ∧ v12 = .string ⟨N.toArray⟩ ∧ B.length ≤ 2147483648 ∧ S.length ≤ 2147483648 ∧ N.length ≤ 2147483648 ∧ Below wc.heap.size wc wx)
      case first =>
        cases kb
        · have HE : Hid (partsG bd = some (pb, pa, pc)) := Lib.hid (by rw [HF.out]; unfold form3; rw [← HKB.out.1]; rfl)
          go_wp2_with fail
          go_meet
          exact ⟨pb, pa, pc, HE.out, rfl, rfl, rfl, HLL.out.2.1, HLL.out.1, HLL.out.2.2, HBA.out⟩
        · have hsb := startB_cons (a := pa) (r := pb ++ 47 :: pc) (by rw [← HB.out]; exact HKB.out.1.symm)
          obtain ⟨a', ea, er⟩ := hsb
          rw [← HB.out, ← HKB.out.2] at er
          have na' : (47 : UInt8) ∉ a' := fun h => HN.out.1 (by rw [ea]; exact List.mem_cons_of_mem _ h)
          have hal : a'.length ≤ 2147483648 := by have := HLL.out.1; rw [ea] at this; simp at this; omega
          have HE : Hid (partsG bd = if startS pb then if startC pc then some (a', restS pb, restC pc) else none else none) := Lib.hid (by rw [HF.out]; unfold form3; rw [← HKB.out.1, ea]; rfl)
          have hS : (restS pb).length ≤ pb.length := trimPrefix_len _ _
          have hC : (restC pc).length ≤ pc.length := trimPrefix_len _ _
          have W3 := split3_any a' pb pc na' HN.out.2.1 HN.out.2.2 wq (HC.out.2.2.2.2.2.2.ext HBA.out) (by
            have h1 := HL.out
            rw [HB.out, ea] at h1
            simp at h1 ⊢
            omega)
          rw [← er] at W3
          have C4 := cutS_any pb
          have C5 := cutC_any pc
          obtain ⟨ks, hks⟩ : ∃ k, k = startS pb := ⟨_, rfl⟩
          obtain ⟨rs, hrs⟩ : ∃ k, k = restS pb := ⟨_, rfl⟩
          obtain ⟨kc, hkc⟩ : ∃ k, k = startC pc := ⟨_, rfl⟩
          obtain ⟨rc, hrc⟩ : ∃ k, k = restC pc := ⟨_, rfl⟩
          rw [← hks, ← hrs] at C4
          rw [← hkc, ← hrc] at C5
          rw [← hks, ← hrs, ← hkc, ← hrc] at HE
          rw [← hrs] at hS
          rw [← hrc] at hC
          have H4 := Lib.hid (And.intro W3 (And.intro C4 C5))
          have H5 : Hid (a'.length ≤ 2147483648 ∧ rs.length ≤ 2147483648 ∧ rc.length ≤ 2147483648) := Lib.hid (by have := HLL.out; omega)
          clear W3 C4 C5 hks hrs hkc hrc hS hC na' hal er ea
          go_wp2_with fail
          refine H4.out.1.mono ?_
          rintro e w3 ⟨rfl, rfl⟩
          have hbB := HBA.out.trans ((below_new wq (.cells #[.string ⟨a'.toArray⟩, .string ⟨pb.toArray⟩, .string ⟨pc.toArray⟩] 9)).mono HBA.out.size)
          have bq : Blk (wq.alloc (.cells #[.string ⟨a'.toArray⟩, .string ⟨pb.toArray⟩, .string ⟨pc.toArray⟩] 9)) wq.heap.size 9 #[.string ⟨a'.toArray⟩, .string ⟨pb.toArray⟩, .string ⟨pc.toArray⟩] := by
            exact Blk.new _ _ _
          have q0 := bq.cell_ 0 (.string ⟨a'.toArray⟩) rfl
          have q1 := bq.cell_ 1 (.string ⟨pb.toArray⟩) rfl
          have q2 := bq.cell_ 2 (.string ⟨pc.toArray⟩) rfl
          have HBB := Lib.hid hbB
          clear hbB bq
          go_wp2_with fail
          refine (H4.out.2.1 _).mono ?_
          rintro e w4 ⟨rfl, rfl⟩
          go_wp2_with fail
          refine (H4.out.2.2 _).mono ?_
          rintro e w4 ⟨rfl, rfl⟩
          cases ks
          · have HPN : Hid (partG (partsG bd) hd = (zeroT, 15)) := Lib.hid (by rw [HE.out]; rfl)
            have br := HC.out.2.1.below HBB.out HC.out.2.1.lt
            have r0 := br.cell_ 0 _ rfl
            have r1 := br.cell_ 1 _ rfl
            have r2 := br.cell_ 2 _ rfl
            have r3 := br.cell_ 3 _ rfl
            have g0 := br.frozen 0
            have g1 := br.frozen 1
            have g2 := br.frozen 2
            have g3 := br.frozen 3
            have HOZ := Lib.hid (HC.out.2.2.2.2.2.1.trans (HBB.out.mono HC.out.2.2.2.2.2.1.size))
            clear br
            go_wp2_with fail
            refine bodyPost_ret (v := .tuple #[.agg #[.slice none 0 0, .int .i64 0, .slice none 0 0, .slice none 0 0], .int .i64 15]) (by simp [results, Tryd.results10, go_sem, r0, r1, r2, r3]) rfl ?_
            show RetTot (partG (partsG bd) hd) w _ _
            rw [HPN.out]
            exact ⟨none, 0, none, 0, none, 0, rfl, TotR.zero _, below_set4 HOZ.out (Nat.le_refl _) _ _ _ _⟩

          cases kc
          · have HPN : Hid (partG (partsG bd) hd = (zeroT, 15)) := Lib.hid (by rw [HE.out]; rfl)
            have br := HC.out.2.1.below HBB.out HC.out.2.1.lt
            have r0 := br.cell_ 0 _ rfl
            have r1 := br.cell_ 1 _ rfl
            have r2 := br.cell_ 2 _ rfl
            have r3 := br.cell_ 3 _ rfl
            have g0 := br.frozen 0
            have g1 := br.frozen 1
            have g2 := br.frozen 2
            have g3 := br.frozen 3
            have HOZ := Lib.hid (HC.out.2.2.2.2.2.1.trans (HBB.out.mono HC.out.2.2.2.2.2.1.size))
            clear br
            go_wp2_with fail
            refine bodyPost_ret (v := .tuple #[.agg #[.slice none 0 0, .int .i64 0, .slice none 0 0, .slice none 0 0], .int .i64 15]) (by simp [results, Tryd.results10, go_sem, r0, r1, r2, r3]) rfl ?_
            show RetTot (partG (partsG bd) hd) w _ _
            rw [HPN.out]
            exact ⟨none, 0, none, 0, none, 0, rfl, TotR.zero _, below_set4 HOZ.out (Nat.le_refl _) _ _ _ _⟩

          go_wp2_with fail
          go_meet
          exact ⟨a', rs, rc, HE.out, rfl, rfl, rfl, H5.out.1, H5.out.2.1, H5.out.2.2, HBB.out⟩
      case rest =>
        obtain ⟨B, S, N, hcut⟩ := hcut
        obtain ⟨hpn, rfl, rfl, rfl, hcut⟩ := hcut
        have HQ := Lib.hid hcut
        have HPN : Hid (partG (partsG bd) hd = endG (digG B) (digG S) N hd) := Lib.hid (by rw [hpn]; rfl)
        clear hcut hpn
        have D1 := fun w => digitsG_any B w HQ.out.1
        have D2 := fun w => digitsG_any S w HQ.out.2.1
        have D3 := fun w => number_any ⟨N.toArray⟩ w HQ.out.2.2.1
        have HAT : Hid (numG N = true → Lib.atoi N = some (numV N) ∧ N.length ≤ 3) := Lib.hid (fun h => ⟨atoi_num h, by unfold numG at h; simp only [Bool.and_eq_true, decide_eq_true_eq] at h; exact h.1.2⟩)
        have hN : (⟨N.toArray⟩ : ByteArray).data.toList = N := rfl
        rw [hN] at D3
        clear hN
        obtain ⟨db, hdb⟩ : ∃ x, x = digG B := ⟨_, rfl⟩
        obtain ⟨ds, hds⟩ : ∃ x, x = digG S := ⟨_, rfl⟩
        rw [← hdb] at D1 HPN
        rw [← hds] at D2 HPN
        clear hdb hds
        obtain ⟨bs, ok1⟩ := db
        obtain ⟨ss, ok2⟩ := ds
        dsimp only at *
        have HD := Lib.hid (And.intro D1 (And.intro D2 D3))
        clear D1 D2 D3
        have br2 := HC.out.2.1.below HQ.out.2.2.2 HC.out.2.1.lt
        have bt2 := HC.out.1.below HQ.out.2.2.2 HC.out.1.lt
        have hO2 := HC.out.2.2.2.2.2.1.trans (HQ.out.2.2.2.mono HC.out.2.2.2.2.2.1.size)
        have hph := HC.out.2.2.1.ext HQ.out.2.2.2
        have hfar := HC.out.2.2.2.2.1
        have HFR := Lib.hid (And.intro hfar HC.out.2.2.2.1)
        clear hfar
        go_wp2_with fail
        refine (HD.out.1 _).mono ?_
        rintro e w3 ⟨A3, a3, rfl, hi3, hn3, hb3⟩
        have bt3 := bt2.below hb3 bt2.lt
        have br3 := br2.below hb3 br2.lt
        have hO3 := hO2.trans (hb3.mono hO2.size)
        have hph3 := hph.ext hb3
        have hn3t : NewA (w1.heap.size + 1) A3 := hn3.mono (Nat.succ_le_of_lt bt2.lt)
        have hn3r : NewA (w.heap.size + 1) A3 := hn3.mono (Nat.succ_le_of_lt br2.lt)
        clear bt2 br2 hO2 hph hn3 hb3
        go_wp2_with fail
        refine (HD.out.2.1 _).mono ?_
        rintro e w4 ⟨A4, a4, rfl, hi4, hn4, hb4⟩
        have bt4 := bt3.below hb4 bt3.lt
        have br4 := br3.below hb4 br3.lt
        have hO4 := hO3.trans (hb4.mono hO3.size)
        have hph4 := hph3.ext hb4
        have hi34 := hi3.ext hb4
        have hn4t : NewA (w1.heap.size + 1) A4 := hn4.mono (Nat.succ_le_of_lt bt3.lt)
        have hn4r : NewA (w.heap.size + 1) A4 := hn4.mono (Nat.succ_le_of_lt br3.lt)
        have HNN := Lib.hid (And.intro hn3t (And.intro hn3r (And.intro hn4t hn4r)))
        clear bt3 br3 hO3 hph3 hn4 hb4 hi3 hn3t hn3r hn4t hn4r
        cases ok1
        · have HZZ : Hid (partG (partsG bd) hd = (zeroT, 15)) := Lib.hid (by rw [HPN.out]; rfl)
          have br := br4
          have r0 := br.cell_ 0 _ rfl
          have r1 := br.cell_ 1 _ rfl
          have r2 := br.cell_ 2 _ rfl
          have r3 := br.cell_ 3 _ rfl
          have g0 := br.frozen 0
          have g1 := br.frozen 1
          have g2 := br.frozen 2
          have g3 := br.frozen 3
          have HOZ := Lib.hid (hO4)
          clear br
          go_wp2_with fail
          refine bodyPost_ret (v := .tuple #[.agg #[.slice none 0 0, .int .i64 0, .slice none 0 0, .slice none 0 0], .int .i64 15]) (by simp [results, Tryd.results10, go_sem, r0, r1, r2, r3]) rfl ?_
          show RetTot (partG (partsG bd) hd) w _ _
          rw [HZZ.out]
          exact ⟨none, 0, none, 0, none, 0, rfl, TotR.zero _, below_set4 HOZ.out (Nat.le_refl _) _ _ _ _⟩

        cases ok2
        · have HZZ : Hid (partG (partsG bd) hd = (zeroT, 15)) := Lib.hid (by rw [HPN.out]; rfl)
          have br := br4
          have r0 := br.cell_ 0 _ rfl
          have r1 := br.cell_ 1 _ rfl
          have r2 := br.cell_ 2 _ rfl
          have r3 := br.cell_ 3 _ rfl
          have g0 := br.frozen 0
          have g1 := br.frozen 1
          have g2 := br.frozen 2
          have g3 := br.frozen 3
          have HOZ := Lib.hid (hO4)
          clear br
          go_wp2_with fail
          refine bodyPost_ret (v := .tuple #[.agg #[.slice none 0 0, .int .i64 0, .slice none 0 0, .slice none 0 0], .int .i64 15]) (by simp [results, Tryd.results10, go_sem, r0, r1, r2, r3]) rfl ?_
          show RetTot (partG (partsG bd) hd) w _ _
          rw [HZZ.out]
          exact ⟨none, 0, none, 0, none, 0, rfl, TotR.zero _, below_set4 HOZ.out (Nat.le_refl _) _ _ _ _⟩

        obtain ⟨kn, hkn⟩ : ∃ k, k = numG N := ⟨_, rfl⟩
        have W3 := fun w => HD.out.2.2 w
        rw [← hkn] at W3
        have HKN := Lib.hid hkn
        have HW3 := Lib.hid W3
        clear W3 hkn
        go_wp2_with fail
        refine (HW3.out _).mono ?_
        rintro e w5 ⟨rfl, hb5⟩
        have bt5 := bt4.below hb5 bt4.lt
        have br5 := br4.below hb5 br4.lt
        have hO5 := hO4.trans (hb5.mono hO4.size)
        have hph5 := hph4.ext hb5
        have hi35 := hi34.ext hb5
        have hi45 := hi4.ext hb5
        clear bt4 br4 hO4 hph4 hi34 hi4 hb5
        cases kn
        · have HZZ : Hid (partG (partsG bd) hd = (zeroT, 15)) := Lib.hid (by rw [HPN.out]; unfold endG; rw [← HKN.out]; rfl)
          have br := br5
          have r0 := br.cell_ 0 _ rfl
          have r1 := br.cell_ 1 _ rfl
          have r2 := br.cell_ 2 _ rfl
          have r3 := br.cell_ 3 _ rfl
          have g0 := br.frozen 0
          have g1 := br.frozen 1
          have g2 := br.frozen 2
          have g3 := br.frozen 3
          have HOZ := Lib.hid (hO5)
          clear br
          go_wp2_with fail
          refine bodyPost_ret (v := .tuple #[.agg #[.slice none 0 0, .int .i64 0, .slice none 0 0, .slice none 0 0], .int .i64 15]) (by simp [results, Tryd.results10, go_sem, r0, r1, r2, r3]) rfl ?_
          show RetTot (partG (partsG bd) hd) w _ _
          rw [HZZ.out]
          exact ⟨none, 0, none, 0, none, 0, rfl, TotR.zero _, below_set4 HOZ.out (Nat.le_refl _) _ _ _ _⟩

        have WA := HAT.out HKN.out.symm
        obtain ⟨n, hn⟩ : ∃ n, n = numV N := ⟨_, rfl⟩
        have HE : Hid (partG (partsG bd) hd = if 3 ≤ n ∧ n ≤ 8 ∧ rightT ⟨hd, n, bs, ss⟩ = true then (⟨hd, n, bs, ss⟩, 0) else (zeroT, 5)) := Lib.hid (by rw [HPN.out]; unfold endG; rw [← HKN.out, hn]; rfl)
        rw [← hn] at WA
        have W6 := fun w => Tryd.strconv_Atoi ⟨N.toArray⟩ n (by have := WA.2; simp [ByteArray.size]; omega) WA.1 w
        have H6 := Lib.hid W6
        clear W6 WA hn
        go_wp2_with fail
        refine (H6.out _).mono ?_
        rintro e w6 ⟨rfl, tb, hw6⟩
        have hb6 : Below w5.heap.size w5 w6 := by rw [hw6]; exact below_bytes _ _ _
        clear hw6
        have bt6 := bt5.below hb6 bt5.lt
        have br6 := br5.below hb6 br5.lt
        have hO6 := hO5.trans (hb6.mono hO5.size)
        have hph6 := hph5.ext hb6
        have hi36 := hi35.ext hb6
        have hi46 := hi45.ext hb6
        clear bt5 br5 hO5 hph5 hi35 hi45 hb6
        have c1 := bt6.cell_ 1 _ rfl
        have f1 := bt6.frozen 1
        have c2 := bt6.cell_ 2 _ rfl
        have f2 := bt6.frozen 2
        have c3 := bt6.cell_ 3 _ rfl
        have f3 := bt6.frozen 3
        go_upto_region 26 with fail
        have hlt := K1.out.2.2.2.2.2.2.2
        have bt7 : Blk (((w6.setCell ⟨w1.heap.size, 1, none⟩ (.int .i64 n)).setCell ⟨w1.heap.size, 2, none⟩ (.slice A3 bs.length a3)).setCell ⟨w1.heap.size, 3, none⟩ (.slice A4 ss.length a4)) w1.heap.size 26 #[.slice A hd.length a, .int .i64 n, .slice A3 bs.length a3, .slice A4 ss.length a4] := ((bt6.set_ 1 (.int .i64 n)).set_ 2 (.slice A3 bs.length a3)).set_ 3 (.slice A4 ss.length a4)
        have br7 : Blk (((w6.setCell ⟨w1.heap.size, 1, none⟩ (.int .i64 n)).setCell ⟨w1.heap.size, 2, none⟩ (.slice A3 bs.length a3)).setCell ⟨w1.heap.size, 3, none⟩ (.slice A4 ss.length a4)) w.heap.size 26 #[.slice none 0 0, .int .i64 0, .slice none 0 0, .slice none 0 0] := ((br6.far (by simp; omega) _).far (by simp; omega) _).far (by simp; omega) _
        have hO7 : Below w.heap.size w (((w6.setCell ⟨w1.heap.size, 1, none⟩ (.int .i64 n)).setCell ⟨w1.heap.size, 2, none⟩ (.slice A3 bs.length a3)).setCell ⟨w1.heap.size, 3, none⟩ (.slice A4 ss.length a4)) := ((hO6.setCell (by simp; omega) _).setCell (by simp; omega) _).setCell (by simp; omega) _
        have hph7 : Pts (((w6.setCell ⟨w1.heap.size, 1, none⟩ (.int .i64 n)).setCell ⟨w1.heap.size, 2, none⟩ (.slice A3 bs.length a3)).setCell ⟨w1.heap.size, 3, none⟩ (.slice A4 ss.length a4)) A hd := HFR.out.1 _ _ _ (HFR.out.1 _ _ _ (HFR.out.1 _ _ _ hph6))
        have hi37 : Ints (((w6.setCell ⟨w1.heap.size, 1, none⟩ (.int .i64 n)).setCell ⟨w1.heap.size, 2, none⟩ (.slice A3 bs.length a3)).setCell ⟨w1.heap.size, 3, none⟩ (.slice A4 ss.length a4)) A3 bs := ((hi36.set_new HNN.out.1 (by simp) _).set_new HNN.out.1 (by simp) _).set_new HNN.out.1 (by simp) _
        have hi47 : Ints (((w6.setCell ⟨w1.heap.size, 1, none⟩ (.int .i64 n)).setCell ⟨w1.heap.size, 2, none⟩ (.slice A3 bs.length a3)).setCell ⟨w1.heap.size, 3, none⟩ (.slice A4 ss.length a4)) A4 ss := ((hi46.set_new HNN.out.2.2.1 (by simp) _).set_new HNN.out.2.2.1 (by simp) _).set_new HNN.out.2.2.1 (by simp) _
        clear c1 f1 c2 f2 c3 f3 bt6 br6 hO6 hph6 hi36 hi46 hlt
        generalize (((w6.setCell ⟨w1.heap.size, 1, none⟩ (.int .i64 n)).setCell ⟨w1.heap.size, 2, none⟩ (.slice A3 bs.length a3)).setCell ⟨w1.heap.size, 3, none⟩ (.slice A4 ss.length a4)) = w7 at *
        have HT : Hid (TotR w7 A A3 A4 ⟨hd, n, bs, ss⟩) := Lib.hid ⟨hph7, hi37, hi47⟩
        clear hph7 hi37 hi47
        have t0 := bt7.cell_ 0 _ rfl
        have t1 := bt7.cell_ 1 _ rfl
        have t2 := bt7.cell_ 2 _ rfl
        have t3 := bt7.cell_ 3 _ rfl
        by_cases k3 : n < 3
        · have d3 : decide (n < 3) = true := decide_eq_true k3
          have HK := Lib.hid k3
          clear k3
          have HZZ : Hid (partG (partsG bd) hd = (zeroT, 5)) := Lib.hid (by rw [HE.out, if_neg]; rintro ⟨h, _⟩; have := HK.out; omega)
          have br := br7
          have r0 := br.cell_ 0 _ rfl
          have r1 := br.cell_ 1 _ rfl
          have r2 := br.cell_ 2 _ rfl
          have r3 := br.cell_ 3 _ rfl
          have g0 := br.frozen 0
          have g1 := br.frozen 1
          have g2 := br.frozen 2
          have g3 := br.frozen 3
          have HOZ := Lib.hid (hO7)
          clear br
          go_wp2_with fail
          refine bodyPost_ret (v := .tuple #[.agg #[.slice none 0 0, .int .i64 0, .slice none 0 0, .slice none 0 0], .int .i64 5]) (by simp [results, Tryd.results10, go_sem, r0, r1, r2, r3]) rfl ?_
          show RetTot (partG (partsG bd) hd) w _ _
          rw [HZZ.out]
          exact ⟨none, 0, none, 0, none, 0, rfl, TotR.zero _, below_set4 HOZ.out (Nat.le_refl _) _ _ _ _⟩

        have d3 : decide (n < 3) = false := decide_eq_false k3
        by_cases k8 : 8 < n
        · have d8 : decide (8 < n) = true := decide_eq_true k8
          have HK := Lib.hid k8
          clear k3 k8
          have HZZ : Hid (partG (partsG bd) hd = (zeroT, 5)) := Lib.hid (by rw [HE.out, if_neg]; rintro ⟨_, h, _⟩; have := HK.out; omega)
          have br := br7
          have r0 := br.cell_ 0 _ rfl
          have r1 := br.cell_ 1 _ rfl
          have r2 := br.cell_ 2 _ rfl
          have r3 := br.cell_ 3 _ rfl
          have g0 := br.frozen 0
          have g1 := br.frozen 1
          have g2 := br.frozen 2
          have g3 := br.frozen 3
          have HOZ := Lib.hid (hO7)
          clear br
          go_wp2_with fail
          refine bodyPost_ret (v := .tuple #[.agg #[.slice none 0 0, .int .i64 0, .slice none 0 0, .slice none 0 0], .int .i64 5]) (by simp [results, Tryd.results10, go_sem, r0, r1, r2, r3]) rfl ?_
          show RetTot (partG (partsG bd) hd) w _ _
          rw [HZZ.out]
          exact ⟨none, 0, none, 0, none, 0, rfl, TotR.zero _, below_set4 HOZ.out (Nat.le_refl _) _ _ _ _⟩

        have d8 : decide (8 < n) = false := decide_eq_false k8
        have HR := right_any A A3 A4 a a3 a4 ⟨hd, n, bs, ss⟩ w7 HT.out
        unfold totV at HR
        obtain ⟨kr, hkr⟩ : ∃ k, k = rightT ⟨hd, n, bs, ss⟩ := ⟨_, rfl⟩
        rw [← hkr] at HR
        have HKR : Hid ((3 ≤ n ∧ n ≤ 8) ∧ kr = rightT ⟨hd, n, bs, ss⟩) := Lib.hid ⟨by omega, hkr⟩
        have HR2 := Lib.hid HR
        clear HR hkr k3 k8
        go_wp2_with fail
        refine HR2.out.mono ?_
        rintro e w8 ⟨rfl, hb8⟩
        have bt8 := bt7.below hb8 bt7.lt
        have br8 := br7.below hb8 br7.lt
        have hO8 := hO7.trans (hb8.mono hO7.size)
        have HT8 := Lib.hid (HT.out.ext hb8)
        clear bt7 br7 hO7 hb8 HT t0 t1 t2 t3
        have t0 := bt8.cell_ 0 _ rfl
        have t1 := bt8.cell_ 1 _ rfl
        have t2 := bt8.cell_ 2 _ rfl
        have t3 := bt8.cell_ 3 _ rfl
        cases kr
        · have HZZ : Hid (partG (partsG bd) hd = (zeroT, 5)) := Lib.hid (by rw [HE.out, if_neg]; rintro ⟨_, _, h⟩; rw [← HKR.out.2] at h; cases h)
          have br := br8
          have r0 := br.cell_ 0 _ rfl
          have r1 := br.cell_ 1 _ rfl
          have r2 := br.cell_ 2 _ rfl
          have r3 := br.cell_ 3 _ rfl
          have g0 := br.frozen 0
          have g1 := br.frozen 1
          have g2 := br.frozen 2
          have g3 := br.frozen 3
          have HOZ := Lib.hid (hO8)
          clear br
          go_wp2_with fail
          refine bodyPost_ret (v := .tuple #[.agg #[.slice none 0 0, .int .i64 0, .slice none 0 0, .slice none 0 0], .int .i64 5]) (by simp [results, Tryd.results10, go_sem, r0, r1, r2, r3]) rfl ?_
          show RetTot (partG (partsG bd) hd) w _ _
          rw [HZZ.out]
          exact ⟨none, 0, none, 0, none, 0, rfl, TotR.zero _, below_set4 HOZ.out (Nat.le_refl _) _ _ _ _⟩

        have HZZ : Hid (partG (partsG bd) hd = (⟨hd, n, bs, ss⟩, 0)) := Lib.hid (by rw [HE.out, if_pos ⟨HKR.out.1.1, HKR.out.1.2, HKR.out.2.symm⟩])
        have r0 := br8.cell_ 0 _ rfl
        have r1 := br8.cell_ 1 _ rfl
        have r2 := br8.cell_ 2 _ rfl
        have r3 := br8.cell_ 3 _ rfl
        have g0 := br8.frozen 0
        have g1 := br8.frozen 1
        have g2 := br8.frozen 2
        have g3 := br8.frozen 3
        have HOZ := Lib.hid hO8
        have HNH := Lib.hid HFR.out.2
        clear br8 bt8 hO8
        go_wp2_with fail
        refine bodyPost_ret (v := .tuple #[.agg #[.slice A hd.length a, .int .i64 n, .slice A3 bs.length a3, .slice A4 ss.length a4], .int .i64 0]) (by simp [results, Tryd.results10, go_sem, r0, r1, r2, r3]) rfl ?_
        show RetTot (partG (partsG bd) hd) w _ _
        rw [HZZ.out]
        exact ⟨A, a, A3, a3, A4, a4, rfl, HT8.out.set4 HNH.out HNN.out.2.1 HNN.out.2.2.2 _ _ _ _, below_set4 HOZ.out (Nat.le_refl _) _ _ _ _⟩
    · have HPN : Hid (partG (partsG bd) hd = (zeroT, 15)) := Lib.hid (by rw [parts_none k1]; rfl)
      have W1 := split_any bd wc HC.out.2.2.2.2.2.2 (by have := HL.out; omega)
      obtain ⟨n, hn⟩ : ∃ n, n = bd.count 47 + 1 := ⟨_, rfl⟩
      rw [← hn] at W1
      have d1 : ((n : Int) != 3) = true := by rw [hn, bne_iff_ne]; omega
      have HW := Lib.hid W1
      clear W1 hn k1
      go_wp2_with fail
      refine HW.out.mono ?_
      rintro e w2 ⟨rfl, o, rfl⟩
      have br := HC.out.2.1.alloc o
      have r0 := br.cell_ 0 _ rfl
      have r1 := br.cell_ 1 _ rfl
      have r2 := br.cell_ 2 _ rfl
      have r3 := br.cell_ 3 _ rfl
      have g0 := br.frozen 0
      have g1 := br.frozen 1
      have g2 := br.frozen 2
      have g3 := br.frozen 3
      have HOZ := Lib.hid (HC.out.2.2.2.2.2.1.alloc HC.out.2.2.2.2.2.1.size o)
      clear br
      go_wp2_with fail
      refine bodyPost_ret (v := .tuple #[.agg #[.slice none 0 0, .int .i64 0, .slice none 0 0, .slice none 0 0], .int .i64 15]) (by simp [results, Tryd.results10, go_sem, r0, r1, r2, r3]) rfl ?_
      show RetTot (partG (partsG bd) hd) w _ _
      rw [HPN.out]
      exact ⟨none, 0, none, 0, none, 0, rfl, TotR.zero _, below_set4 HOZ.out (Nat.le_refl _) _ _ _ _⟩

theorem gparse_any (s : ByteArray) (w : World) (hg : Glob w) (hs : s.data.toList.length ≤ 2147483648) :
    Calls Tryd.prog 10 #[.string s] w (RetTot (parseG s.data.toList) w) := parseG_any s.data.toList w hg hs
end Go.Proofs.YtaofninfjdepfaaDoor
