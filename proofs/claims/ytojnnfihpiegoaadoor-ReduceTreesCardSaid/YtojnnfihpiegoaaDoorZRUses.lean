/-
  cellularref13.Uses. No condition but that the number is one of Go's.
-/
import Derived.Test.YtojnnfihpiegoaaDoorZCi
import Derived.Test.YtojnnfihpiegoaaDoorZCj
namespace Go.Proofs.YtojnnfihpiegoaaDoor
open Go.RowKit
set_option maxRecDepth 100000
set_option linter.unusedVariables false
set_option linter.unusedSimpArgs false

theorem any_take_step {α : Type} {p : α → Bool} {l : List α} {m : Nat} (hm : m < l.length) (h : (l.take m).any p = false) (h2 : p l[m] = false) : (l.take (m + 1)).any p = false := by
  rw [List.take_succ_eq_append_getElem hm, List.any_append, h]
  simp [h2]
theorem any_hit {α : Type} {p : α → Bool} {l : List α} {m : Nat} (hm : m < l.length) (h2 : p l[m] = true) : l.any p = true := by
  rw [List.any_eq_true]
  exact ⟨l[m], List.getElem_mem hm, h2⟩
set_option maxHeartbeats 16000000 in
theorem ruses_any (st : Int) (A : Option Addr) (c : Nat) (ps : List (Int × Int)) (B : Option Addr) (d : Nat) (hs : List Hd) (k : Int) (w : World) (hp : Pts w A ps) (hN : Nds w B hs) (hk : -9223372036854775808 ≤ k ∧ k ≤ 9223372036854775807) :
    Calls Tryd.prog 17 #[.agg #[.int .i64 st, .slice A ps.length c, .slice B hs.length d], .int .i64 k] w fun e w' => e = .returned (.bool (usesP ⟨st, ps, hs.map Hd.nd⟩ k)) ∧ Below w.heap.size w w' := by
  rw [usesP_eq]
  have hlen : ∀ x ∈ (redT ⟨st, ps, hs.map Hd.nd⟩).ns, ((x.2.length : Int) = (redT ⟨st, ps, hs.map Hd.nd⟩).st ∧ 0 < x.2.length ∧ x.2.length ≤ 8) ∧ (redT ⟨st, ps, hs.map Hd.nd⟩).ns.length ≤ 4096 := by
    intro x hx
    cases h : PT.right ⟨st, ps, hs.map Hd.nd⟩ with
    | false => rw [redT_bad h] at hx; exact absurd hx (by simp [PT.zero])
    | true =>
      obtain ⟨a1, a2, a3, a4, a5, a6, a7, a8, a9⟩ := rightN_parts h
      obtain ⟨o1, -, -, -, o5, o6, o7⟩ := redT_ok h
      obtain ⟨i, hi, rfl⟩ := List.getElem_of_mem hx
      have h2 := o1.lev.len i hi
      rw [ndAt_get _ hi] at h2
      change (redT ⟨st, ps, hs.map Hd.nd⟩).st = st at o6
      change 2 ≤ st at a1
      change st ≤ 8 at a2
      change (hs.map Hd.nd).length ≤ 4096 at a5
      change _ ≤ (hs.map Hd.nd).length at o5
      change _ = st.toNat at h2
      exact ⟨⟨by omega, by omega, by omega⟩, by omega⟩
  have hLl : (redT ⟨st, ps, hs.map Hd.nd⟩).ps.length ≤ 25 := by
    cases h : PT.right ⟨st, ps, hs.map Hd.nd⟩ with
    | false => rw [redT_bad h]; simp [PT.zero]
    | true =>
      obtain ⟨a1, a2, a3, a4, a5, a6, a7, a8, a9⟩ := rightN_parts h
      obtain ⟨-, -, -, -, -, -, o7⟩ := redT_ok h
      rw [o7]
      exact a7
  obtain ⟨v1, hv1⟩ : ∃ v1, v1 = w.alloc (.cells #[.int .i64 st, .slice A ps.length c, .slice B hs.length d] 25) := ⟨_, rfl⟩
  have b1 : Below w.heap.size w v1 := by rw [hv1]; exact below_new _ _
  have q1 : Blk v1 w.heap.size 25 #[.int .i64 st, .slice A ps.length c, .slice B hs.length d] := by rw [hv1]; exact Blk.new _ _ _
  have HCALL := Lib.hid (rreduce_any st A c ps B d hs v1 (hp.ext b1) (hN.ext b1))
  have c0 := q1.cell_ 0 (.int .i64 st) rfl
  have c1 := q1.cell_ 1 (.slice A ps.length c) rfl
  have c2 := q1.cell_ 2 (.slice B hs.length d) rfl
  have HW := Lib.hid hv1
  have HB1 := Lib.hid b1
  have HKR := Lib.hid hk
  obtain ⟨r, hr⟩ : ∃ r, r = redT ⟨st, ps, hs.map Hd.nd⟩ := ⟨_, rfl⟩
  rw [← hr] at HCALL hlen hLl ⊢
  have HLEN := Lib.hid hlen
  have HLL := Lib.hid hLl
  clear hv1 b1 q1 hp hN hk hr hlen hLl
  obtain ⟨b, hb⟩ : ∃ b, b = (decide (0 ≤ k) && r.ns.any (useN r.ps.length k)) := ⟨_, rfl⟩
  rw [← hb]
  have HRES := Lib.hid hb
  clear hb
  go_enter Tryd.func17, Tryd.ntmps17
  go_upto_region 1 with fail
  rw [← HW.out]
  go_upto_region 2 with (go_at_call 13; refine HCALL.out.mono ?_; rintro e w2 ⟨v2, rfl, ⟨A2, c2', B2, d2, os, rfl, hp2, hn2, he2⟩, hb2⟩; refine Hid.out ?_)
  refine Lib.hid ?_
  clear HCALL c0 c1 c2
  go_upto_region 2 with fail
  obtain ⟨W, hW⟩ : ∃ W, W = w2.alloc (.cells #[.int .i64 r.st, .slice A2 r.ps.length c2', .slice B2 os.length d2] 25) := ⟨_, rfl⟩
  have hbW : Below w2.heap.size w2 W := by rw [hW]; exact below_new _ _
  have hG : Blk W w2.heap.size 25 #[.int .i64 r.st, .slice A2 r.ps.length c2', .slice B2 os.length d2] := by rw [hW]; exact Blk.new _ _ _
  obtain ⟨Px, hPx⟩ : ∃ Px, Px = w2.heap.size := ⟨_, rfl⟩
  rw [← hPx] at hG
  have HG := Lib.hid hG
  have HN := Lib.hid (hn2.ext hbW)
  have HE := Lib.hid he2
  have HBW : Hid (Below w.heap.size w W) := Lib.hid ((HB1.out.trans (hb2.mono HB1.out.size)).trans (hbW.mono (Nat.le_trans HB1.out.size hb2.size)))
  rw [← hW, ← hPx]
  have hol : os.length ≤ 4096 := by
    cases hos : os with
    | nil => simp
    | cons x xs =>
      have h1 := (HLEN.out x.nd (by rw [← he2, hos]; simp)).2
      rw [← he2, List.length_map] at h1
      rw [← hos]
      exact h1
  clear hb2 hp2 hn2 he2 hW hbW hG hPx
  go_wp2
  go_loopw [6] (fun i wr => ∃ m : Nat, m ≤ os.length ∧ i = .int .i64 m ∧ Hid (Qt W wr) ∧ Hid (0 ≤ k → (r.ns.take m).any (useN r.ps.length k) = false)) (fun i _ => os.length - (intOf i).toNat)
  case atStart => exact ⟨0, Nat.zero_le _, rfl, Lib.hid (Qt.refl _), Lib.hid (fun _ => by simp)⟩
  case round =>
    obtain ⟨i, hi, rfl, HQ, HNO⟩ := hrel
    have hbq := HQ.out.below W.heap.size
    have g1 := HG.out.below hbq HG.out.lt
    have g1' := g1.cell_ 2 (.slice B2 os.length d2) rfl
    have g0' := g1.cell_ 0 (.int .i64 r.st) rfl
    have hwi : wrap64 ((i : Int) + 1) = (i : Int) + 1 := by unfold wrap64; omega
    by_cases hil : i < os.length
    · have hx := HLEN.out os[i].nd (by rw [← HE.out]; exact List.mem_map.2 ⟨_, List.getElem_mem hil, rfl⟩)
      have hil2 : i < r.ns.length := by rw [← HE.out, List.length_map]; exact hil
      have hri : r.ns[i] = os[i].nd := by
        have h := HE.out
        have : (os.map Hd.nd)[i]'(by rw [List.length_map]; exact hil) = os[i].nd := List.getElem_map ..
        rw [← this]
        congr 1
        exact h.symm
      obtain ⟨nb, no, eb, -, hat⟩ : ∃ b o, B2 = some ⟨b, o, none⟩ ∧ True ∧ ∀ V, Qt W V → V.cell? ⟨b, o + i * 2, none⟩ = some (.int .i64 os[i].lv) ∧ V.cell? ⟨b, o + i * 2 + 1, none⟩ = some (.slice os[i].A os[i].zs.length os[i].c) ∧ Ints V os[i].A os[i].zs := by
        obtain ⟨b, o, e1, -, -, -, -⟩ := HN.out.at_ hil
        refine ⟨b, o, e1, trivial, fun V hV => ?_⟩
        obtain ⟨b', o', e2, -, h1, h2, h3⟩ := (HN.out.ext (hV.below W.heap.size)).at_ hil
        rw [e1] at e2
        injection e2 with e2
        injection e2 with e3 e4
        subst e3 e4
        exact ⟨h1, h2, h3⟩
      have HAT := Lib.hid hat
      have HNS : Hid ((0 ≤ k → useN r.ps.length k os[i].nd = false) → 0 ≤ k → (r.ns.take (i + 1)).any (useN r.ps.length k) = false) := Lib.hid (fun h h0 => any_take_step hil2 (HNO.out h0) (by rw [hri]; exact h h0))
      have HYES : Hid (0 ≤ k → useN r.ps.length k os[i].nd = true → r.ns.any (useN r.ps.length k) = true) := Lib.hid (fun _ h => any_hit hil2 (by rw [hri]; exact h))
      obtain ⟨x, hxe⟩ : ∃ x, x = os[i] := ⟨_, rfl⟩
      rw [← hxe] at hx HAT HNS HYES
      obtain ⟨lv, zA, zc, zs⟩ := x
      change ((zs.length : Int) = r.st ∧ 0 < zs.length ∧ zs.length ≤ 8) ∧ _ at hx
      obtain ⟨⟨hx0, hx2, hx3⟩, -⟩ := hx
      have hx1 := hx0.symm
      clear hx0
      have HUSE : Hid (useN r.ps.length k (lv, zs) = ((lv == (r.ps.length : Int) - k) && zs.any (neP zs))) := Lib.hid rfl
      change Hid ((0 ≤ k → useN r.ps.length k (lv, zs) = false) → _) at HNS
      change Hid (0 ≤ k → useN r.ps.length k (lv, zs) = true → _) at HYES
      rw [HUSE.out] at HNS HYES
      have HIL := Lib.hid hil
      have HX2 := Lib.hid (And.intro hx2 hx3)
      obtain ⟨W1, hW1⟩ : ∃ W1, W1 = wr := ⟨_, rfl⟩
      subst eb
      rw [hx1] at g0'
      have HX1 := Lib.hid hx1
      clear hxe hat hil2 hri hx1 hx2 hx3 hbq g1
      go_wp2
      rw [← hW1]
      have HQ1 : Hid (Qt W W1) := Lib.hid (by rw [hW1]; exact HQ.out)
      clear g1' g0' hW1 HQ hil
      go_loopw [7] (fun s wi => ∃ m : Nat, m ≤ zs.length ∧ s = .int .i64 m ∧ Hid (Qt W wi) ∧ Hid (0 ≤ k → ((lv == (r.ps.length : Int) - k) && (zs.take m).any (neP zs)) = false)) (fun s _ => zs.length - (intOf s).toNat)
      case atStart => exact ⟨0, Nat.zero_le _, rfl, HQ1, Lib.hid (fun _ => by simp)⟩
      case round =>
        obtain ⟨m, hm, rfl, HQI, HNI⟩ := hrel
        have g2 := HG.out.below (HQI.out.below W.heap.size) HG.out.lt
        have g20 := g2.cell_ 0 (.int .i64 r.st) rfl
        rw [HX1.out] at g20
        have g21 := g2.cell_ 1 (.slice A2 r.ps.length c2') rfl
        have g22 := g2.cell_ 2 (.slice (some ⟨nb, no, none⟩) os.length d2) rfl
        obtain ⟨h0, h1, hzi⟩ := HAT.out _ HQI.out
        have hwm : wrap64 ((m : Int) + 1) = (m : Int) + 1 := by have := HX2.out; unfold wrap64; omega
        have hil := HIL.out
        clear g2
        by_cases hml : m < zs.length
        · obtain ⟨bz, oz, ez, -, hcm⟩ := hzi.at_ hml
          obtain ⟨bz', oz', ez', -, hc0⟩ := hzi.at_ HX2.out.1
          rw [ez] at ez'
          injection ez' with ez'
          injection ez' with e3 e4
          subst e3 e4
          have hzp := HX2.out.1
          have hzp2 : (0 : Int) < (zs.length : Int) := by omega
          have hzp3 : zs ≠ [] := by rintro rfl; exact absurd hzp (by simp)
          have hwk : 0 ≤ k → wrap64 ((r.ps.length : Int) - k) = (r.ps.length : Int) - k := fun h => by have := HKR.out; have := HLL.out; unfold wrap64; omega
          have HST0 : Hid (∀ z, z = zs[m] → (zs.take m).any (neP zs) = false → neP zs z = false → (zs.take (m + 1)).any (neP zs) = false) := Lib.hid (fun z e h h2 => any_take_step hml h (by rw [← e]; exact h2))
          have HHIT0 : Hid (∀ z, z = zs[m] → neP zs z = true → zs.any (neP zs) = true) := Lib.hid (fun z e h => any_hit hml (by rw [← e]; exact h))
          obtain ⟨z, hz⟩ : ∃ z, z = zs[m] := ⟨_, rfl⟩
          obtain ⟨z0, hz0⟩ : ∃ z0, z0 = zs[0]'hzp := ⟨_, rfl⟩
          have hne : neP zs z = (z != z0) := by
            unfold neP
            rw [hz0, List.getD_eq_getElem?_getD, List.getElem?_eq_getElem hzp]
            rfl
          have HST := Lib.hid (HST0.out z hz)
          have HHIT := Lib.hid (HHIT0.out z hz)
          rw [hne] at HST HHIT
          rw [← hz] at hcm
          rw [← hz0, Nat.add_zero] at hc0
          subst ez
          have HML := Lib.hid hml
          clear HST0 HHIT0 hz hz0 hne hzi
          by_cases hk : 0 ≤ k
          · have d1 : decide (0 ≤ k) = true := decide_eq_true hk
            have hwk := hwk hk
            have HNI := Lib.hid (HNI.out hk)
            have HK := Lib.hid hk
            clear hk
            have hwq : IntKind.i64.wrap ((r.ps.length : Int) - k) = (r.ps.length : Int) - k := IntWalk.i64_in _ (by have := HKR.out; have := HLL.out; have := HK.out; omega)
            by_cases hl : lv = (r.ps.length : Int) - k
            · have d2 : (lv == (r.ps.length : Int) - k) = true := by simpa using hl
              rw [d2] at HNI HYES
              have HNI : Hid ((zs.take m).any (neP zs) = false) := Lib.hid (by have := HNI.out; simpa using this)
              by_cases hz : z = z0
              · have d3 : (z != z0) = false := by simp [hz]
                have HNX : Hid (0 ≤ k → ((lv == (r.ps.length : Int) - k) && (zs.take (m + 1)).any (neP zs)) = false) := Lib.hid (fun _ => by rw [HST.out HNI.out d3]; simp)
                clear hl hz
                go_wp2
                go_quiet (fail)
                go_wp2
                go_roundw
                case rel => exact ⟨m + 1, HML.out, (by first | rfl | (rw [hwm]; rfl)), Lib.hid (HQI.out.step _), HNX⟩
                case measure => (try rw [hwm]); have := HML.out; simp [intOf]; omega
              · have d3 : (z != z0) = true := by simp [hz]
                have HB2 : Hid (b = true) := Lib.hid (by
                  rw [HRES.out, decide_eq_true HK.out, HYES.out HK.out (by rw [HHIT.out d3]; rfl)]
                  rfl)
                clear hl hz
                go_wp2
                go_quiet (fail)
                go_wp2
                go_ret
                exact ⟨ret_bool (by rw [HB2.out] <;> rfl), below_drewN (HBW.out.trans ((HQI.out.below W.heap.size).mono HBW.out.size)) _⟩
            · have d2 : (lv == (r.ps.length : Int) - k) = false := by simpa using hl
              have HNX : Hid (0 ≤ k → ((lv == (r.ps.length : Int) - k) && (zs.take (m + 1)).any (neP zs)) = false) := Lib.hid (fun _ => by rw [d2]; rfl)
              clear hl
              go_wp2
              go_quiet (fail)
              go_wp2
              go_roundw
              case rel => exact ⟨m + 1, HML.out, (by first | rfl | (rw [hwm]; rfl)), Lib.hid (HQI.out.step _), HNX⟩
              case measure => (try rw [hwm]); have := HML.out; simp [intOf]; omega
          · have d1 : decide (0 ≤ k) = false := decide_eq_false hk
            have HNX : Hid (0 ≤ k → ((lv == (r.ps.length : Int) - k) && (zs.take (m + 1)).any (neP zs)) = false) := Lib.hid (fun h => absurd h hk)
            clear hk hwk
            go_wp2
            go_quiet (fail)
            go_wp2
            go_roundw
            case rel => exact ⟨m + 1, HML.out, (by first | rfl | (rw [hwm]; rfl)), Lib.hid (HQI.out.step _), HNX⟩
            case measure => (try rw [hwm]); have := HML.out; simp [intOf]; omega
        · have hmz : m = zs.length := by omega
          have HNX := Lib.hid (HNS.out (fun h => by
            have := HNI.out h
            rwa [hmz, List.take_length] at this))
          clear hmz
          go_wp2
          go_roundw
          case rel => exact ⟨i + 1, HIL.out, (by first | rfl | (rw [hwi]; rfl)), HQI, HNX⟩
          case measure => (try rw [hwi]); have := HIL.out; simp [intOf]; omega
    · have hio : i = os.length := by omega
      have HB2 : Hid (b = false) := Lib.hid (by
        rw [HRES.out]
        by_cases h : 0 ≤ k
        · have := HNO.out h
          rw [hio, show os.length = r.ns.length from by rw [← HE.out, List.length_map], List.take_length] at this
          rw [this]
          simp
        · rw [decide_eq_false h]; rfl)
      clear hio g0'
      go_wp2
      go_ret
      exact ⟨ret_bool (by rw [HB2.out] <;> rfl), HBW.out.trans (hbq.mono HBW.out.size)⟩
end Go.Proofs.YtojnnfihpiegoaaDoor
