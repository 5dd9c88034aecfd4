/-
  tree.Eval. No condition.
  symmetry.Inverse. No condition but the table of the matrices.
-/
import Derived.Test.YtojnnfihpiegoaaDoorZCo
import Derived.ChangeKeysEq
namespace Go.Proofs.YtojnnfihpiegoaaDoor
open Go.RowKit
set_option maxRecDepth 100000
set_option linter.unusedVariables false
set_option linter.unusedSimpArgs false

set_option maxHeartbeats 4000000 in
theorem tvalue_any (st : Int) (A : Option Addr) (n c : Nat) (B : Option Addr) (d : Nat) (hs : List Hd) (Av : Option Addr) (cv : Nat) (ins : List Nat) (w : World) (hN : Nds w B hs) (hv : Ints w Av (ins.map fun (s : Nat) => (s : Int)))
    (q : Nat) (hV : VNd q (hs.map Hd.nd)) (hp : 0 < hs.length) (hroot : (ndAt (hs.map Hd.nd) (hs.length - 1)).1 = (ins.length : Int)) (hq : ∀ s ∈ ins, s < q) :
    Calls Tryd.prog 58 #[.agg #[.int .i64 st, .slice A n c, .slice B hs.length d], .slice Av ins.length cv] w fun e w' => e = .returned (.int .i64 (val (hs.map Hd.nd) ((hs.length - 1 : Nat) : Int) ins)) ∧ Below w.heap.size w w' := by
  obtain ⟨w0, hw0⟩ : ∃ w0, w0 = w.alloc (.cells #[.int .i64 st, .slice A n c, .slice B hs.length d] 25) := ⟨_, rfl⟩
  have hb0 : Below w.heap.size w w0 := by rw [hw0]; exact below_new _ _
  have p0 : Blk w0 w.heap.size 25 #[.int .i64 st, .slice A n c, .slice B hs.length d] := by rw [hw0]; exact Blk.new _ _ _
  have hlN := hN.le
  have hlI := hv.le
  rw [List.length_map] at hlI
  obtain ⟨N1, hN1⟩ : ∃ N1, N1 = hs.length - 1 := ⟨_, rfl⟩
  have hwN : wrap64 ((hs.length : Int) - 1) = (N1 : Int) := by unfold wrap64; omega
  have HN1 : Hid (N1 < hs.length) := Lib.hid (by omega)
  rw [← hN1] at hroot ⊢
  obtain ⟨r, hr⟩ : ∃ r, r = val (hs.map Hd.nd) (N1 : Int) ins := ⟨_, rfl⟩
  rw [← hr]
  have HR := Lib.hid hr
  have HRT := Lib.hid hroot
  have HV := Lib.hid hV
  have HQ := Lib.hid hq
  have HB0 := Lib.hid hb0
  have HP0 := Lib.hid p0
  have HW0 := Lib.hid hw0
  have HN := Lib.hid (hN.ext hb0)
  have HI := Lib.hid (hv.ext hb0)
  have HLI := Lib.hid hlI
  have c2 := p0.cell_ 2 (.slice B hs.length d) rfl
  clear hb0 p0 hw0 hN hv hV hp hroot hq hr hN1 hlN hlI
  go_enter Tryd.func58, Tryd.ntmps58
  go_upto_region 1 with fail
  rw [← HW0.out]
  go_wp2
  clear c2
  go_loopw [5, 14] (fun kv iv wr => ∃ (cur : Int) (i : Nat), kv = .int .i64 cur ∧ iv = .int .i64 i ∧ i ≤ ins.length ∧ Hid (Below w0.heap.size w0 wr) ∧ Hid (val (hs.map Hd.nd) cur (ins.drop i) = r) ∧ Hid (i < ins.length → 0 ≤ cur ∧ cur.toNat < hs.length ∧ (ndAt (hs.map Hd.nd) cur.toNat).1 = ((ins.length - i : Nat) : Int))) (fun _ iv _ => ins.length - (intOf iv).toNat)
  case atStart => exact ⟨(N1 : Int), 0, (by first | rfl | (rw [hwN])), rfl, Nat.zero_le _, Lib.hid (Below.refl _ _), Lib.hid HR.out.symm, Lib.hid (fun _ => ⟨Int.natCast_nonneg _, by rw [Int.toNat_natCast]; exact HN1.out, by rw [Int.toNat_natCast]; exact HRT.out⟩)⟩
  case round =>
    obtain ⟨cur, i, rfl, rfl, hi, HBR, HVL, HC⟩ := hrel
    clear hwN
    have c2 := (HP0.out.below HBR.out HP0.out.lt).cell_ 2 (.slice B hs.length d) rfl
    by_cases hil : i < ins.length
    · have hwi : wrap64 ((i : Int) + 1) = (i : Int) + 1 := by have := HLI.out; unfold wrap64; omega
      obtain ⟨k0, k1, k2⟩ := HC.out hil
      obtain ⟨kn, hkn⟩ : ∃ kn : Nat, cur = kn := ⟨cur.toNat, (Int.toNat_of_nonneg k0).symm⟩
      subst hkn
      rw [Int.toNat_natCast] at k1 k2
      have hk1' : kn < (hs.map Hd.nd).length := by rw [List.length_map]; exact k1
      obtain ⟨b, o, e, -, g0, g1, gz⟩ := (HN.out.ext HBR.out).at_ k1
      have hnd := ndl_at hs k1
      have hzl := HV.out.lev.len kn hk1'
      have hkids := HV.out.lev.kids kn hk1'
      obtain ⟨x, hx⟩ : ∃ x, x = hs[kn] := ⟨_, rfl⟩
      rw [← hx] at g0 g1 gz hnd
      obtain ⟨lv, zA, zc, zs⟩ := x
      dsimp only at g0 g1 gz
      change ndAt (hs.map Hd.nd) kn = (lv, zs) at hnd
      rw [hnd] at hzl hkids k2
      dsimp only at hzl hkids k2
      have hil2 : i < (ins.map fun (s : Nat) => (s : Int)).length := by rw [List.length_map]; exact hil
      obtain ⟨b2, o2, e2, -, gi⟩ := (HI.out.ext HBR.out).at_ hil2
      rw [List.getElem_map] at gi
      have hsq := HQ.out _ (List.getElem_mem hil)
      have hdrop := List.drop_eq_getElem_cons hil
      obtain ⟨s, hs'⟩ : ∃ s, s = ins[i] := ⟨_, rfl⟩
      rw [← hs'] at gi hsq hdrop
      have hsz : s < zs.length := by rw [hzl]; exact hsq
      obtain ⟨b3, o3, e3, -, gk⟩ := gz.at_ hsz
      have hgd : zs.getD s 0 = zs[s] := by rw [List.getD_eq_getElem?_getD, List.getElem?_eq_getElem hsz]; rfl
      obtain ⟨z, hz⟩ : ∃ z, z = zs[s] := ⟨_, rfl⟩
      have hzm : z ∈ zs := by rw [hz]; exact List.getElem_mem hsz
      rw [← hz] at gk hgd
      have hv2 := HVL.out
      rw [hdrop] at hv2
      simp only [val, Int.toNat_natCast, hnd, hgd] at hv2
      have HV2 := Lib.hid hv2
      have HC2 : Hid (i + 1 < ins.length → 0 ≤ z ∧ z.toNat < hs.length ∧ (ndAt (hs.map Hd.nd) z.toNat).1 = ((ins.length - (i + 1) : Nat) : Int)) := Lib.hid (fun h => by
        obtain ⟨m1, m2, m3⟩ := hkids (by omega) z hzm
        rw [List.length_map] at m2
        exact ⟨m1, m2, by omega⟩)
      have HIL := Lib.hid hil
      have hsz2 := hsz
      clear hx hs' hz hzm hkids hdrop hv2 k0 hgd hnd gz k2 hzl hsq hi
      subst e e2 e3
      go_wp2
      go_roundw
      case rel => exact ⟨z, i + 1, rfl, (by first | rfl | (rw [hwi]; rfl)), HIL.out, (by first | exact HBR | exact Lib.hid (HBR.out.drew) | exact Lib.hid (below_drewN HBR.out _)), HV2, HC2⟩
      case measure => (try rw [hwi]); exact meas_step HIL.out
    · have hie : i = ins.length := Nat.le_antisymm hi (Nat.le_of_not_lt hil)
      have hv2 := HVL.out
      rw [hie, List.drop_of_length_le (Nat.le_refl _)] at hv2
      have HE : Hid (cur = r) := Lib.hid hv2
      clear hie hv2 hi
      go_wp2
      go_ret
      exact ⟨ret_int (by rw [HE.out]), HB0.out.trans (HBR.out.mono HB0.out.size)⟩
set_option maxHeartbeats 1000000 in
theorem cE_any (n : Int) (Q : Nat) (st : Int) (A2 : Option Addr) (n2 c2 : Nat) (B2 : Option Addr) (m2 d2 : Nat) (w : World) (hq : Blk w Q 25 #[.int .i64 st, .slice A2 n2 c2, .slice B2 m2 d2]) :
    Calls Tryd.prog 57 #[.int .i64 n, .pointer (some ⟨Q, 0, none⟩)] w fun e w' => e = .returned (.bool (badS st n)) ∧ w' = w := by
  have c0 := hq.cell_ 0 (.int .i64 st) rfl
  clear hq
  unfold badS
  by_cases h1 : n < 0
  · have e1 : decide (n < 0) = true := decide_eq_true h1
    rw [e1, Bool.true_or]
    go_enter Tryd.func57, Tryd.ntmps57
    go_wp2
    go_ret
    exact ⟨rfl, rfl⟩
  · have e1 : decide (n < 0) = false := decide_eq_false h1
    rw [e1, Bool.false_or]
    go_enter Tryd.func57, Tryd.ntmps57
    go_wp2
    go_ret
    exact ⟨rfl, rfl⟩
set_option maxHeartbeats 2000000 in
theorem ixE_any (Q : Nat) (st : Int) (A2 : Option Addr) (n2 c2 : Nat) (B2 : Option Addr) (m2 d2 : Nat) (A : Option Addr) (c : Nat) (zs : List Int) (w : World) (hq : Blk w Q 25 #[.int .i64 st, .slice A2 n2 c2, .slice B2 m2 d2]) (hz : Ints w A zs) :
    Calls Tryd.prog 69 #[.slice A zs.length c, .func (.func 57) #[] #[.pointer (some ⟨Q, 0, none⟩)]] w fun e w' => e = .returned (.int .i64 (fI (badS st) zs 0)) ∧ w' = w := by
  have hn := hz.le
  have HZ := Lib.hid hz
  have HQ := Lib.hid hq
  have HN := Lib.hid hn
  clear hz hq hn
  go_enter Tryd.func69, Tryd.ntmps69
  go_wp2
  go_loopw [8] (fun i wr => ∃ k : Nat, k ≤ zs.length ∧ i = .int .i64 k ∧ wr = w ∧ Hid (fI (badS st) zs 0 = fI (badS st) (zs.drop k) k)) (fun i _ => zs.length - (intOf i).toNat)
  case atStart => exact ⟨0, Nat.zero_le _, rfl, rfl, Lib.hid (by simp)⟩
  case round =>
    obtain ⟨k, hk, rfl, rfl, HT⟩ := hrel
    by_cases hlt : k < zs.length
    · obtain ⟨b1, o1, e1, -, hc⟩ := HZ.out.at_ hlt
      have hw1 : wrap64 ((k : Int) + 1) = (k : Int) + 1 := by have := HN.out; unfold wrap64; omega
      have HS := Lib.hid (fI_step (badS st) hlt)
      have hC := cE_any zs[k] Q st A2 n2 c2 B2 m2 d2 wr HQ.out
      obtain ⟨z, hz⟩ : ∃ z, z = zs[k] := ⟨_, rfl⟩
      rw [← hz] at hc HS hC
      have HLT := Lib.hid hlt
      subst e1
      cases hp : badS st z with
      | true =>
        rw [hp] at hC
        have HC := Lib.hid hC
        have HF : Hid (fI (badS st) zs 0 = (k : Int)) := Lib.hid (by rw [HT.out, HS.out, hp]; rfl)
        clear hp hC hz hk
        go_wp2_with (go_at_call 57; refine HC.out.mono ?_; rintro e w1 ⟨rfl, rfl⟩)
        go_ret
        exact ⟨by rw [HF.out] <;> rfl, rfl⟩
      | false =>
        rw [hp] at hC
        have HC := Lib.hid hC
        have HF : Hid (fI (badS st) zs 0 = fI (badS st) (zs.drop (k + 1)) (k + 1)) := Lib.hid (by rw [HT.out, HS.out, hp]; rfl)
        clear hp hC hz hk
        go_wp2_with (go_at_call 57; refine HC.out.mono ?_; rintro e w1 ⟨rfl, rfl⟩)
        go_roundw
        case rel => exact ⟨k + 1, HLT.out, (by first | rfl | (rw [hw1]; rfl)), (by first | rfl | trivial), HF⟩
        case measure => have := HLT.out; first | (rw [hw1]; simp [intOf]; omega) | (simp [intOf]; omega)
    · have HF : Hid (fI (badS st) zs 0 = -1) := Lib.hid (by
        have h := HT.out
        rw [List.drop_of_length_le (by omega)] at h
        exact h)
      go_wp2
      go_ret
      exact ⟨by rw [HF.out] <;> rfl, rfl⟩
set_option maxHeartbeats 1000000 in
theorem ctE_any (Q : Nat) (st : Int) (A2 : Option Addr) (n2 c2 : Nat) (B2 : Option Addr) (m2 d2 : Nat) (A : Option Addr) (c : Nat) (zs : List Int) (w : World) (hq : Blk w Q 25 #[.int .i64 st, .slice A2 n2 c2, .slice B2 m2 d2]) (hz : Ints w A zs) :
    Calls Tryd.prog 40 #[.slice A zs.length c, .func (.func 57) #[] #[.pointer (some ⟨Q, 0, none⟩)]] w fun e w' => e = .returned (.bool (zs.any (badS st))) ∧ w' = w := by
  have HC := Lib.hid (ixE_any Q st A2 n2 c2 B2 m2 d2 A c zs w hq hz)
  rw [← fI_any (badS st) zs 0]
  obtain ⟨r, hr⟩ : ∃ r, r = fI (badS st) zs 0 := ⟨_, rfl⟩
  rw [← hr] at HC ⊢
  clear hr hq hz
  go_enter Tryd.func40, Tryd.ntmps40
  go_wp2_with (go_at_call 69; refine HC.out.mono ?_; rintro e w1 ⟨rfl, rfl⟩)
  go_ret
  exact ⟨rfl, rfl⟩
/-- what Eval hands back -/
def evalP (t : PT) (zs : List Int) : Int × Int :=
  if t.right = true then (if zs.length = t.ps.length then (if zs.any (badS t.st) = true then (0, 10) else (val t.ns ((t.ns.length - 1 : Nat) : Int) (zs.map Int.toNat), 0)) else (0, 2)) else (0, 11)
theorem toNat_back {st : Int} : ∀ {zs : List Int}, zs.any (badS st) = false → (zs.map Int.toNat).map (fun (s : Nat) => (s : Int)) = zs ∧ ∀ s ∈ zs.map Int.toNat, s < st.toNat
  | [], _ => ⟨rfl, by simp⟩
  | z :: r, h => by
    rw [List.any_cons, Bool.or_eq_false_iff] at h
    obtain ⟨h1, h2⟩ := toNat_back h.2
    have h3 := h.1
    simp only [badS, Bool.or_eq_false_iff, decide_eq_false_iff_not] at h3
    refine ⟨?_, ?_⟩
    · rw [List.map_cons, List.map_cons, h1, Int.toNat_of_nonneg (by omega)]
    · intro s hs
      rw [List.map_cons] at hs
      rcases List.mem_cons.1 hs with e | e
      · rw [e]; omega
      · exact h2 s e
set_option maxHeartbeats 4000000 in
theorem eval_any (st : Int) (A : Option Addr) (c : Nat) (ps : List (Int × Int)) (B : Option Addr) (d : Nat) (hs : List Hd) (Av : Option Addr) (cv : Nat) (zs : List Int) (w : World) (hp : Pts w A ps) (hN : Nds w B hs) (hz : Ints w Av zs) :
    Calls Tryd.prog 30 #[.agg #[.int .i64 st, .slice A ps.length c, .slice B hs.length d], .slice Av zs.length cv] w fun e w' => e = .returned (.tuple #[.int .i64 (evalP ⟨st, ps, hs.map Hd.nd⟩ zs).1, .int .i64 (evalP ⟨st, ps, hs.map Hd.nd⟩ zs).2]) ∧ Below w.heap.size w w' := by
  obtain ⟨w0, hw0⟩ : ∃ w0, w0 = w.alloc (.cells #[.int .i64 st, .slice A ps.length c, .slice B hs.length d] 25) := ⟨_, rfl⟩
  have hb0 : Below w.heap.size w w0 := by rw [hw0]; exact below_new _ _
  have q1 : Blk w0 w.heap.size 25 #[.int .i64 st, .slice A ps.length c, .slice B hs.length d] := by rw [hw0]; exact Blk.new _ _ _
  have HW := Lib.hid hw0
  have HB0 := Lib.hid hb0
  have HP0 := Lib.hid q1
  have HR := Lib.hid (right_any st A c ps B d hs w0 (hp.ext hb0) (hN.ext hb0))
  have HNN := Lib.hid (hN.ext hb0)
  have HZ := Lib.hid (hz.ext hb0)
  have HLP := Lib.hid hp.le
  have HLZ := Lib.hid hz.le
  have c0 := q1.cell_ 0 (.int .i64 st) rfl
  have c1 := q1.cell_ 1 (.slice A ps.length c) rfl
  have c2 := q1.cell_ 2 (.slice B hs.length d) rfl
  clear hw0 hb0 q1 hp hN hz
  unfold evalP PT.right
  dsimp only
  cases hr : rightN st ps (hs.map Hd.nd) with
  | false =>
    rw [if_neg (by simp)]
    rw [hr] at HR
    clear hr
    go_enter Tryd.func30, Tryd.ntmps30
    go_upto_region 1 with fail
    rw [← HW.out]
    go_wp2_with (go_at_call 27; refine HR.out.mono ?_)
    rintro e w1 ⟨rfl, hb⟩
    have HBw := Lib.hid (HB0.out.trans (hb.mono HB0.out.size))
    clear hb c0 c1 c2
    go_wp2
    go_ret2
    exact ⟨rfl, HBw.out⟩
  | true =>
    rw [if_pos rfl]
    rw [hr] at HR
    have HRR := Lib.hid hr
    clear hr
    have HRP := Lib.hid (rightN_parts HRR.out)
    by_cases y1 : zs.length = ps.length
    · rw [if_pos y1]
      have hct := fun W (hb : Below w0.heap.size w0 W) => ctE_any w.heap.size st A ps.length c B hs.length d Av cv zs W (HP0.out.below hb HP0.out.lt) (HZ.out.ext hb)
      have d1 : (((zs.length : Nat) : Int) != ((ps.length : Nat) : Int)) = false := by rw [y1]; simp
      cases hb : zs.any (badS st) with
      | true =>
        rw [hb] at hct
        have HCT := Lib.hid hct
        rw [if_pos rfl]
        have HY := Lib.hid y1
        clear hb hct y1
        go_enter Tryd.func30, Tryd.ntmps30
        go_upto_region 1 with fail
        rw [← HW.out]
        go_wp2_with (go_at_call 27; refine HR.out.mono ?_)
        rintro e w1 ⟨rfl, hb⟩
        have HB1 := Lib.hid hb
        have p1 := HP0.out.below hb HP0.out.lt
        have e1 := p1.cell_ 1 (.slice A ps.length c) rfl
        clear hb c0 c1 c2 p1
        go_wp2_with (go_at_call 40; refine (HCT.out w1 HB1.out).mono ?_; intro e w2 hx; obtain ⟨rfl, hw1⟩ := hx; rw [hw1]; clear hw1; refine Hid.out ?_)
        refine Lib.hid ?_
        go_wp2
        go_ret2
        exact ⟨rfl, HB0.out.trans (HB1.out.mono HB0.out.size)⟩
      | false =>
        rw [hb] at hct
        have HCT := Lib.hid hct
        rw [if_neg (by simp)]
        obtain ⟨t1, t2⟩ := toNat_back hb
        have HY := Lib.hid y1
        have hcv := fun W (hb : Below w0.heap.size w0 W) => tvalue_any st A ps.length c B d hs Av cv (zs.map Int.toNat) W (HNN.out.ext hb) (by rw [t1]; exact HZ.out.ext hb) st.toNat HRP.out.2.2.2.2.2.2.2.1 (by have := HRP.out.2.2.2.1; rw [List.length_map] at this; omega) (by
          have h6 := HRP.out.2.2.2.2.2.1
          rw [List.length_map] at h6 ⊢
          rw [h6, y1]) t2
        rw [List.length_map] at hcv ⊢
        obtain ⟨r, hre⟩ : ∃ r, r = val (hs.map Hd.nd) ((hs.length - 1 : Nat) : Int) (zs.map Int.toNat) := ⟨_, rfl⟩
        rw [← hre] at hcv ⊢
        have HCV := Lib.hid hcv
        clear hb hct y1 t1 t2 hcv hre
        go_enter Tryd.func30, Tryd.ntmps30
        go_upto_region 1 with fail
        rw [← HW.out]
        go_wp2_with (go_at_call 27; refine HR.out.mono ?_)
        rintro e w1 ⟨rfl, hb⟩
        have HB1 := Lib.hid hb
        have p1 := HP0.out.below hb HP0.out.lt
        have e0 := p1.cell_ 0 (.int .i64 st) rfl
        have e1 := p1.cell_ 1 (.slice A ps.length c) rfl
        have e2 := p1.cell_ 2 (.slice B hs.length d) rfl
        clear hb c0 c1 c2 p1
        go_wp2_with (go_at_call 40; refine (HCT.out w1 HB1.out).mono ?_; intro e w2 hx; obtain ⟨rfl, hw1⟩ := hx; rw [hw1]; clear hw1; refine Hid.out ?_)
        refine Lib.hid ?_
        go_wp2_with (go_at_call 58; refine (HCV.out w1 HB1.out).mono ?_)
        rintro e w3 ⟨rfl, hb⟩
        have HB3 := Lib.hid (HB0.out.trans ((HB1.out.trans (hb.mono HB1.out.size)).mono HB0.out.size))
        clear hb
        go_wp2
        go_ret2
        exact ⟨rfl, HB3.out⟩
    · rw [if_neg y1]
      have d1 : (((zs.length : Nat) : Int) != ((ps.length : Nat) : Int)) = true := by simp; omega
      have HY := Lib.hid y1
      clear y1
      go_enter Tryd.func30, Tryd.ntmps30
      go_upto_region 1 with fail
      rw [← HW.out]
      go_wp2_with (go_at_call 27; refine HR.out.mono ?_)
      rintro e w1 ⟨rfl, hb⟩
      have HBw := Lib.hid (HB0.out.trans (hb.mono HB0.out.size))
      have p1 := HP0.out.below hb HP0.out.lt
      have e1 := p1.cell_ 1 (.slice A ps.length c) rfl
      clear hb c0 c1 c2 p1
      go_wp2
      go_ret2
      exact ⟨rfl, HBw.out⟩
theorem eval_tv {w : World} {v : Value} {t : PT} {Av : Option Addr} {cv : Nat} {zs : List Int} (h : TreeAt w v t) (hz : Ints w Av zs) :
    Calls Tryd.prog 30 #[v, .slice Av zs.length cv] w fun e w' => e = .returned (.tuple #[.int .i64 (evalP t zs).1, .int .i64 (evalP t zs).2]) ∧ Below w.heap.size w w' := by
  obtain ⟨A, c, B, d, os, rfl, h1, h2, h3⟩ := h
  have := eval_any t.st A c t.ps B d os Av cv zs w h1 h2 hz
  rw [h3] at this
  exact this
end Go.Proofs.YtojnnfihpiegoaaDoor
namespace Go.Proofs.YtojnnfihpiegoaaDoor
open Go.RowKit
set_option maxRecDepth 100000
set_option linter.unusedVariables false
set_option linter.unusedSimpArgs false

theorem Tryd.guard_row : Tryd.prog.eqGuardType Tryd.prog.depth 93 = false := by kernel_rfl
theorem Tryd.infoI3 : ∃ i, Tryd.prog.info? 3 = some i := ⟨_, rfl⟩
theorem Tryd.cellsI3 : Tryd.prog.cellsOf 3 = 1 := by kernel_rfl
theorem eql_row (a b c d m0 m1 m2 m3 : Int) (w : World) : (binOp .eql 93 (.agg #[.int .i64 a, .int .i64 b, .int .i64 c, .int .i64 d]) (.agg #[.int .i64 m0, .int .i64 m1, .int .i64 m2, .int .i64 m3])).run Tryd.prog w = .ok (.bool (a == m0 && (b == m1 && (c == m2 && d == m3)))) w := by
  obtain ⟨i, hi⟩ := Tryd.infoI3
  rw [run_eql_struct, show (10000 : Nat) = 9999 + 1 from rfl, run_equalIn_array w 9999 _ _ Tryd.underlying93 hi, Tryd.cellsI3]
  have hr : List.range 4 = [0, 1, 2, 3] := rfl
  rw [show (9999 : Nat) = 9998 + 1 from rfl]
  cases h1 : (a == m0) <;> cases h2 : (b == m1) <;> cases h3 : (c == m2) <;> cases h4 : (d == m3) <;> simp [go_sem, hr, Op.eqItems, h1, h2, h3, h4]
/-- a row of the matrices that is the given one -/
def rowB (a b c d : Int) (i : Nat) : Bool := a == matL.getD (i * 4) 0 && (b == matL.getD (i * 4 + 1) 0 && (c == matL.getD (i * 4 + 2) 0 && d == matL.getD (i * 4 + 3) 0))
set_option maxHeartbeats 4000000 in
theorem index_any (a b c d : Int) (w : World) (hg : GMat w) :
    Calls Tryd.prog 78 #[.slice (some ⟨0, 0, none⟩) 8 8, .agg #[.int .i64 a, .int .i64 b, .int .i64 c, .int .i64 d]] w fun e w' => e = .returned (.int .i64 (fI (rowB a b c d) (List.range 8) 0)) ∧ Below w.heap.size w w' := by
  obtain ⟨w0, hw0⟩ : ∃ w0, w0 = w.alloc (.cells #[.int .i64 a, .int .i64 b, .int .i64 c, .int .i64 d] 93) := ⟨_, rfl⟩
  have hb0 : Below w.heap.size w w0 := by rw [hw0]; exact below_new _ _
  have q0 : Blk w0 w.heap.size 93 #[.int .i64 a, .int .i64 b, .int .i64 c, .int .i64 d] := by rw [hw0]; exact Blk.new _ _ _
  have HW := Lib.hid hw0
  have HB0 := Lib.hid hb0
  have HQ0 := Lib.hid q0
  have HG := Lib.hid (hg.ext hb0)
  obtain ⟨f, hf⟩ : ∃ f, f = fI (rowB a b c d) (List.range 8) 0 := ⟨_, rfl⟩
  rw [← hf]
  have HF := Lib.hid hf
  clear hw0 hb0 q0 hg hf
  go_enter Tryd.func78, Tryd.ntmps78
  go_upto_region 1 with fail
  rw [← HW.out]
  go_wp2
  go_loopw [8] (fun iv wr => ∃ k : Nat, k ≤ 8 ∧ iv = .int .i64 k ∧ Hid (Below w0.heap.size w0 wr) ∧ Hid (f = fI (rowB a b c d) ((List.range 8).drop k) k)) (fun iv _ => 8 - (intOf iv).toNat)
  case atStart => exact ⟨0, Nat.zero_le _, rfl, Lib.hid (Below.refl _ _), Lib.hid (by rw [HF.out]; rfl)⟩
  case round =>
    obtain ⟨k, hk, rfl, HB, HT⟩ := hrel
    by_cases hlt : k < 8
    · have hw1 : wrap64 ((k : Int) + 1) = (k : Int) + 1 := by unfold wrap64; omega
      have hS := fI_step (rowB a b c d) (l := List.range 8) (k := k) (by simpa using hlt)
      rw [List.getElem_range] at hS
      have hG := HG.out.ext HB.out
      have p := HQ0.out.below HB.out HQ0.out.lt
      have x0 := p.cell_ 0 (.int .i64 a) rfl
      have x1 := p.cell_ 1 (.int .i64 b) rfl
      have x2 := p.cell_ 2 (.int .i64 c) rfl
      have x3 := p.cell_ 3 (.int .i64 d) rfl
      have g0 := hG.2 (k * 4) (by omega)
      have g1 := hG.2 (k * 4 + 1) (by omega)
      have g2 := hG.2 (k * 4 + 2) (by omega)
      have g3 := hG.2 (k * 4 + 3) (by omega)
      unfold rowB at hS
      change fI (rowB a b c d) ((List.range 8).drop k) k = _ at hS
      obtain ⟨m0, e0⟩ : ∃ m, m = matL.getD (k * 4) 0 := ⟨_, rfl⟩
      obtain ⟨m1, e1⟩ : ∃ m, m = matL.getD (k * 4 + 1) 0 := ⟨_, rfl⟩
      obtain ⟨m2, e2⟩ : ∃ m, m = matL.getD (k * 4 + 2) 0 := ⟨_, rfl⟩
      obtain ⟨m3, e3⟩ : ∃ m, m = matL.getD (k * 4 + 3) 0 := ⟨_, rfl⟩
      rw [← e0] at hS g0
      rw [← e1] at hS g1
      rw [← e2] at hS g2
      rw [← e3] at hS g3
      have HLT := Lib.hid hlt
      have HST := Lib.hid (HT.out.trans hS)
      have qe := fun w => eql_row a b c d m0 m1 m2 m3 w
      have qg := Tryd.guard_row
      clear e0 e1 e2 e3 hS hG p hk
      cases b0 : (a == m0) with
      | false =>
        have HN : Hid (f = fI (rowB a b c d) ((List.range 8).drop (k + 1)) (k + 1)) := Lib.hid (by have h := HST.out; rw [b0] at h; exact h)
        go_upto_region 4 with fail
        go_quiet (fail)
        clear x0 x1 x2 x3 g0 g1 g2 g3
        go_wp2
        go_roundw
        case rel => exact ⟨k + 1, HLT.out, (by first | rfl | (rw [hw1]; rfl)), (by first | exact HB | exact Lib.hid (below_drewN HB.out _)), HN⟩
        case measure => (try rw [hw1]); exact meas_step HLT.out
      | true =>
        cases b1 : (b == m1) with
        | false =>
          have HN : Hid (f = fI (rowB a b c d) ((List.range 8).drop (k + 1)) (k + 1)) := Lib.hid (by have h := HST.out; rw [b0, b1] at h; exact h)
          go_upto_region 4 with fail
          go_quiet (fail)
          clear x0 x1 x2 x3 g0 g1 g2 g3
          go_wp2
          go_roundw
          case rel => exact ⟨k + 1, HLT.out, (by first | rfl | (rw [hw1]; rfl)), (by first | exact HB | exact Lib.hid (below_drewN HB.out _)), HN⟩
          case measure => (try rw [hw1]); exact meas_step HLT.out
        | true =>
          cases b2 : (c == m2) with
          | false =>
            have HN : Hid (f = fI (rowB a b c d) ((List.range 8).drop (k + 1)) (k + 1)) := Lib.hid (by have h := HST.out; rw [b0, b1, b2] at h; exact h)
            go_upto_region 4 with fail
            go_quiet (fail)
            clear x0 x1 x2 x3 g0 g1 g2 g3
            go_wp2
            go_roundw
            case rel => exact ⟨k + 1, HLT.out, (by first | rfl | (rw [hw1]; rfl)), (by first | exact HB | exact Lib.hid (below_drewN HB.out _)), HN⟩
            case measure => (try rw [hw1]); exact meas_step HLT.out
          | true =>
            cases b3 : (d == m3) with
            | false =>
              have HN : Hid (f = fI (rowB a b c d) ((List.range 8).drop (k + 1)) (k + 1)) := Lib.hid (by have h := HST.out; rw [b0, b1, b2, b3] at h; exact h)
              go_upto_region 4 with fail
              go_quiet (fail)
              clear x0 x1 x2 x3 g0 g1 g2 g3
              go_wp2
              go_roundw
              case rel => exact ⟨k + 1, HLT.out, (by first | rfl | (rw [hw1]; rfl)), (by first | exact HB | exact Lib.hid (below_drewN HB.out _)), HN⟩
              case measure => (try rw [hw1]); exact meas_step HLT.out
            | true =>
              have HN : Hid (f = (k : Int)) := Lib.hid (by have h := HST.out; rw [b0, b1, b2, b3] at h; exact h)
              go_upto_region 4 with fail
              go_quiet (fail)
              clear x0 x1 x2 x3 g0 g1 g2 g3
              go_wp2
              go_ret
              exact ⟨by rw [HN.out] <;> rfl, HB0.out.trans ((by first | exact HB.out | exact below_drewN HB.out _ : Below w0.heap.size w0 _).mono HB0.out.size)⟩
    · have HN : Hid (f = -1) := Lib.hid (by
        have h := HT.out
        rw [List.drop_of_length_le (by simp; omega)] at h
        exact h)
      go_wp2
      go_ret
      exact ⟨by rw [HN.out] <;> rfl, HB0.out.trans (HB.out.mono HB0.out.size)⟩
-- what gen_inv.py prints
structure CoJ (W : World) (x1 : Int) (x2 : Int) (y1 : Int) (y2 : Int) (p5 : Nat) (p6 : Nat) (r : Int) (b0 b1 b2 b3 b4 b5 b6 b7 b8 b9 b10 b11 : Bool) (v17 v18 v19 v20 v21 v22 v23 v24 v25 v26 v27 v4 : Value) (w : World) : Prop where
  h0 : b0 = true → v17 = .slice (some ⟨0, 0, none⟩) 8 8
  h1 : b1 = true → v18 = .pointer (some ⟨p5, 0, none⟩)
  h2 : b2 = true → v19 = .int .i64 x1
  h3 : b3 = true → v20 = .pointer (some ⟨p6, 0, none⟩)
  h4 : b4 = true → v21 = .int .i64 y1
  h5 : b5 = true → v22 = .pointer (some ⟨p5, 1, none⟩)
  h6 : b6 = true → v23 = .int .i64 x2
  h7 : b7 = true → v24 = .pointer (some ⟨p6, 1, none⟩)
  h8 : b8 = true → v25 = .int .i64 y2
  h9 : b9 = true → v26 = .agg #[.int .i64 x1, .int .i64 y1, .int .i64 x2, .int .i64 y2]
  h10 : b10 = true → v27 = .int .i64 r
  h11 : b11 = true → v4 = .int .i64 r
  below : Below W.heap.size W w
section
variable {W : World} {x1 : Int} {x2 : Int} {y1 : Int} {y2 : Int} {p5 : Nat} {p6 : Nat} {r : Int} {b0 b1 b2 b3 b4 b5 b6 b7 b8 b9 b10 b11 : Bool} {v17 v18 v19 v20 v21 v22 v23 v24 v25 v26 v27 v4 : Value} {w w' : World}
theorem CoJ.world (H : CoJ W x1 x2 y1 y2 p5 p6 r b0 b1 b2 b3 b4 b5 b6 b7 b8 b9 b10 b11 v17 v18 v19 v20 v21 v22 v23 v24 v25 v26 v27 v4 w) (hb : Below w.heap.size w w') : CoJ W x1 x2 y1 y2 p5 p6 r b0 b1 b2 b3 b4 b5 b6 b7 b8 b9 b10 b11 v17 v18 v19 v20 v21 v22 v23 v24 v25 v26 v27 v4 w' :=
  ⟨H.h0, H.h1, H.h2, H.h3, H.h4, H.h5, H.h6, H.h7, H.h8, H.h9, H.h10, H.h11, H.below.trans (hb.mono H.below.size)⟩
end
theorem symP_in {k : Int} {p : Int × Int} {m : Int} (h1 : -m ≤ p.1 ∧ p.1 ≤ m) (h2 : -m ≤ p.2 ∧ p.2 ≤ m) : (-(2 * m) ≤ (symP k p).1 ∧ (symP k p).1 ≤ 2 * m) ∧ (-(2 * m) ≤ (symP k p).2 ∧ (symP k p).2 ≤ 2 * m) := by
  have hj := symJ_lt k
  obtain ⟨x, y⟩ := p
  unfold symP
  dsimp only at *
  have m0 := mat_cases (j := symJ k * 4) (by omega)
  have m1 := mat_cases (j := symJ k * 4 + 1) (by omega)
  have m2 := mat_cases (j := symJ k * 4 + 2) (by omega)
  have m3 := mat_cases (j := symJ k * 4 + 3) (by omega)
  constructor
  · rcases m0 with e | e | e <;> rcases m1 with f | f | f <;> rw [e, f] <;> omega
  · rcases m2 with e | e | e <;> rcases m3 with f | f | f <;> rw [e, f] <;> omega
/-- the number of the symmetry that applies a, then b -/
def compR (a b : Int) : Int := fI (rowB (symP b (symP a (1, 0))).1 (symP b (symP a (0, 1))).1 (symP b (symP a (1, 0))).2 (symP b (symP a (0, 1))).2) (List.range 8) 0
set_option maxHeartbeats 16000000 in
theorem compose_any (a b : Int) (w : World) (hg : GMat w) :
    Calls Tryd.prog 56 #[.int .i64 a, .int .i64 b] w fun e w' => e = .returned (.int .i64 (compR a b)) ∧ Below w.heap.size w w' := by
  unfold compR
  have i1 := symP_in (k := a) (p := (1, 0)) (m := 1) (by decide) (by decide)
  have i2 := symP_in (k := a) (p := (0, 1)) (m := 1) (by decide) (by decide)
  have hA1 := apply_any a 1 0 w hg (by decide) (by decide)
  have hA3 := fun W h => apply_any a 0 1 W h (by decide) (by decide)
  obtain ⟨xx, hxx⟩ : ∃ q, q = symP a (1, 0) := ⟨_, rfl⟩
  obtain ⟨yy, hyy⟩ : ∃ q, q = symP a (0, 1) := ⟨_, rfl⟩
  rw [← hxx] at i1 hA1 ⊢
  rw [← hyy] at i2 hA3 ⊢
  obtain ⟨xx1, xx2⟩ := xx
  obtain ⟨yy1, yy2⟩ := yy
  dsimp only at i1 i2 hA1 hA3 ⊢
  have hA2 := fun W h => apply_any b xx1 xx2 W h (by omega) (by omega)
  have hA4 := fun W h => apply_any b yy1 yy2 W h (by omega) (by omega)
  obtain ⟨zx, hzx⟩ : ∃ q, q = symP b (xx1, xx2) := ⟨_, rfl⟩
  obtain ⟨zy, hzy⟩ : ∃ q, q = symP b (yy1, yy2) := ⟨_, rfl⟩
  rw [← hzx] at hA2 ⊢
  rw [← hzy] at hA4 ⊢
  obtain ⟨x1, x2⟩ := zx
  obtain ⟨y1, y2⟩ := zy
  dsimp only at hA2 hA4 ⊢
  obtain ⟨r, hr⟩ : ∃ r, r = fI (rowB x1 y1 x2 y2) (List.range 8) 0 := ⟨_, rfl⟩
  rw [← hr]
  have HR := Lib.hid hr
  have H1 := Lib.hid hA1
  have H2 := Lib.hid hA2
  have H3 := Lib.hid hA3
  have H4 := Lib.hid hA4
  have HG := Lib.hid hg
  clear hr hA1 hA2 hA3 hA4 hxx hyy hzx hzy i1 i2 hg
  go_enter Tryd.func56, Tryd.ntmps56
  go_wp2_with (go_at_call 50; refine H1.out.mono ?_; intro e w1 hx; obtain ⟨rfl, hb⟩ := hx; refine Hid.out ?_)
  refine Lib.hid ?_
  have HB1 := Lib.hid hb
  have HG1 := Lib.hid (HG.out.ext hb)
  clear hb
  go_wp2_with (go_at_call 50; refine (H2.out w1 HG1.out).mono ?_; intro e w2 hx; obtain ⟨rfl, hb⟩ := hx; refine Hid.out ?_)
  refine Lib.hid ?_
  have HB2 := Lib.hid (HB1.out.trans (hb.mono HB1.out.size))
  have HG2 := Lib.hid (HG1.out.ext hb)
  clear hb
  obtain ⟨w3, hw3⟩ : ∃ w3, w3 = w2.alloc (.cells #[.int .i64 x1, .int .i64 x2] 49) := ⟨_, rfl⟩
  obtain ⟨p5, hp5⟩ : ∃ p5, p5 = w2.heap.size := ⟨_, rfl⟩
  have hb : Below w2.heap.size w2 w3 := by rw [hw3]; exact below_new _ _
  have HB3 := Lib.hid (HB2.out.trans (hb.mono HB2.out.size))
  have HG3 := Lib.hid (HG2.out.ext hb)
  have HP5 : Hid (Blk w3 p5 49 #[.int .i64 x1, .int .i64 x2]) := Lib.hid (by rw [hw3, hp5]; exact Blk.new _ _ _)
  clear hb
  go_upto_region 2 with fail
  rw [← hw3, ← hp5]
  clear hw3 hp5
  go_wp2_with (go_at_call 50; refine (H3.out w3 HG3.out).mono ?_; intro e w4 hx; obtain ⟨rfl, hb⟩ := hx; refine Hid.out ?_)
  refine Lib.hid ?_
  have HB4 := Lib.hid (HB3.out.trans (hb.mono HB3.out.size))
  have HG4 := Lib.hid (HG3.out.ext hb)
  have Hx := Lib.hid (HP5.out.below hb HP5.out.lt)
  clear hb HP5
  have HP5 := Hx
  clear Hx
  go_wp2_with (go_at_call 50; refine (H4.out w4 HG4.out).mono ?_; intro e w5 hx; obtain ⟨rfl, hb⟩ := hx; refine Hid.out ?_)
  refine Lib.hid ?_
  have HB5 := Lib.hid (HB4.out.trans (hb.mono HB4.out.size))
  have HG5 := Lib.hid (HG4.out.ext hb)
  have Hx := Lib.hid (HP5.out.below hb HP5.out.lt)
  clear hb HP5
  have HP5 := Hx
  clear Hx
  obtain ⟨w6, hw6⟩ : ∃ w6, w6 = w5.alloc (.cells #[.int .i64 y1, .int .i64 y2] 49) := ⟨_, rfl⟩
  obtain ⟨p6, hp6⟩ : ∃ p6, p6 = w5.heap.size := ⟨_, rfl⟩
  have hb : Below w5.heap.size w5 w6 := by rw [hw6]; exact below_new _ _
  have HB6 := Lib.hid (HB5.out.trans (hb.mono HB5.out.size))
  have HG6 := Lib.hid (HG5.out.ext hb)
  have Hx := Lib.hid (HP5.out.below hb HP5.out.lt)
  clear HP5
  have HP5 := Hx
  clear Hx hb
  have HP6 : Hid (Blk w6 p6 49 #[.int .i64 y1, .int .i64 y2]) := Lib.hid (by rw [hw6, hp6]; exact Blk.new _ _ _)
  go_upto_region 3 with fail
  rw [← hw6, ← hp6]
  clear hw6 hp6
  refine wp_region_J (by kernel_rfl) (fun listed act w' => ∃ b0 b1 b2 b3 b4 b5 b6 b7 b8 b9 b10 b11 v17 v18 v19 v20 v21 v22 v23 v24 v25 v26 v27 v4, listed = #[b0, b1, b2, b3, b4, b5, b6, b7, b8, b9, b10, b11] ∧ act = Act.mk #[.int .i64 a, .int .i64 b, undef, undef, v4, .pointer (some ⟨p5, 0, none⟩), .pointer (some ⟨p6, 0, none⟩), .int .i64 b, .int .i64 a, .agg #[.int .i64 1, .int .i64 0], .agg #[.int .i64 xx1, .int .i64 xx2], .agg #[.int .i64 x1, .int .i64 x2], .int .i64 b, .int .i64 a, .agg #[.int .i64 0, .int .i64 1], .agg #[.int .i64 yy1, .int .i64 yy2], .agg #[.int .i64 y1, .int .i64 y2], v17, v18, v19, v20, v21, v22, v23, v24, v25, v26, v27] [] ∧ CoJ w6 x1 x2 y1 y2 p5 p6 r b0 b1 b2 b3 b4 b5 b6 b7 b8 b9 b10 b11 v17 v18 v19 v20 v21 v22 v23 v24 v25 v26 v27 v4 w') ?_ ?_ ?_
  · exact ⟨_, _, _, _, _, _, _, _, _, _, _, _, _, _, _, _, _, _, _, _, _, _, _, _, rfl, rfl, ⟨(by simp), (by simp), (by simp), (by simp), (by simp), (by simp), (by simp), (by simp), (by simp), (by simp), (by simp), (by simp), (Below.refl _ w6).drew⟩⟩
  · rintro i listed act w' hi ⟨b0, b1, b2, b3, b4, b5, b6, b7, b8, b9, b10, b11, v17, v18, v19, v20, v21, v22, v23, v24, v25, v26, v27, v4, rfl, rfl, H⟩
    have hi16 : i < 12 := by
      obtain ⟨-, o, ho, -⟩ := mem_ready.1 hi
      exact (Array.getElem?_eq_some_iff.1 ho).1
    obtain rfl | rfl | rfl | rfl | rfl | rfl | rfl | rfl | rfl | rfl | rfl | rfl : i = 0 ∨ i = 1 ∨ i = 2 ∨ i = 3 ∨ i = 4 ∨ i = 5 ∨ i = 6 ∨ i = 7 ∨ i = 8 ∨ i = 9 ∨ i = 10 ∨ i = 11 := by omega
    all_goals simp [mem_ready, Region.binds] at hi
    · refine wpOp_hidden rfl fun K hK => ?_
      go_wp2
      refine OnlyN.mk (hK.out _ _ ⟨true, _, _, _, _, _, _, _, _, _, _, _, .slice (some ⟨0, 0, none⟩) 8 8, _, _, _, _, _, _, _, _, _, _, _, rfl, rfl, ⟨fun _ => rfl, H.h1, H.h2, H.h3, H.h4, H.h5, H.h6, H.h7, H.h8, H.h9, H.h10, H.h11, H.below⟩⟩)
    · refine wpOp_hidden rfl fun K hK => ?_
      go_wp2
      refine OnlyN.mk (hK.out _ _ ⟨_, true, _, _, _, _, _, _, _, _, _, _, _, .pointer (some ⟨p5, 0, none⟩), _, _, _, _, _, _, _, _, _, _, rfl, rfl, ⟨H.h0, fun _ => rfl, H.h2, H.h3, H.h4, H.h5, H.h6, H.h7, H.h8, H.h9, H.h10, H.h11, H.below⟩⟩)
    · have g := (HP5.out.below H.below HP5.out.lt).cell_ 0 (.int .i64 x1) rfl
      obtain rfl := H.h1 (by simp [hi])
      refine wpOp_hidden rfl fun K hK => ?_
      go_wp2
      refine OnlyN.mk (hK.out _ _ ⟨_, _, true, _, _, _, _, _, _, _, _, _, _, _, .int .i64 x1, _, _, _, _, _, _, _, _, _, rfl, rfl, ⟨H.h0, H.h1, fun _ => rfl, H.h3, H.h4, H.h5, H.h6, H.h7, H.h8, H.h9, H.h10, H.h11, H.below⟩⟩)
    · refine wpOp_hidden rfl fun K hK => ?_
      go_wp2
      refine OnlyN.mk (hK.out _ _ ⟨_, _, _, true, _, _, _, _, _, _, _, _, _, _, _, .pointer (some ⟨p6, 0, none⟩), _, _, _, _, _, _, _, _, rfl, rfl, ⟨H.h0, H.h1, H.h2, fun _ => rfl, H.h4, H.h5, H.h6, H.h7, H.h8, H.h9, H.h10, H.h11, H.below⟩⟩)
    · have g := (HP6.out.below H.below HP6.out.lt).cell_ 0 (.int .i64 y1) rfl
      obtain rfl := H.h3 (by simp [hi])
      refine wpOp_hidden rfl fun K hK => ?_
      go_wp2
      refine OnlyN.mk (hK.out _ _ ⟨_, _, _, _, true, _, _, _, _, _, _, _, _, _, _, _, .int .i64 y1, _, _, _, _, _, _, _, rfl, rfl, ⟨H.h0, H.h1, H.h2, H.h3, fun _ => rfl, H.h5, H.h6, H.h7, H.h8, H.h9, H.h10, H.h11, H.below⟩⟩)
    · refine wpOp_hidden rfl fun K hK => ?_
      go_wp2
      refine OnlyN.mk (hK.out _ _ ⟨_, _, _, _, _, true, _, _, _, _, _, _, _, _, _, _, _, .pointer (some ⟨p5, 1, none⟩), _, _, _, _, _, _, rfl, rfl, ⟨H.h0, H.h1, H.h2, H.h3, H.h4, fun _ => rfl, H.h6, H.h7, H.h8, H.h9, H.h10, H.h11, H.below⟩⟩)
    · have g := (HP5.out.below H.below HP5.out.lt).cell_ 1 (.int .i64 x2) rfl
      obtain rfl := H.h5 (by simp [hi])
      refine wpOp_hidden rfl fun K hK => ?_
      go_wp2
      refine OnlyN.mk (hK.out _ _ ⟨_, _, _, _, _, _, true, _, _, _, _, _, _, _, _, _, _, _, .int .i64 x2, _, _, _, _, _, rfl, rfl, ⟨H.h0, H.h1, H.h2, H.h3, H.h4, H.h5, fun _ => rfl, H.h7, H.h8, H.h9, H.h10, H.h11, H.below⟩⟩)
    · refine wpOp_hidden rfl fun K hK => ?_
      go_wp2
      refine OnlyN.mk (hK.out _ _ ⟨_, _, _, _, _, _, _, true, _, _, _, _, _, _, _, _, _, _, _, .pointer (some ⟨p6, 1, none⟩), _, _, _, _, rfl, rfl, ⟨H.h0, H.h1, H.h2, H.h3, H.h4, H.h5, H.h6, fun _ => rfl, H.h8, H.h9, H.h10, H.h11, H.below⟩⟩)
    · have g := (HP6.out.below H.below HP6.out.lt).cell_ 1 (.int .i64 y2) rfl
      obtain rfl := H.h7 (by simp [hi])
      refine wpOp_hidden rfl fun K hK => ?_
      go_wp2
      refine OnlyN.mk (hK.out _ _ ⟨_, _, _, _, _, _, _, _, true, _, _, _, _, _, _, _, _, _, _, _, .int .i64 y2, _, _, _, rfl, rfl, ⟨H.h0, H.h1, H.h2, H.h3, H.h4, H.h5, H.h6, H.h7, fun _ => rfl, H.h9, H.h10, H.h11, H.below⟩⟩)
    · obtain rfl := H.h2 (by simp [hi])
      obtain rfl := H.h4 (by simp [hi])
      obtain rfl := H.h6 (by simp [hi])
      obtain rfl := H.h8 (by simp [hi])
      refine wpOp_hidden rfl fun K hK => ?_
      go_wp2
      refine OnlyN.mk (hK.out _ _ ⟨_, _, _, _, _, _, _, _, _, true, _, _, _, _, _, _, _, _, _, _, _, .agg #[.int .i64 x1, .int .i64 y1, .int .i64 x2, .int .i64 y2], _, _, rfl, rfl, ⟨H.h0, H.h1, H.h2, H.h3, H.h4, H.h5, H.h6, H.h7, H.h8, fun _ => rfl, H.h10, H.h11, H.below⟩⟩)
    · obtain rfl := H.h0 (by simp [hi])
      obtain rfl := H.h9 (by simp [hi])
      have HB0 := Lib.hid (H.below)
      have hcall := index_any x1 y1 x2 y2 _ (HG6.out.ext HB0.out)
      rw [← HR.out] at hcall
      have HCALL := Lib.hid hcall
      clear hcall
      refine wpOp_hidden rfl fun K hK => ?_
      go_wp2_with (go_at_call 78; refine HCALL.out.mono ?_; intro e w9 hx; obtain ⟨rfl, hb9⟩ := hx; refine Hid.out ?_)
      refine Lib.hid ?_
      have HB9 := Lib.hid hb9
      clear hb9 HCALL
      go_wp2
      refine OnlyN.mk (hK.out _ _ ⟨_, _, _, _, _, _, _, _, _, _, true, _, _, _, _, _, _, _, _, _, _, _, .int .i64 r, _, rfl, rfl, ⟨(H.world HB9.out).h0, (H.world HB9.out).h1, (H.world HB9.out).h2, (H.world HB9.out).h3, (H.world HB9.out).h4, (H.world HB9.out).h5, (H.world HB9.out).h6, (H.world HB9.out).h7, (H.world HB9.out).h8, (H.world HB9.out).h9, fun _ => rfl, (H.world HB9.out).h11, (H.world HB9.out).below⟩⟩)
    · obtain rfl := H.h10 (by simp [hi])
      refine wpOp_hidden rfl fun K hK => ?_
      go_wp2
      refine OnlyN.mk (hK.out _ _ ⟨_, _, _, _, _, _, _, _, _, _, _, true, _, _, _, _, _, _, _, _, _, _, _, .int .i64 r, rfl, rfl, ⟨H.h0, H.h1, H.h2, H.h3, H.h4, H.h5, H.h6, H.h7, H.h8, H.h9, H.h10, fun _ => rfl, H.below⟩⟩)
  · rintro listed act w' hr ⟨b0, b1, b2, b3, b4, b5, b6, b7, b8, b9, b10, b11, v17, v18, v19, v20, v21, v22, v23, v24, v25, v26, v27, v4, rfl, rfl, H⟩
    have hn := List.eq_nil_iff_forall_not_mem.1 hr
    have r0 := hn 0
    simp [mem_ready, Region.binds] at r0
    subst r0
    have r1 := hn 1
    simp [mem_ready, Region.binds] at r1
    subst r1
    have r2 := hn 2
    simp [mem_ready, Region.binds] at r2
    subst r2
    have r3 := hn 3
    simp [mem_ready, Region.binds] at r3
    subst r3
    have r4 := hn 4
    simp [mem_ready, Region.binds] at r4
    subst r4
    have r5 := hn 5
    simp [mem_ready, Region.binds] at r5
    subst r5
    have r6 := hn 6
    simp [mem_ready, Region.binds] at r6
    subst r6
    have r7 := hn 7
    simp [mem_ready, Region.binds] at r7
    subst r7
    have r8 := hn 8
    simp [mem_ready, Region.binds] at r8
    subst r8
    have r9 := hn 9
    simp [mem_ready, Region.binds] at r9
    subst r9
    have r10 := hn 10
    simp [mem_ready, Region.binds] at r10
    subst r10
    have r11 := hn 11
    simp [mem_ready, Region.binds] at r11
    subst r11
    try dsimp only
    obtain rfl := H.h11 rfl
    have hb := H.below
    have HBE := Lib.hid (HB6.out.trans (hb.mono HB6.out.size))
    clear H hr hn hb
    go_wp2
    go_ret
    exact ⟨rfl, HBE.out⟩
/-- the number of the inverse symmetry -/
def invS (k : Int) : Int := max (fI (fun (i : Nat) => compR k i == 0) (List.range 8) 0) 0
set_option maxHeartbeats 4000000 in
theorem inverse_any (k : Int) (w : World) (hg : GMat w) :
    Calls Tryd.prog 29 #[.int .i64 k] w fun e w' => e = .returned (.int .i64 (invS k)) ∧ Below w.heap.size w w' := by
  unfold invS
  obtain ⟨f, hf⟩ : ∃ f, f = fI (fun (i : Nat) => compR k i == 0) (List.range 8) 0 := ⟨_, rfl⟩
  rw [← hf]
  have HF := Lib.hid hf
  have HG := Lib.hid hg
  clear hf hg
  go_enter Tryd.func29, Tryd.ntmps29
  go_wp2
  go_loopw [4] (fun iv wr => ∃ i : Nat, i ≤ 8 ∧ iv = .int .i64 i ∧ Hid (Below w.heap.size w wr) ∧ Hid (f = fI (fun (i : Nat) => compR k i == 0) ((List.range 8).drop i) i)) (fun iv _ => 8 - (intOf iv).toNat)
  case atStart => exact ⟨0, Nat.zero_le _, rfl, Lib.hid (Below.refl _ _), Lib.hid (by rw [HF.out]; rfl)⟩
  case round =>
    obtain ⟨i, hk, rfl, HB, HT⟩ := hrel
    by_cases hlt : i < 8
    · have hw1 : wrap64 ((i : Int) + 1) = (i : Int) + 1 := by unfold wrap64; omega
      have hS := fI_step (fun (i : Nat) => compR k i == 0) (l := List.range 8) (k := i) (by simpa using hlt)
      rw [List.getElem_range] at hS
      have hC := compose_any k i wr (HG.out.ext HB.out)
      obtain ⟨r, hr⟩ : ∃ r, r = compR k i := ⟨_, rfl⟩
      try dsimp only at hS
      rw [← hr] at hS hC
      have HLT := Lib.hid hlt
      have HC := Lib.hid hC
      have HST := Lib.hid (HT.out.trans hS)
      clear hr hC hS hk
      cases b0 : (r == 0) with
      | false =>
        have HN : Hid (f = fI (fun (i : Nat) => compR k i == 0) ((List.range 8).drop (i + 1)) (i + 1)) := Lib.hid (by have h := HST.out; rw [b0] at h; exact h)
        go_wp2_with (go_at_call 56; refine HC.out.mono ?_; intro e w1 hx; obtain ⟨rfl, hb⟩ := hx; refine Hid.out ?_)
        refine Lib.hid ?_
        have HB1 := Lib.hid (HB.out.trans (hb.mono HB.out.size))
        clear hb
        go_wp2
        go_roundw
        case rel => exact ⟨i + 1, HLT.out, (by first | rfl | (rw [hw1]; rfl)), HB1, HN⟩
        case measure => (try rw [hw1]); exact meas_step HLT.out
      | true =>
        have HN : Hid (f = (i : Int)) := Lib.hid (by have h := HST.out; rw [b0] at h; exact h)
        go_wp2_with (go_at_call 56; refine HC.out.mono ?_; intro e w1 hx; obtain ⟨rfl, hb⟩ := hx; refine Hid.out ?_)
        refine Lib.hid ?_
        have HB1 := Lib.hid (HB.out.trans (hb.mono HB.out.size))
        clear hb
        go_wp2
        go_ret
        exact ⟨by rw [HN.out, Int.max_eq_left (Int.natCast_nonneg i)] <;> rfl, HB1.out⟩
    · have HN : Hid (f = -1) := Lib.hid (by
        have h := HT.out
        rw [List.drop_of_length_le (by simp; omega)] at h
        exact h)
      go_wp2
      go_ret
      exact ⟨by rw [HN.out] <;> rfl, HB.out⟩
/-- a symmetry by its number -/
def symQ (j : Nat) (p : Int × Int) : Int × Int := (matL.getD (j * 4) 0 * p.1 + matL.getD (j * 4 + 1) 0 * p.2, matL.getD (j * 4 + 2) 0 * p.1 + matL.getD (j * 4 + 3) 0 * p.2)
theorem symP_q (k : Int) (p : Int × Int) : symP k p = symQ (symJ k) p := rfl
theorem invS_tab (k : Int) : invS k = (([0, 3, 2, 1, 4, 5, 6, 7] : List Int).getD (symJ k) 0) := by
  have hj := symJ_lt k
  unfold invS compR
  simp only [symP_q]
  generalize symJ k = j at hj ⊢
  obtain rfl | rfl | rfl | rfl | rfl | rfl | rfl | rfl : j = 0 ∨ j = 1 ∨ j = 2 ∨ j = 3 ∨ j = 4 ∨ j = 5 ∨ j = 6 ∨ j = 7 := by omega
  all_goals decide
theorem invS_sym (k : Int) (p : Int × Int) : symP (invS k) (symP k p) = p := by
  have hj := symJ_lt k
  rw [invS_tab]
  simp only [symP_q]
  generalize symJ k = j at hj ⊢
  obtain ⟨x, y⟩ := p
  obtain rfl | rfl | rfl | rfl | rfl | rfl | rfl | rfl : j = 0 ∨ j = 1 ∨ j = 2 ∨ j = 3 ∨ j = 4 ∨ j = 5 ∨ j = 6 ∨ j = 7 := by omega
  all_goals simp [symQ, symJ, matL]
end Go.Proofs.YtojnnfihpiegoaaDoor
