/-
  cellularref12.Value: where the root leads to. Where the tree is valid and the states are as many as its levels.
  The reference's Back in plain lists: what probe asks is what numbers asks. No condition.
-/
import Derived.Test.YtmlhkbgifnifdaaGreatDoorZRTot
import Derived.Test.YtmlhkbgifnifdaaGreatDoorZG23
import Derived.Test.YtmlhkbgifnifdaaGreatDoorZG11
namespace Go.Proofs.YtmlhkbgifnifdaaGreatDoor
open Go.RowKit
set_option maxRecDepth 100000
set_option linter.unusedVariables false
set_option linter.unusedSimpArgs false

set_option maxHeartbeats 4000000 in
theorem val12_any (st : Int) (A : Option Addr) (n c : Nat) (B : Option Addr) (d : Nat) (hs : List Hd) (Av : Option Addr) (cv : Nat) (ins : List Nat) (w : World) (hN : Nds w B hs) (hv : Ints w Av (ins.map fun (s : Nat) => (s : Int)))
    (q : Nat) (hV : VNd q (hs.map Hd.nd)) (hp : 0 < hs.length) (hroot : (ndAt (hs.map Hd.nd) (hs.length - 1)).1 = (ins.length : Int)) (hq : ∀ s ∈ ins, s < q) :
    Calls Tryz.prog 66 #[.agg #[.int .i64 st, .slice A n c, .slice B hs.length d], .slice Av ins.length cv] w fun e w' => e = .returned (.int .i64 (val (hs.map Hd.nd) ((hs.length - 1 : Nat) : Int) ins)) ∧ Below w.heap.size w w' := by
  obtain ⟨w0, hw0⟩ : ∃ w0, w0 = w.alloc (.cells #[.int .i64 st, .slice A n c, .slice B hs.length d] 25) := ⟨_, rfl⟩
  have hb0 : Below w.heap.size w w0 := by rw [hw0]; exact below_new _ _
  have p0 : Blk w0 w.heap.size 25 #[.int .i64 st, .slice A n c, .slice B hs.length d] := by rw [hw0]; exact Blk.new _ _ _
  have hlN := hN.le
  have hlI := hv.le
  rw [List.length_map] at hlI
  obtain ⟨N1, hN1⟩ : ∃ N1, N1 = hs.length - 1 := ⟨_, rfl⟩
  have hwN : wrap64 ((hs.length : Int) - 1) = (N1 : Int) := by unfold wrap64; omega
  have HN1 : Hid (N1 < hs.length) := Lib.hid (by omega)
  rw [← hN1] at hroot ⊢
  obtain ⟨r, hr⟩ : ∃ r, r = val (hs.map Hd.nd) (N1 : Int) ins := ⟨_, rfl⟩
  rw [← hr]
  have HR := Lib.hid hr
  have HRT := Lib.hid hroot
  have HV := Lib.hid hV
  have HQ := Lib.hid hq
  have HB0 := Lib.hid hb0
  have HP0 := Lib.hid p0
  have HW0 := Lib.hid hw0
  have HN := Lib.hid (hN.ext hb0)
  have HI := Lib.hid (hv.ext hb0)
  have HLI := Lib.hid hlI
  have c2 := p0.cell_ 2 (.slice B hs.length d) rfl
  clear hb0 p0 hw0 hN hv hV hp hroot hq hr hN1 hlN hlI
  go_enter Tryz.func66, Tryz.ntmps66
  go_upto_region 1 with fail
  rw [← HW0.out]
  go_wp2
  clear c2
  go_loopw [5, 6] (fun kv iv wr => ∃ (cur : Int) (i : Nat), kv = .int .i64 cur ∧ iv = .int .i64 i ∧ i ≤ ins.length ∧ Hid (Below w0.heap.size w0 wr) ∧ Hid (val (hs.map Hd.nd) cur (ins.drop i) = r) ∧ Hid (i < ins.length → 0 ≤ cur ∧ cur.toNat < hs.length ∧ (ndAt (hs.map Hd.nd) cur.toNat).1 = ((ins.length - i : Nat) : Int))) (fun _ iv _ => ins.length - (intOf iv).toNat)
  case atStart => exact ⟨(N1 : Int), 0, (by first | rfl | (rw [hwN])), rfl, Nat.zero_le _, Lib.hid (Below.refl _ _), Lib.hid HR.out.symm, Lib.hid (fun _ => ⟨Int.natCast_nonneg _, by rw [Int.toNat_natCast]; exact HN1.out, by rw [Int.toNat_natCast]; exact HRT.out⟩)⟩
  case round =>
    obtain ⟨cur, i, rfl, rfl, hi, HBR, HVL, HC⟩ := hrel
    clear hwN
    have c2 := (HP0.out.below HBR.out HP0.out.lt).cell_ 2 (.slice B hs.length d) rfl
    by_cases hil : i < ins.length
    · have hwi : wrap64 ((i : Int) + 1) = (i : Int) + 1 := by have := HLI.out; unfold wrap64; omega
      obtain ⟨k0, k1, k2⟩ := HC.out hil
      obtain ⟨kn, hkn⟩ : ∃ kn : Nat, cur = kn := ⟨cur.toNat, (Int.toNat_of_nonneg k0).symm⟩
      subst hkn
      rw [Int.toNat_natCast] at k1 k2
      have hk1' : kn < (hs.map Hd.nd).length := by rw [List.length_map]; exact k1
      obtain ⟨b, o, e, -, g0, g1, gz⟩ := (HN.out.ext HBR.out).at_ k1
      have hnd := ndl_at hs k1
      have hzl := HV.out.lev.len kn hk1'
      have hkids := HV.out.lev.kids kn hk1'
      obtain ⟨x, hx⟩ : ∃ x, x = hs[kn] := ⟨_, rfl⟩
      rw [← hx] at g0 g1 gz hnd
      obtain ⟨lv, zA, zc, zs⟩ := x
      dsimp only at g0 g1 gz
      change ndAt (hs.map Hd.nd) kn = (lv, zs) at hnd
      rw [hnd] at hzl hkids k2
      dsimp only at hzl hkids k2
      have hil2 : i < (ins.map fun (s : Nat) => (s : Int)).length := by rw [List.length_map]; exact hil
      obtain ⟨b2, o2, e2, -, gi⟩ := (HI.out.ext HBR.out).at_ hil2
      rw [List.getElem_map] at gi
      have hsq := HQ.out _ (List.getElem_mem hil)
      have hdrop := List.drop_eq_getElem_cons hil
      obtain ⟨s, hs'⟩ : ∃ s, s = ins[i] := ⟨_, rfl⟩
      rw [← hs'] at gi hsq hdrop
      have hsz : s < zs.length := by rw [hzl]; exact hsq
      obtain ⟨b3, o3, e3, -, gk⟩ := gz.at_ hsz
      have hgd : zs.getD s 0 = zs[s] := by rw [List.getD_eq_getElem?_getD, List.getElem?_eq_getElem hsz]; rfl
      obtain ⟨z, hz⟩ : ∃ z, z = zs[s] := ⟨_, rfl⟩
      have hzm : z ∈ zs := by rw [hz]; exact List.getElem_mem hsz
      rw [← hz] at gk hgd
      have hv2 := HVL.out
      rw [hdrop] at hv2
      simp only [val, Int.toNat_natCast, hnd, hgd] at hv2
      have HV2 := Lib.hid hv2
      have HC2 : Hid (i + 1 < ins.length → 0 ≤ z ∧ z.toNat < hs.length ∧ (ndAt (hs.map Hd.nd) z.toNat).1 = ((ins.length - (i + 1) : Nat) : Int)) := Lib.hid (fun h => by
        obtain ⟨m1, m2, m3⟩ := hkids (by omega) z hzm
        rw [List.length_map] at m2
        exact ⟨m1, m2, by omega⟩)
      have HIL := Lib.hid hil
      have hsz2 := hsz
      clear hx hs' hz hzm hkids hdrop hv2 k0 hgd hnd gz k2 hzl hsq hi
      subst e e2 e3
      go_upto_region 5 with fail
      go_quiet (fail)
      go_wp2
      go_roundw
      case rel => exact ⟨z, i + 1, rfl, (by first | rfl | (rw [hwi]; rfl)), HIL.out, (by first | exact HBR | exact Lib.hid (HBR.out.drew) | exact Lib.hid (below_drewN HBR.out _)), HV2, HC2⟩
      case measure => (try rw [hwi]); exact meas_step HIL.out
    · have hie : i = ins.length := Nat.le_antisymm hi (Nat.le_of_not_lt hil)
      have hv2 := HVL.out
      rw [hie, List.drop_of_length_le (Nat.le_refl _)] at hv2
      have HE : Hid (cur = r) := Lib.hid hv2
      clear hie hv2 hi
      go_wp2
      go_ret
      exact ⟨ret_int (by rw [HE.out]), HB0.out.trans (HBR.out.mono HB0.out.size)⟩
end Go.Proofs.YtmlhkbgifnifdaaGreatDoor
namespace Go.Proofs.YtmlhkbgifnifdaaGreatDoor
open Go.RowKit
set_option linter.unusedVariables false
set_option linter.unusedSimpArgs false
set_option maxRecDepth 100000

/-- the states of the first i places, and how many ones are left -/
def prbTo (ps : List (Int × Int)) (s n : Nat) : Nat → List Nat × Nat
  | 0 => ([], n)
  | i + 1 => if ps.getD i (1, 1) = (0, 0) then ((prbTo ps s n i).1 ++ [s], (prbTo ps s n i).2) else if 0 < (prbTo ps s n i).2 then ((prbTo ps s n i).1 ++ [1], (prbTo ps s n i).2 - 1) else ((prbTo ps s n i).1 ++ [0], (prbTo ps s n i).2)
def prbL (ps : List (Int × Int)) (s n : Nat) : List Nat := (prbTo ps s n ps.length).1
theorem prbTo_len (ps : List (Int × Int)) (s n : Nat) : ∀ i, (prbTo ps s n i).1.length = i
  | 0 => rfl
  | i + 1 => by
    have h := prbTo_len ps s n i
    unfold prbTo
    split
    · rw [List.length_append, h]; rfl
    · split <;> (rw [List.length_append, h]; rfl)
theorem prbTo_le (ps : List (Int × Int)) (s n : Nat) : ∀ i, (prbTo ps s n i).2 ≤ n
  | 0 => Nat.le_refl _
  | i + 1 => by
    have h := prbTo_le ps s n i
    unfold prbTo
    split
    · exact h
    · split
      · exact Nat.le_trans (Nat.sub_le _ _) h
      · exact h
theorem prbTo_mem (ps : List (Int × Int)) {s : Nat} (hs : s ≤ 1) (n : Nat) : ∀ i, ∀ t ∈ (prbTo ps s n i).1, t ≤ 1
  | 0 => fun t ht => absurd ht (by simp [prbTo])
  | i + 1 => fun t ht => by
    have h := prbTo_mem ps hs n i
    unfold prbTo at ht
    split at ht
    · rcases List.mem_append.1 ht with ht | ht
      · exact h t ht
      · rw [List.mem_singleton.1 ht]; exact hs
    · split at ht
      · rcases List.mem_append.1 ht with ht | ht
        · exact h t ht
        · rw [List.mem_singleton.1 ht]; exact Nat.le_refl _
      · rcases List.mem_append.1 ht with ht | ht
        · exact h t ht
        · rw [List.mem_singleton.1 ht]; exact Nat.zero_le _
def fillL (ps : List (Int × Int)) (n : Nat) (s : Int) : List Int := (fillTo (ctrP ps).toNat ps.length n ps.length).1.set (ctrP ps).toNat s
theorem prb_moore : ∀ n, n < 9 → (prbL (mooreL 1) 0 n).map (fun (t : Nat) => (t : Int)) = fillL (mooreL 1) n 0 ∧ (prbL (mooreL 1) 1 n).map (fun (t : Nat) => (t : Int)) = fillL (mooreL 1) n 1 := by decide
theorem prb_neum : ∀ n, n < 5 → (prbL (neumL 1) 0 n).map (fun (t : Nat) => (t : Int)) = fillL (neumL 1) n 0 ∧ (prbL (neumL 1) 1 n).map (fun (t : Nat) => (t : Int)) = fillL (neumL 1) n 1 := by decide
theorem prb_hex : ∀ n, n < 7 → (prbL hexL 0 n).map (fun (t : Nat) => (t : Int)) = fillL hexL n 0 ∧ (prbL hexL 1 n).map (fun (t : Nat) => (t : Int)) = fillL hexL n 1 := by decide
theorem prb_in {t : PT} (hk : knownB t.ps = true) {s n : Nat} (hs : s ≤ 1) (hn : n < t.ps.length) : (prbL t.ps s n).map (fun (t : Nat) => (t : Int)) = inN t n (s : Int) := by
  show _ = fillL t.ps n (s : Int)
  have h : ∀ ps : List (Int × Int), knownB ps = true → n < ps.length → (prbL ps 0 n).map (fun (t : Nat) => (t : Int)) = fillL ps n 0 ∧ (prbL ps 1 n).map (fun (t : Nat) => (t : Int)) = fillL ps n 1 := by
    intro ps hk hn
    unfold knownB at hk
    simp only [Bool.or_eq_true, decide_eq_true_eq] at hk
    rcases hk with (e | e) | e <;> subst e
    · exact prb_moore n (by have h9 : (mooreL 1).length = 9 := by decide
                            omega)
    · exact prb_neum n (by have h9 : (neumL 1).length = 5 := by decide
                           omega)
    · exact prb_hex n (by have h9 : hexL.length = 7 := by decide
                          omega)
  obtain ⟨h0, h1⟩ := h t.ps hk hn
  rcases Nat.le_one_iff_eq_zero_or_eq_one.1 hs with rfl | rfl
  · exact h0
  · exact h1
theorem prb_hit {t : PT} (hr : t.right = true) (hk : knownB t.ps = true) {s n : Nat} (hs : s ≤ 1) (hn : n < t.ps.length) : hitP t (s : Int) n = decide (val t.ns ((t.ns.length - 1 : Nat) : Int) (prbL t.ps s n) = 1) := by
  have h2 : 2 ≤ t.st := (rightN_parts hr).1
  have hb : (inN t n (s : Int)).any (badS t.st) = false := by
    rw [List.any_eq_false, ← prb_in hk hs hn]
    intro z hz
    obtain ⟨y, hy, rfl⟩ := List.mem_map.1 hz
    have := prbTo_mem t.ps hs n t.ps.length y hy
    simp only [badS, Bool.or_eq_true, decide_eq_true_eq]
    omega
  have he : evalP t (inN t n (s : Int)) = (val t.ns ((t.ns.length - 1 : Nat) : Int) (prbL t.ps s n), 0) := by
    unfold evalP
    rw [if_pos hr, if_pos (inN_len t n _), hb, if_neg (by simp), ← prb_in hk hs hn, List.map_map]
    congr 2
    rw [show (Int.toNat ∘ fun (t : Nat) => (t : Int)) = id from by funext y; exact Int.toNat_natCast y, List.map_id]
  unfold hitP
  rw [he]
  simp
theorem right_known {t : PT} (hr : t.right = true) : rightT ⟨t.ps, t.st, [], []⟩ = knownB t.ps := by
  obtain ⟨a1, a2, -⟩ := rightN_parts hr
  unfold rightT
  dsimp only
  rw [decide_eq_true a1, decide_eq_true a2]
  simp [asc]
theorem tot_self {x : TotL} (h : rightT x = true) : (totT x).1.right = true ∧ redT (totT x).1 = (totT x).1 := by
  obtain ⟨t1, t2, t3⟩ := tot_parts h
  rw [totT_eq h]
  exact ⟨t3, red_uniq t3 rfl rfl t1 (fun ins _ _ => rfl)⟩
theorem sameP_comm (a b : PT) : sameP a b = sameP b a := by
  unfold sameP
  simp only [eq_comm]
/-- what the reference compares -/
theorem back_equal {t : PT} (hr : t.right = true) (hk : knownB t.ps = true) : equalP t (totT (totOf t)).1 = sameP (totT (totOf t)).1 (redT t) ∧ (totT (totOf t)).2 = 0 ∧ rightT (totOf t) = true := by
  have h1 : rightT (totOf t) = true := totOf_right (by rw [right_known hr]; exact hk)
  obtain ⟨s1, s2⟩ := tot_self h1
  refine ⟨?_, by rw [totT_eq h1], h1⟩
  rw [equalP_eq, hr, s1, s2, Bool.true_and, Bool.true_and, sameP_comm]
theorem back_no {t : PT} (h : t.right = false ∨ knownB t.ps = false) : backP t = (TotL.zero, false) := by
  unfold backP backB
  rcases h with h | h
  · rw [h]; rfl
  · have h2 : rightT ⟨t.ps, t.st, [], []⟩ = false := by
      unfold rightT
      dsimp only
      rw [h]
      rfl
    rw [h2, Bool.and_false]
    rfl
theorem back_yes {t : PT} (hr : t.right = true) (hk : knownB t.ps = true) : backP t = if sameP (totT (totOf t)).1 (redT t) = true then (totOf t, true) else (TotL.zero, false) := by
  unfold backP backB
  rw [right_known hr, hr, hk]
  rfl
end Go.Proofs.YtmlhkbgifnifdaaGreatDoor
