/-
  cellularref12.Value: where the root leads to. Where the tree is valid and the states are as many as its levels.
  cellularref03.Compare and Sort. No condition but at most a thousand points.
  What the reference's Turn makes is what Turn makes. No condition.
-/
import Derived.Test.YtojnnfihpiegoaaDoorZCn
import Derived.Test.YtojnnfihpiegoaaDoorZCr
namespace Go.Proofs.YtojnnfihpiegoaaDoor
open Go.RowKit
set_option maxRecDepth 100000
set_option linter.unusedVariables false
set_option linter.unusedSimpArgs false

set_option maxHeartbeats 4000000 in
theorem rvalue_any (st : Int) (A : Option Addr) (n c : Nat) (B : Option Addr) (d : Nat) (hs : List Hd) (Av : Option Addr) (cv : Nat) (ins : List Nat) (w : World) (hN : Nds w B hs) (hv : Ints w Av (ins.map fun (s : Nat) => (s : Int)))
  (q : Nat) (hV : VNd q (hs.map Hd.nd)) (hp : 0 < hs.length) (hroot : (ndAt (hs.map Hd.nd) (hs.length - 1)).1 = (ins.length : Int)) (hq : ∀ s ∈ ins, s < q) :
  Calls Tryd.prog 76 #[.agg #[.int .i64 st, .slice A n c, .slice B hs.length d], .slice Av ins.length cv] w fun e w' => e = .returned (.int .i64 (val (hs.map Hd.nd) ((hs.length - 1 : Nat) : Int) ins)) ∧ Below w.heap.size w w' := by
 obtain ⟨w0, hw0⟩ : ∃ w0, w0 = w.alloc (.cells #[.int .i64 st, .slice A n c, .slice B hs.length d] 25) := ⟨_, rfl⟩
 have hb0 : Below w.heap.size w w0 := by rw [hw0]; exact below_new _ _
 have p0 : Blk w0 w.heap.size 25 #[.int .i64 st, .slice A n c, .slice B hs.length d] := by rw [hw0]; exact Blk.new _ _ _
 have hlN := hN.le
 have hlI := hv.le
 rw [List.length_map] at hlI
 obtain ⟨N1, hN1⟩ : ∃ N1, N1 = hs.length - 1 := ⟨_, rfl⟩
 have hwN : wrap64 ((hs.length : Int) - 1) = (N1 : Int) := by unfold wrap64; omega
 have HN1 : Hid (N1 < hs.length) := Lib.hid (by omega)
 rw [← hN1] at hroot ⊢
 obtain ⟨r, hr⟩ : ∃ r, r = val (hs.map Hd.nd) (N1 : Int) ins := ⟨_, rfl⟩
 rw [← hr]
 have HR := Lib.hid hr
 have HRT := Lib.hid hroot
 have HV := Lib.hid hV
 have HQ := Lib.hid hq
 have HB0 := Lib.hid hb0
 have HP0 := Lib.hid p0
 have HW0 := Lib.hid hw0
 have HN := Lib.hid (hN.ext hb0)
 have HI := Lib.hid (hv.ext hb0)
 have HLI := Lib.hid hlI
 have c2 := p0.cell_ 2 (.slice B hs.length d) rfl
 clear hb0 p0 hw0 hN hv hV hp hroot hq hr hN1 hlN hlI
 go_enter Tryd.func76, Tryd.ntmps76
 go_upto_region 1 with fail
 rw [← HW0.out]
 go_wp2
 clear c2
 go_loopw [5, 6] (fun kv iv wr => ∃ (cur : Int) (i : Nat), kv = .int .i64 cur ∧ iv = .int .i64 i ∧ i ≤ ins.length ∧ Hid (Below w0.heap.size w0 wr) ∧ Hid (val (hs.map Hd.nd) cur (ins.drop i) = r) ∧ Hid (i < ins.length → 0 ≤ cur ∧ cur.toNat < hs.length ∧ (ndAt (hs.map Hd.nd) cur.toNat).1 = ((ins.length - i : Nat) : Int))) (fun _ iv _ => ins.length - (intOf iv).toNat)
 case atStart => exact ⟨(N1 : Int), 0, (by first | rfl | (rw [hwN])), rfl, Nat.zero_le _, Lib.hid (Below.refl _ _), Lib.hid HR.out.symm, Lib.hid (fun _ => ⟨Int.natCast_nonneg _, by rw [Int.toNat_natCast]; exact HN1.out, by rw [Int.toNat_natCast]; exact HRT.out⟩)⟩
 case round =>
  obtain ⟨cur, i, rfl, rfl, hi, HBR, HVL, HC⟩ := hrel
  clear hwN
  have c2 := (HP0.out.below HBR.out HP0.out.lt).cell_ 2 (.slice B hs.length d) rfl
  by_cases hil : i < ins.length
  ·have hwi : wrap64 ((i : Int) + 1) = (i : Int) + 1 := by have := HLI.out; unfold wrap64; omega
   obtain ⟨k0, k1, k2⟩ := HC.out hil
   obtain ⟨kn, hkn⟩ : ∃ kn : Nat, cur = kn := ⟨cur.toNat, (Int.toNat_of_nonneg k0).symm⟩
   subst hkn
   rw [Int.toNat_natCast] at k1 k2
   have hk1' : kn < (hs.map Hd.nd).length := by rw [List.length_map]; exact k1
   obtain ⟨b, o, e, -, g0, g1, gz⟩ := (HN.out.ext HBR.out).at_ k1
   have hnd := ndl_at hs k1
   have hzl := HV.out.lev.len kn hk1'
   have hkids := HV.out.lev.kids kn hk1'
   obtain ⟨x, hx⟩ : ∃ x, x = hs[kn] := ⟨_, rfl⟩
   rw [← hx] at g0 g1 gz hnd
   obtain ⟨lv, zA, zc, zs⟩ := x
   dsimp only at g0 g1 gz
   change ndAt (hs.map Hd.nd) kn = (lv, zs) at hnd
   rw [hnd] at hzl hkids k2
   dsimp only at hzl hkids k2
   have hil2 : i < (ins.map fun (s : Nat) => (s : Int)).length := by rw [List.length_map]; exact hil
   obtain ⟨b2, o2, e2, -, gi⟩ := (HI.out.ext HBR.out).at_ hil2
   rw [List.getElem_map] at gi
   have hsq := HQ.out _ (List.getElem_mem hil)
   have hdrop := List.drop_eq_getElem_cons hil
   obtain ⟨s, hs'⟩ : ∃ s, s = ins[i] := ⟨_, rfl⟩
   rw [← hs'] at gi hsq hdrop
   have hsz : s < zs.length := by rw [hzl]; exact hsq
   obtain ⟨b3, o3, e3, -, gk⟩ := gz.at_ hsz
   have hgd : zs.getD s 0 = zs[s] := by rw [List.getD_eq_getElem?_getD, List.getElem?_eq_getElem hsz]; rfl
   obtain ⟨z, hz⟩ : ∃ z, z = zs[s] := ⟨_, rfl⟩
   have hzm : z ∈ zs := by rw [hz]; exact List.getElem_mem hsz
   rw [← hz] at gk hgd
   have hv2 := HVL.out
   rw [hdrop] at hv2
   simp only [val, Int.toNat_natCast, hnd, hgd] at hv2
   have HV2 := Lib.hid hv2
   have HC2 : Hid (i + 1 < ins.length → 0 ≤ z ∧ z.toNat < hs.length ∧ (ndAt (hs.map Hd.nd) z.toNat).1 = ((ins.length - (i + 1) : Nat) : Int)) := Lib.hid (fun h => by
    obtain ⟨m1, m2, m3⟩ := hkids (by omega) z hzm
    rw [List.length_map] at m2
    exact ⟨m1, m2, by omega⟩)
   have HIL := Lib.hid hil
   have hsz2 := hsz
   clear hx hs' hz hzm hkids hdrop hv2 k0 hgd hnd gz k2 hzl hsq hi
   subst e e2 e3
   go_upto_region 5 with fail
   go_quiet (fail)
   go_wp2
   go_roundw
   case rel => exact ⟨z, i + 1, rfl, (by first | rfl | (rw [hwi]; rfl)), HIL.out, (by first | exact HBR | exact Lib.hid (HBR.out.drew) | exact Lib.hid (below_drewN HBR.out _)), HV2, HC2⟩
   case measure => (try rw [hwi]); exact meas_step HIL.out
  ·have hie : i = ins.length := Nat.le_antisymm hi (Nat.le_of_not_lt hil)
   have hv2 := HVL.out
   rw [hie, List.drop_of_length_le (Nat.le_refl _)] at hv2
   have HE : Hid (cur = r) := Lib.hid hv2
   clear hie hv2 hi
   go_wp2
   go_ret
   exact ⟨ret_int (by rw [HE.out]), HB0.out.trans (HBR.out.mono HB0.out.size)⟩
end Go.Proofs.YtojnnfihpiegoaaDoor
namespace Go.Proofs.YtojnnfihpiegoaaDoor
open Go.RowKit
set_option maxRecDepth 100000
set_option linter.unusedVariables false
set_option linter.unusedSimpArgs false

def insP : List (Int × Int) → Int × Int → List (Int × Int)
 | [], p => [p]
 | o :: r, p => if gtB p o = true then o :: insP r p else if o = p then o :: r else p :: o :: r
def sortTo (l : List (Int × Int)) : Nat → List (Int × Int)
 | 0 => []
 | k + 1 => insP (sortTo l k) (l.getD k (0, 0))
theorem insP_take {p : Int × Int} : ∀ (os : List (Int × Int)) (k : Nat), (∀ o ∈ os.take k, gtB p o = true) → insP os p = os.take k ++ insP (os.drop k) p
 | os, 0, _ => by simp
 | [], k + 1, _ => by simp
 | o :: r, k + 1, h => by
  have h1 : gtB p o = true := h o (by simp)
  have ih := insP_take r k (fun x hx => h x (by simp [hx]))
  simp only [insP, h1, if_true, List.take_succ_cons, List.drop_succ_cons, List.cons_append]
  rw [ih]
theorem insP_len (p : Int × Int) : ∀ os : List (Int × Int), (insP os p).length ≤ os.length + 1
 | [] => by simp [insP]
 | o :: r => by
  have := insP_len p r
  unfold insP
  split
  ·simp; omega
  ·split <;> simp
theorem sortTo_len (l : List (Int × Int)) : ∀ k, (sortTo l k).length ≤ k
 | 0 => by simp [sortTo]
 | k + 1 => by have := sortTo_len l k; have := insP_len (l.getD k (0, 0)) (sortTo l k); simp only [sortTo]; omega
theorem insP_perm {p : Int × Int} : ∀ {os : List (Int × Int)}, p ∉ os → (insP os p).Perm (p :: os)
 | [], _ => .refl _
 | o :: r, h => by
  unfold insP
  split
  ·exact ((insP_perm (fun hr => h (List.mem_cons_of_mem _ hr))).cons o).trans (List.Perm.swap p o r)
  ·rw [if_neg (fun e => h (by rw [e]; exact List.mem_cons_self))]
theorem insP_mem {p x : Int × Int} : ∀ {os : List (Int × Int)}, x ∈ insP os p → x = p ∨ x ∈ os
 | [], h => .inl (List.mem_singleton.1 h)
 | o :: r, h => by
  unfold insP at h
  split at h
  ·rcases List.mem_cons.1 h with e | h
   ·exact .inr (by rw [e]; exact List.mem_cons_self)
   ·rcases insP_mem h with e | e
    ·exact .inl e
    ·exact .inr (List.mem_cons_of_mem _ e)
  ·split at h
   ·exact .inr h
   ·rcases List.mem_cons.1 h with e | h
    ·exact .inl e
    ·exact .inr h
theorem insP_pw {p : Int × Int} : ∀ {os : List (Int × Int)}, os.Pairwise leP → (insP os p).Pairwise leP
 | [], _ => by simp [insP]
 | o :: r, h => by
  rw [List.pairwise_cons] at h
  unfold insP
  by_cases h1 : gtB p o = true
  ·rw [if_pos h1]
   refine List.pairwise_cons.2 ⟨fun x hx => ?_, insP_pw h.2⟩
   rcases insP_mem hx with e | e
   ·rw [e]; unfold leP; rw [gtB_asymm h1]; decide
   ·exact h.1 x e
  ·rw [if_neg h1]
   by_cases h2 : o = p
   ·rw [if_pos h2]; exact List.pairwise_cons.2 h
   ·rw [if_neg h2]
    refine List.pairwise_cons.2 ⟨fun x hx => ?_, List.pairwise_cons.2 h⟩
    rcases List.mem_cons.1 hx with e | e
    ·rw [e]; exact h1
    ·exact leP_trans h1 (h.1 x e)
theorem sortTo_ok {l : List (Int × Int)} (hn : l.Nodup) : ∀ k, k ≤ l.length → (sortTo l k).Perm (l.take k) ∧ (sortTo l k).Pairwise leP
 | 0, _ => by simp [sortTo]
 | k + 1, hk => by
  obtain ⟨h1, h2⟩ := sortTo_ok hn k (by omega)
  have e : l.getD k (0, 0) = l[k] := by rw [List.getD_eq_getElem?_getD, List.getElem?_eq_getElem (by omega)]; rfl
  have ht : l.take (k + 1) = l.take k ++ [l[k]] := List.take_succ_eq_append_getElem (by omega)
  have hnt : (l.take (k + 1)).Nodup := hn.sublist (List.take_sublist _ _)
  rw [ht] at hnt
  have hni : l[k] ∉ l.take k := fun hm => (List.nodup_append.1 hnt).2.2 _ hm _ (by simp) rfl
  simp only [sortTo]
  rw [e]
  refine ⟨?_, insP_pw h2⟩
  rw [ht]
  exact (insP_perm (fun hm => hni (h1.mem_iff.1 hm))).trans ((h1.cons _).trans (List.perm_append_singleton _ _).symm)
theorem ordP_val (x y x' y' : Int) : ordP x y x' y' = if gtB (x', y') (x, y) = true then -1 else if (x, y) = (x', y') then 0 else 1 := by
 by_cases h1 : gtB (x', y') (x, y) = true
 ·rw [if_pos h1]
  rw [gtB_iff] at h1
  dsimp only at h1
  unfold ordP Lib.compareInt
  rcases h1 with h | ⟨h, h'⟩
  ·simp [h]
  ·subst h; simp [h']
 ·rw [if_neg h1]
  rw [gtB_iff] at h1
  dsimp only at h1
  unfold ordP Lib.compareInt
  by_cases h2 : (x, y) = (x', y')
  ·rw [if_pos h2]
   rw [Prod.mk.injEq] at h2
   obtain ⟨rfl, rfl⟩ := h2
   simp
  ·rw [if_neg h2]
   rw [Prod.mk.injEq] at h2
   by_cases h3 : y = y'
   ·subst h3
    have h4 : ¬ x < x' := by omega
    have h5 : x' < x := by omega
    simp [h4, h5]
   ·have h4 : ¬ y < y' := by omega
    have h5 : y' < y := by omega
    simp [h4, h5]
set_option maxHeartbeats 1000000 in
theorem rcompare_any (x y x' y' : Int) (w : World) : Calls Tryd.prog 75 #[ptV x y, ptV x' y'] w fun e w' => e = .returned (.int .i64 (ordP x y x' y')) ∧ Below w.heap.size w w' := by
 rw [ordP_val]
 unfold ptV
 by_cases h1 : y < y'
 ·have d1 : decide (y < y') = true := decide_eq_true h1
  rw [if_pos (by rw [gtB_iff]; exact .inl h1)]
  clear h1
  go_enter Tryd.func75, Tryd.ntmps75
  go_wp2
  go_ret
  exact ⟨ret_int rfl, (below_new w _).alloc (below_new w _).size _⟩
 ·have d1 : decide (y < y') = false := decide_eq_false h1
  by_cases h2 : y = y'
  ·have e2 : (y == y') = true := by simp [h2]
   by_cases h3 : x < x'
   ·have d3 : decide (x < x') = true := decide_eq_true h3
    rw [if_pos (by rw [gtB_iff]; exact .inr ⟨h2, h3⟩)]
    clear h1 h2 h3
    go_enter Tryd.func75, Tryd.ntmps75
    go_wp2
    go_ret
    exact ⟨ret_int rfl, (below_new w _).alloc (below_new w _).size _⟩
   ·have d3 : decide (x < x') = false := decide_eq_false h3
    rw [if_neg (by rw [gtB_iff]; dsimp only; omega)]
    by_cases h4 : x = x'
    ·have e4 : (x == x') = true := by simp [h4]
     rw [if_pos (by rw [h2, h4])]
     subst h2 h4
     clear h1 h3
     go_enter Tryd.func75, Tryd.ntmps75
     go_wp2
     go_ret
     exact ⟨ret_int rfl, (below_new w _).alloc (below_new w _).size _⟩
    ·have e4 : (x == x') = false := by simpa using h4
     rw [if_neg (by rw [Prod.mk.injEq]; omega)]
     subst h2
     clear h1 h3
     go_enter Tryd.func75, Tryd.ntmps75
     go_wp2
     go_ret
     exact ⟨ret_int rfl, (below_new w _).alloc (below_new w _).size _⟩
  ·have e2 : (y == y') = false := by simpa using h2
   rw [if_neg (by rw [gtB_iff]; dsimp only; omega), if_neg (by rw [Prod.mk.injEq]; omega)]
   clear h1
   go_enter Tryd.func75, Tryd.ntmps75
   go_wp2
   go_ret
   exact ⟨ret_int rfl, (below_new w _).alloc (below_new w _).size _⟩
set_option maxHeartbeats 16000000 in
theorem rsort_any (A : Option Addr) (c : Nat) (l : List (Int × Int)) (w : World) (ha : Pts w A l) (hl : l.length ≤ 1000) :
  Calls Tryd.prog 53 #[.slice A l.length c] w fun e w' => ∃ A' c', e = .returned (.slice A' (sortTo l l.length).length c') ∧ OwnP 49 w' w.heap.size (.slice A' (sortTo l l.length).length c') (sortTo l l.length) ∧ Below w.heap.size w w' := by
 have HA := Lib.hid ha
 have HL := Lib.hid hl
 clear ha hl
 go_enter Tryd.func53, Tryd.ntmps53
 go_wp2
 go_loopw [3, 4] (fun ov iv wr => ∃ (i : Nat) (Ao : Option Addr) (co : Nat), i ≤ l.length ∧ ov = .slice Ao (sortTo l i).length co ∧ iv = .int .i64 i ∧ Hid (Pts wr Ao (sortTo l i)) ∧ Hid (Below w.heap.size w wr) ∧ Hid (OwnP 49 wr w.heap.size (.slice Ao (sortTo l i).length co) (sortTo l i))) (fun _ iv _ => l.length - (intOf iv).toNat)
 case atStart => exact ⟨0, none, 0, Nat.zero_le _, rfl, rfl, Lib.hid Pts.nil, Lib.hid (Below.refl _ _), Lib.hid (OwnP.nil _ _ _)⟩
 case round =>
  obtain ⟨i, Ao, co, hi, rfl, rfl, HO, HBR, HOWN⟩ := hrel
  have hwi : wrap64 ((i : Int) + 1) = (i : Int) + 1 := by have := HL.out; unfold wrap64; omega
  by_cases hil : i < l.length
  ·obtain ⟨bl, ol, el, hbl, l0, l1⟩ := (HA.out.ext HBR.out).at_ hil
   have hss : sortTo l (i + 1) = insP (sortTo l i) l[i] := by
    show insP (sortTo l i) (l.getD i (0, 0)) = _
    rw [List.getD_eq_getElem?_getD, List.getElem?_eq_getElem hil]; rfl
   obtain ⟨p, hp⟩ : ∃ p, p = l[i] := ⟨_, rfl⟩
   rw [← hp] at hss l0 l1
   have hol := sortTo_len l i
   clear HOWN
   obtain ⟨os, hos⟩ : ∃ os, os = sortTo l i := ⟨_, rfl⟩
   rw [← hos] at HO hss hol ⊢
   obtain ⟨x', y'⟩ := p
   dsimp only at l0 l1
   obtain ⟨wa, hwa⟩ : ∃ wa, wa = wr := ⟨_, rfl⟩
   rw [← hwa] at HO HBR l0 l1 hbl ⊢
   have HSS := Lib.hid hss
   have HIL := Lib.hid hil
   have HOL : Hid (os.length ≤ 1000) := Lib.hid (by have := HL.out; omega)
   have HP0 := Lib.hid l0
   have HP1 := Lib.hid l1
   have HBLL := Lib.hid hbl
   subst el
   clear hwa hss hp hol hos hi l0 l1 hbl
   go_upto_region 7 with fail
   go_loopw [5, 6] (fun nv kv wr => ∃ k : Nat, k ≤ os.length ∧ kv = .int .i64 k ∧ Hid (OwnP 49 wr wa.heap.size nv (os.take k)) ∧ Hid (∀ o ∈ os.take k, gtB (x', y') o = true) ∧ Hid (Below wa.heap.size wa wr)) (fun _ kv _ => os.length - (intOf kv).toNat)
   case atStart => exact ⟨0, Nat.zero_le _, rfl, Lib.hid (by rw [List.take_zero]; exact OwnP.nil _ _ _), Lib.hid (by simp), Lib.hid (Below.refl _ _)⟩
   case round =>
    obtain ⟨k, hk, rfl, HN, HG, HBK⟩ := hrel
    have hwk : wrap64 ((k : Int) + 1) = (k : Int) + 1 := by have := HOL.out; unfold wrap64; omega
    have HTK := Lib.hid (insP_take os k HG.out)
    have L0 := cell_regrown ((HBK.out.cell (p := ⟨bl, ol + i * 2, none⟩) HBLL.out).trans HP0.out)
    have L1 := cell_regrown ((HBK.out.cell (p := ⟨bl, ol + i * 2 + 1, none⟩) HBLL.out).trans HP1.out)
    by_cases hko : k < os.length
    ·obtain ⟨bo, oo, eo, hbo, o0, o1⟩ := (HO.out.ext HBK.out).at_ hko
     have htk := List.take_succ_eq_append_getElem hko
     have hdr := List.drop_eq_getElem_cons hko
     obtain ⟨q, hq⟩ : ∃ q, q = os[k] := ⟨_, rfl⟩
     rw [← hq] at o0 o1 htk hdr
     obtain ⟨x, y⟩ := q
     dsimp only at o0 o1
     subst eo
     have O0 := cell_regrown o0
     have O1 := cell_regrown o1
     have hlk : (os.take k).length = k := by rw [List.length_take]; omega
     have HLK : Hid ((os.take k).length < 1000000000000) := Lib.hid (by rw [hlk]; have := HOL.out; omega)
     have cC := fun d os => Calls.regrown_of (w := wr) (d := d) (os := os) (rcompare_any x y x' y' _)
     unfold ptV at cC
     have CC := Lib.hid cC
     have hov := ordP_val x y x' y'
     have HTS := Lib.hid htk
     have HDR := Lib.hid hdr
     have HKO := Lib.hid hko
     clear cC hq htk hdr hlk hk
     by_cases hlt : gtB (x', y') (x, y) = true
     ·rw [if_pos hlt] at hov
      have q1 : decide (ordP x y x' y' < 0) = true := by rw [hov]; rfl
      have HG2 : Hid (∀ o ∈ os.take (k + 1), gtB (x', y') o = true) := Lib.hid (fun o ho => by
       rw [HTS.out] at ho
       rcases List.mem_append.1 ho with h | h
       ·exact HG.out o h
       ·rw [List.mem_singleton.1 h]; exact hlt)
      clear hlt hov
      go_upto_region 7 with fail
      refine wp_region_quiet_below (by kernel_rfl) (by kernel_rfl) ?_
      repeat (go_big_quiet_step (with_reducible exact CC.out _ _))
      refine wpQuiet_nil ?_
      intro _ hw'
      obtain ⟨⟨dq, osq⟩, hw''⟩ := hw'
      subst hw''
      obtain ⟨wq, hbq, hwq⟩ : ∃ wq, Below wr.heap.size wr wq ∧ wq = _ := ⟨_, below_regrown wr dq osq, rfl⟩
      rw [← hwq]
      have o0' := (hbq.cell (p := ⟨bo, oo + k * 2, none⟩) hbo).trans o0
      have o1' := (hbq.cell (p := ⟨bo, oo + k * 2 + 1, none⟩) hbo).trans o1
      have HNQ := Lib.hid (HN.out.ext hbq)
      have HBQ : Hid (Below wa.heap.size wa wq) := Lib.hid (HBK.out.trans (hbq.mono HBK.out.size))
      clear hbq hwq O0 O1 L0 L1 CC q1 o0 o1
      go_wp2_with (at_builtin; refine wpList_pushP rfl _ _ _ rfl wa.heap.size 49 Tryd.underlying22 Tryd.infoPt _ _ rfl HNQ.out _ _ rfl HLK.out HBQ.out.size ?_)
      intro v' w5 hown hb5
      have HN5 : Hid (OwnP 49 w5 wa.heap.size v' (os.take (k + 1))) := Lib.hid (by rw [HTS.out]; exact hown)
      have HB5 : Hid (Below wa.heap.size wa w5) := Lib.hid (HBQ.out.trans hb5)
      clear hown hb5 o0' o1'
      go_wp2
      go_roundw
      case rel => exact ⟨k + 1, HKO.out, (by first | rfl | (rw [hwk]; rfl)), HN5, HG2, HB5⟩
      case measure => (try rw [hwk]); exact meas_step HKO.out
     ·rw [if_neg hlt] at hov
      have hkl2 : (k == os.length) = false := by simpa using Nat.ne_of_lt HKO.out
      have hkl3 : ((k : Int) == (os.length : Int)) = false := beq_eq_false_iff_ne.2 (fun e => Nat.ne_of_lt HKO.out (Int.ofNat.inj e))
      by_cases heq : (x, y) = (x', y')
      ·rw [if_pos heq] at hov
       have q1 : decide (ordP x y x' y' < 0) = false := by rw [hov]; rfl
       have q2 : (ordP x y x' y' != 0) = false := by rw [hov]; rfl
       have HF : Hid (sortTo l (i + 1) = os.take k ++ os.drop k) := Lib.hid (by
        rw [HSS.out, HTK.out, HDR.out]
        simp only [insP]
        rw [if_neg hlt, if_pos heq])
       clear hlt hov heq
       go_upto_region 7 with fail
       refine wp_region_quiet_below (by kernel_rfl) (by kernel_rfl) ?_
       repeat (go_big_quiet_step (with_reducible exact CC.out _ _))
       refine wpQuiet_nil ?_
       intro _ hw'
       obtain ⟨⟨dq, osq⟩, hw''⟩ := hw'
       subst hw''
       obtain ⟨wq, hbq, hwq⟩ : ∃ wq, Below wr.heap.size wr wq ∧ wq = _ := ⟨_, below_regrown wr dq osq, rfl⟩
       rw [← hwq]
       have HNQ := Lib.hid (HN.out.ext hbq)
       have HBQ : Hid (Below wa.heap.size wa wq) := Lib.hid (HBK.out.trans (hbq.mono HBK.out.size))
       have o0' := cell_regrown ((hbq.cell (p := ⟨bo, oo + k * 2, none⟩) hbo).trans o0)
       have o1' := cell_regrown ((hbq.cell (p := ⟨bo, oo + k * 2 + 1, none⟩) hbo).trans o1)
       have M0 := cell_regrown ((HBQ.out.cell (p := ⟨bl, ol + i * 2, none⟩) HBLL.out).trans HP0.out)
       have M1 := cell_regrown ((HBQ.out.cell (p := ⟨bl, ol + i * 2 + 1, none⟩) HBLL.out).trans HP1.out)
       have cD := fun d os => Calls.regrown_of (w := wq) (d := d) (os := os) (rcompare_any x y x' y' _)
       unfold ptV at cD
       have CC := Lib.hid cD
       clear hbq hwq O0 O1 L0 L1 cD q1 o0 o1
       go_upto_region 10 with fail
       refine wp_region_quiet_below (by kernel_rfl) (by kernel_rfl) ?_
       repeat (go_big_quiet_step (with_reducible exact CC.out _ _))
       refine wpQuiet_nil ?_
       intro _ hw'
       obtain ⟨⟨dq, osq⟩, hw''⟩ := hw'
       subst hw''
       obtain ⟨wz, hbz, hwz⟩ : ∃ wz, Below wq.heap.size wq wz ∧ wz = _ := ⟨_, below_regrown wq dq osq, rfl⟩
       rw [← hwz]
       have HNZ := Lib.hid (HNQ.out.ext hbz)
       have HBZ : Hid (Below wa.heap.size wa wz) := Lib.hid (HBQ.out.trans (hbz.mono HBQ.out.size))
       clear hbz hwz o0' o1' M0 M1 CC q2 hkl2 hkl3
       go_upto_region 12 with fail
       go_loopw [5, 6] (fun nv mv wr => ∃ (m : Nat) (nx : List (Int × Int)), m ≤ os.length ∧ mv = .int .i64 m ∧ Hid (OwnP 49 wr wa.heap.size nv nx) ∧ Hid (sortTo l (i + 1) = nx ++ os.drop m) ∧ Hid (nx.length ≤ 2000) ∧ Hid (Below wa.heap.size wa wr)) (fun _ mv _ => os.length - (intOf mv).toNat)
       case atStart => exact ⟨k, _, Nat.le_of_lt HKO.out, rfl, HNZ, HF, Lib.hid (by have := HOL.out; simp only [List.length_append, List.length_take, List.length_singleton]; omega), HBZ⟩
       case round =>
        obtain ⟨m, nx, hm, rfl, HNM, HFM, HLM, HBM⟩ := hrel
        have hwm : wrap64 ((m : Int) + 1) = (m : Int) + 1 := by have := HOL.out; unfold wrap64; omega
        by_cases hmo : m < os.length
        ·obtain ⟨bo2, oo2, eo2, -, o0, o1⟩ := (HO.out.ext HBM.out).at_ hmo
         have hdr2 := List.drop_eq_getElem_cons hmo
         obtain ⟨z, hz⟩ : ∃ z, z = os[m] := ⟨_, rfl⟩
         rw [← hz] at o0 o1 hdr2
         obtain ⟨zx, zy⟩ := z
         dsimp only at o0 o1
         obtain ⟨rfl, rfl⟩ : bo2 = bo ∧ oo2 = oo := by injection eo2 with eo2; injection eo2 with e1 e2; exact ⟨e1.symm, e2.symm⟩
         have hl1 : (nx ++ os.drop m).length ≤ 1000 + 1 := by rw [← HFM.out]; have h1 := sortTo_len l (i + 1); have h2 := HL.out; have h3 := HIL.out; omega
         have HLN : Hid (nx.length < 1000000000000) := Lib.hid (by rw [List.length_append] at hl1; omega)
         have HLM2 : Hid ((nx ++ [(zx, zy)]).length ≤ 2000) := Lib.hid (by rw [hdr2] at hl1; simp only [List.length_append, List.length_cons, List.length_nil] at hl1 ⊢; omega)
         have HF2 : Hid (sortTo l (i + 1) = (nx ++ [(zx, zy)]) ++ os.drop (m + 1)) := Lib.hid (by rw [HFM.out, hdr2]; simp)
         have HMO := Lib.hid hmo
         clear hl1 hdr2 hz hm
         go_wp2_with (at_builtin; refine wpList_pushP rfl _ _ _ rfl wa.heap.size 49 Tryd.underlying22 Tryd.infoPt _ _ rfl HNM.out _ _ rfl HLN.out HBM.out.size ?_)
         intro v9 w9 hown hb9
         have HN9 := Lib.hid hown
         have HB9 : Hid (Below wa.heap.size wa w9) := Lib.hid (HBM.out.trans hb9)
         clear hown hb9 o0 o1
         go_wp2
         go_roundw
         case rel => exact ⟨m + 1, _, HMO.out, (by first | rfl | (rw [hwm]; rfl)), HN9, HF2, HLM2, HB9⟩
         case measure => (try rw [hwm]); exact meas_step HMO.out
        ·have hme : m = os.length := Nat.le_antisymm hm (Nat.le_of_not_lt hmo)
         have hf := HFM.out
         rw [hme, List.drop_of_length_le (Nat.le_refl _), List.append_nil] at hf
         obtain ⟨An, cn, env, hpn, -⟩ := HNM.out.pts
         subst env
         rw [← hf]
         have HPN : Hid (Pts wr An (sortTo l (i + 1))) := Lib.hid (by rw [hf]; exact hpn)
         have HON : Hid (OwnP 49 wr w.heap.size (.slice An (sortTo l (i + 1)).length cn) (sortTo l (i + 1))) := Lib.hid (by rw [hf]; exact HNM.out.down HBR.out.size)
         have HBE : Hid (Below w.heap.size w wr) := Lib.hid (HBR.out.trans (HBM.out.mono HBR.out.size))
         clear hf hme hpn hm HFM HLM
         go_wp2
         go_roundw
         case rel => exact ⟨i + 1, An, cn, HIL.out, rfl, (by first | rfl | (rw [hwi]; rfl)), HPN, HBE, HON⟩
         case measure => (try rw [hwi]); exact meas_step HIL.out
      ·rw [if_neg heq] at hov
       have q1 : decide (ordP x y x' y' < 0) = false := by rw [hov]; rfl
       have q2 : (ordP x y x' y' != 0) = true := by rw [hov]; rfl
       have HF : Hid (sortTo l (i + 1) = (os.take k ++ [(x', y')]) ++ os.drop k) := Lib.hid (by
        rw [HSS.out, HTK.out, HDR.out]
        simp only [insP]
        rw [if_neg hlt, if_neg heq]
        simp)
       clear hlt hov heq
       go_upto_region 7 with fail
       refine wp_region_quiet_below (by kernel_rfl) (by kernel_rfl) ?_
       repeat (go_big_quiet_step (with_reducible exact CC.out _ _))
       refine wpQuiet_nil ?_
       intro _ hw'
       obtain ⟨⟨dq, osq⟩, hw''⟩ := hw'
       subst hw''
       obtain ⟨wq, hbq, hwq⟩ : ∃ wq, Below wr.heap.size wr wq ∧ wq = _ := ⟨_, below_regrown wr dq osq, rfl⟩
       rw [← hwq]
       have HNQ := Lib.hid (HN.out.ext hbq)
       have HBQ : Hid (Below wa.heap.size wa wq) := Lib.hid (HBK.out.trans (hbq.mono HBK.out.size))
       have o0' := cell_regrown ((hbq.cell (p := ⟨bo, oo + k * 2, none⟩) hbo).trans o0)
       have o1' := cell_regrown ((hbq.cell (p := ⟨bo, oo + k * 2 + 1, none⟩) hbo).trans o1)
       have M0 := cell_regrown ((HBQ.out.cell (p := ⟨bl, ol + i * 2, none⟩) HBLL.out).trans HP0.out)
       have M1 := cell_regrown ((HBQ.out.cell (p := ⟨bl, ol + i * 2 + 1, none⟩) HBLL.out).trans HP1.out)
       have cD := fun d os => Calls.regrown_of (w := wq) (d := d) (os := os) (rcompare_any x y x' y' _)
       unfold ptV at cD
       have CC := Lib.hid cD
       clear hbq hwq O0 O1 L0 L1 cD q1 o0 o1
       go_upto_region 10 with fail
       refine wp_region_quiet_below (by kernel_rfl) (by kernel_rfl) ?_
       repeat (go_big_quiet_step (with_reducible exact CC.out _ _))
       refine wpQuiet_nil ?_
       intro _ hw'
       obtain ⟨⟨dq, osq⟩, hw''⟩ := hw'
       subst hw''
       obtain ⟨wz, hbz, hwz⟩ : ∃ wz, Below wq.heap.size wq wz ∧ wz = _ := ⟨_, below_regrown wq dq osq, rfl⟩
       rw [← hwz]
       have HNZ := Lib.hid (HNQ.out.ext hbz)
       have HBZ : Hid (Below wa.heap.size wa wz) := Lib.hid (HBQ.out.trans (hbz.mono HBQ.out.size))
       clear hbz hwz o0' o1' M0 M1 CC q2 hkl2 hkl3
       have l0' := (HBZ.out.cell (p := ⟨bl, ol + i * 2, none⟩) HBLL.out).trans HP0.out
       have l1' := (HBZ.out.cell (p := ⟨bl, ol + i * 2 + 1, none⟩) HBLL.out).trans HP1.out
       go_wp2_with (at_builtin; refine wpList_pushP rfl _ _ _ rfl wa.heap.size 49 Tryd.underlying22 Tryd.infoPt _ _ rfl HNZ.out _ _ rfl HLK.out HBZ.out.size ?_)
       intro v' w5 hown hb5
       have HN5 := Lib.hid hown
       have HB5 : Hid (Below wa.heap.size wa w5) := Lib.hid (HBZ.out.trans hb5)
       clear hown hb5 l0' l1'
       go_upto_region 12 with fail
       go_loopw [5, 6] (fun nv mv wr => ∃ (m : Nat) (nx : List (Int × Int)), m ≤ os.length ∧ mv = .int .i64 m ∧ Hid (OwnP 49 wr wa.heap.size nv nx) ∧ Hid (sortTo l (i + 1) = nx ++ os.drop m) ∧ Hid (nx.length ≤ 2000) ∧ Hid (Below wa.heap.size wa wr)) (fun _ mv _ => os.length - (intOf mv).toNat)
       case atStart => exact ⟨k, _, Nat.le_of_lt HKO.out, rfl, HN5, HF, Lib.hid (by have := HOL.out; simp only [List.length_append, List.length_take, List.length_singleton]; omega), HB5⟩
       case round =>
        obtain ⟨m, nx, hm, rfl, HNM, HFM, HLM, HBM⟩ := hrel
        have hwm : wrap64 ((m : Int) + 1) = (m : Int) + 1 := by have := HOL.out; unfold wrap64; omega
        by_cases hmo : m < os.length
        ·obtain ⟨bo2, oo2, eo2, -, o0, o1⟩ := (HO.out.ext HBM.out).at_ hmo
         have hdr2 := List.drop_eq_getElem_cons hmo
         obtain ⟨z, hz⟩ : ∃ z, z = os[m] := ⟨_, rfl⟩
         rw [← hz] at o0 o1 hdr2
         obtain ⟨zx, zy⟩ := z
         dsimp only at o0 o1
         obtain ⟨rfl, rfl⟩ : bo2 = bo ∧ oo2 = oo := by injection eo2 with eo2; injection eo2 with e1 e2; exact ⟨e1.symm, e2.symm⟩
         have hl1 : (nx ++ os.drop m).length ≤ 1000 + 1 := by rw [← HFM.out]; have h1 := sortTo_len l (i + 1); have h2 := HL.out; have h3 := HIL.out; omega
         have HLN : Hid (nx.length < 1000000000000) := Lib.hid (by rw [List.length_append] at hl1; omega)
         have HLM2 : Hid ((nx ++ [(zx, zy)]).length ≤ 2000) := Lib.hid (by rw [hdr2] at hl1; simp only [List.length_append, List.length_cons, List.length_nil] at hl1 ⊢; omega)
         have HF2 : Hid (sortTo l (i + 1) = (nx ++ [(zx, zy)]) ++ os.drop (m + 1)) := Lib.hid (by rw [HFM.out, hdr2]; simp)
         have HMO := Lib.hid hmo
         clear hl1 hdr2 hz hm
         go_wp2_with (at_builtin; refine wpList_pushP rfl _ _ _ rfl wa.heap.size 49 Tryd.underlying22 Tryd.infoPt _ _ rfl HNM.out _ _ rfl HLN.out HBM.out.size ?_)
         intro v9 w9 hown hb9
         have HN9 := Lib.hid hown
         have HB9 : Hid (Below wa.heap.size wa w9) := Lib.hid (HBM.out.trans hb9)
         clear hown hb9 o0 o1
         go_wp2
         go_roundw
         case rel => exact ⟨m + 1, _, HMO.out, (by first | rfl | (rw [hwm]; rfl)), HN9, HF2, HLM2, HB9⟩
         case measure => (try rw [hwm]); exact meas_step HMO.out
        ·have hme : m = os.length := Nat.le_antisymm hm (Nat.le_of_not_lt hmo)
         have hf := HFM.out
         rw [hme, List.drop_of_length_le (Nat.le_refl _), List.append_nil] at hf
         obtain ⟨An, cn, env, hpn, -⟩ := HNM.out.pts
         subst env
         rw [← hf]
         have HPN : Hid (Pts wr An (sortTo l (i + 1))) := Lib.hid (by rw [hf]; exact hpn)
         have HON : Hid (OwnP 49 wr w.heap.size (.slice An (sortTo l (i + 1)).length cn) (sortTo l (i + 1))) := Lib.hid (by rw [hf]; exact HNM.out.down HBR.out.size)
         have HBE : Hid (Below w.heap.size w wr) := Lib.hid (HBR.out.trans (HBM.out.mono HBR.out.size))
         clear hf hme hpn hm HFM HLM
         go_wp2
         go_roundw
         case rel => exact ⟨i + 1, An, cn, HIL.out, rfl, (by first | rfl | (rw [hwi]; rfl)), HPN, HBE, HON⟩
         case measure => (try rw [hwi]); exact meas_step HIL.out
    ·have hke : k = os.length := Nat.le_antisymm hk (Nat.le_of_not_lt hko)
     subst hke
     rw [List.take_of_length_le (Nat.le_refl _)] at HTK HN
     have HLK : Hid (os.length < 1000000000000) := Lib.hid (by have := HOL.out; omega)
     have HF : Hid (sortTo l (i + 1) = (os ++ [(x', y')]) ++ os.drop os.length) := Lib.hid (by
      rw [HSS.out, HTK.out, List.drop_of_length_le (Nat.le_refl _)]
      simp [insP])
     have hkl2 : (os.length == os.length) = true := by simp
     clear hk
     go_upto_region 7 with fail
     refine wp_region_quiet_below (by kernel_rfl) (by kernel_rfl) ?_
     repeat (go_big_quiet_step (fail))
     refine wpQuiet_nil ?_
     intro _ hw'
     obtain ⟨⟨dq, osq⟩, hw''⟩ := hw'
     subst hw''
     obtain ⟨wq, hbq, hwq⟩ : ∃ wq, Below wr.heap.size wr wq ∧ wq = _ := ⟨_, below_regrown wr dq osq, rfl⟩
     rw [← hwq]
     have HNQ := Lib.hid (HN.out.ext hbq)
     have HBQ : Hid (Below wa.heap.size wa wq) := Lib.hid (HBK.out.trans (hbq.mono HBK.out.size))
     clear hbq hwq L0 L1
     go_upto_region 10 with fail
     refine wp_region_quiet_below (by kernel_rfl) (by kernel_rfl) ?_
     repeat (go_big_quiet_step (fail))
     refine wpQuiet_nil ?_
     intro _ hw'
     obtain ⟨⟨dq, osq⟩, hw''⟩ := hw'
     subst hw''
     obtain ⟨wz, hbz, hwz⟩ : ∃ wz, Below wq.heap.size wq wz ∧ wz = _ := ⟨_, below_regrown wq dq osq, rfl⟩
     rw [← hwz]
     have HNZ := Lib.hid (HNQ.out.ext hbz)
     have HBZ : Hid (Below wa.heap.size wa wz) := Lib.hid (HBQ.out.trans (hbz.mono HBQ.out.size))
     clear hbz hwz hkl2
     have l0' := (HBZ.out.cell (p := ⟨bl, ol + i * 2, none⟩) HBLL.out).trans HP0.out
     have l1' := (HBZ.out.cell (p := ⟨bl, ol + i * 2 + 1, none⟩) HBLL.out).trans HP1.out
     go_wp2_with (at_builtin; refine wpList_pushP rfl _ _ _ rfl wa.heap.size 49 Tryd.underlying22 Tryd.infoPt _ _ rfl HNZ.out _ _ rfl HLK.out HBZ.out.size ?_)
     intro v' w5 hown hb5
     have HN5 := Lib.hid hown
     have HB5 : Hid (Below wa.heap.size wa w5) := Lib.hid (HBZ.out.trans hb5)
     clear hown hb5 l0' l1'
     go_upto_region 12 with fail
     go_loopw [5, 6] (fun nv mv wr => ∃ (m : Nat) (nx : List (Int × Int)), m ≤ os.length ∧ mv = .int .i64 m ∧ Hid (OwnP 49 wr wa.heap.size nv nx) ∧ Hid (sortTo l (i + 1) = nx ++ os.drop m) ∧ Hid (nx.length ≤ 2000) ∧ Hid (Below wa.heap.size wa wr)) (fun _ mv _ => os.length - (intOf mv).toNat)
     case atStart => exact ⟨os.length, _, Nat.le_refl _, rfl, HN5, HF, Lib.hid (by have := HOL.out; simp only [List.length_append, List.length_take, List.length_singleton]; omega), HB5⟩
     case round =>
      obtain ⟨m, nx, hm, rfl, HNM, HFM, HLM, HBM⟩ := hrel
      have hwm : wrap64 ((m : Int) + 1) = (m : Int) + 1 := by have := HOL.out; unfold wrap64; omega
      by_cases hmo : m < os.length
      ·obtain ⟨bo2, oo2, eo2, -, o0, o1⟩ := (HO.out.ext HBM.out).at_ hmo
       have hdr2 := List.drop_eq_getElem_cons hmo
       obtain ⟨z, hz⟩ : ∃ z, z = os[m] := ⟨_, rfl⟩
       rw [← hz] at o0 o1 hdr2
       obtain ⟨zx, zy⟩ := z
       dsimp only at o0 o1
       subst eo2
       have hl1 : (nx ++ os.drop m).length ≤ 1000 + 1 := by rw [← HFM.out]; have h1 := sortTo_len l (i + 1); have h2 := HL.out; have h3 := HIL.out; omega
       have HLN : Hid (nx.length < 1000000000000) := Lib.hid (by rw [List.length_append] at hl1; omega)
       have HLM2 : Hid ((nx ++ [(zx, zy)]).length ≤ 2000) := Lib.hid (by rw [hdr2] at hl1; simp only [List.length_append, List.length_cons, List.length_nil] at hl1 ⊢; omega)
       have HF2 : Hid (sortTo l (i + 1) = (nx ++ [(zx, zy)]) ++ os.drop (m + 1)) := Lib.hid (by rw [HFM.out, hdr2]; simp)
       have HMO := Lib.hid hmo
       clear hl1 hdr2 hz hm
       go_wp2_with (at_builtin; refine wpList_pushP rfl _ _ _ rfl wa.heap.size 49 Tryd.underlying22 Tryd.infoPt _ _ rfl HNM.out _ _ rfl HLN.out HBM.out.size ?_)
       intro v9 w9 hown hb9
       have HN9 := Lib.hid hown
       have HB9 : Hid (Below wa.heap.size wa w9) := Lib.hid (HBM.out.trans hb9)
       clear hown hb9 o0 o1
       go_wp2
       go_roundw
       case rel => exact ⟨m + 1, _, HMO.out, (by first | rfl | (rw [hwm]; rfl)), HN9, HF2, HLM2, HB9⟩
       case measure => (try rw [hwm]); exact meas_step HMO.out
      ·have hme : m = os.length := Nat.le_antisymm hm (Nat.le_of_not_lt hmo)
       have hf := HFM.out
       rw [hme, List.drop_of_length_le (Nat.le_refl _), List.append_nil] at hf
       obtain ⟨An, cn, env, hpn, -⟩ := HNM.out.pts
       subst env
       rw [← hf]
       have HPN : Hid (Pts wr An (sortTo l (i + 1))) := Lib.hid (by rw [hf]; exact hpn)
       have HON : Hid (OwnP 49 wr w.heap.size (.slice An (sortTo l (i + 1)).length cn) (sortTo l (i + 1))) := Lib.hid (by rw [hf]; exact HNM.out.down HBR.out.size)
       have HBE : Hid (Below w.heap.size w wr) := Lib.hid (HBR.out.trans (HBM.out.mono HBR.out.size))
       clear hf hme hpn hm HFM HLM
       go_wp2
       go_roundw
       case rel => exact ⟨i + 1, An, cn, HIL.out, rfl, (by first | rfl | (rw [hwi]; rfl)), HPN, HBE, HON⟩
       case measure => (try rw [hwi]); exact meas_step HIL.out
  ·have hie : i = l.length := Nat.le_antisymm hi (Nat.le_of_not_lt hil)
   subst hie
   clear hi hil hwi
   go_wp2
   go_ret
   exact ⟨Ao, co, rfl, HOWN.out, HBR.out⟩
end Go.Proofs.YtojnnfihpiegoaaDoor
namespace Go.Proofs.YtojnnfihpiegoaaDoor
set_option linter.unusedVariables false
set_option linter.unusedSimpArgs false

/-- the positions below n at which the point lies -/
def posE (im : List (Int × Int)) (h : Int × Int) (n : Nat) : List Nat := (List.range n).filter fun j => decide (im.getD j (0, 0) = h)
def odTo (im hd : List (Int × Int)) (i : Nat) : List Nat := (hd.take i).flatMap fun h => posE im h im.length
theorem posE_succ (im : List (Int × Int)) (h : Int × Int) (n : Nat) : posE im h (n + 1) = posE im h n ++ if im.getD n (0, 0) = h then [n] else [] := by
 unfold posE
 rw [List.range_succ, List.filter_append]
 congr 1
 by_cases e : im.getD n (0, 0) = h
 ·rw [List.filter_cons_of_pos (by rw [decide_eq_true_iff]; exact e), List.filter_nil, if_pos e]
 ·rw [List.filter_cons_of_neg (by rw [decide_eq_true_iff]; exact e), List.filter_nil, if_neg e]
theorem odTo_succ {im hd : List (Int × Int)} {i : Nat} (hi : i < hd.length) : odTo im hd (i + 1) = odTo im hd i ++ posE im hd[i] im.length := by
 unfold odTo
 rw [List.take_succ_eq_append_getElem hi, List.flatMap_append]
 simp
theorem posE_len (im : List (Int × Int)) (h : Int × Int) (n : Nat) : (posE im h n).length ≤ n := by
 unfold posE
 exact Nat.le_trans (List.length_filter_le _ _) (by simp)
theorem posE_one {im : List (Int × Int)} (hn : im.Nodup) {p : Nat} (hp : p < im.length) : ∀ n, (n ≤ p → posE im im[p] n = []) ∧ (p < n → n ≤ im.length → posE im im[p] n = [p])
 | 0 => ⟨fun _ => rfl, fun h => absurd h (by omega)⟩
 | n + 1 => by
  obtain ⟨h1, h2⟩ := posE_one hn hp n
  refine ⟨fun h => ?_, fun h hl => ?_⟩
  ·rw [posE_succ, h1 (by omega), if_neg]
   ·rfl
   ·rw [List.getD_eq_getElem?_getD, List.getElem?_eq_getElem (by omega)]
    intro e
    have e' : im[n] = im[p] := e
    have := ((List.getElem?_inj (i := n) (j := p) (by omega) hn).1 (by rw [List.getElem?_eq_getElem (by omega), List.getElem?_eq_getElem hp, e']))
    omega
  ·rw [posE_succ]
   by_cases hnp : n = p
   ·subst hnp
    rw [h1 (Nat.le_refl _), if_pos]
    ·rfl
    ·rw [List.getD_eq_getElem?_getD, List.getElem?_eq_getElem hp]; rfl
   ·rw [h2 (by omega) (by omega), if_neg]
    ·rfl
    ·rw [List.getD_eq_getElem?_getD, List.getElem?_eq_getElem (by omega)]
     intro e
     have e' : im[n] = im[p] := e
     have := ((List.getElem?_inj (i := n) (j := p) (by omega) hn).1 (by rw [List.getElem?_eq_getElem (by omega), List.getElem?_eq_getElem hp, e']))
     exact hnp this
theorem od_ok {im : List (Int × Int)} (hn : im.Nodup) : ∀ (hd : List (Int × Int)), (∀ h ∈ hd, h ∈ im) →
  (hd.flatMap fun h => posE im h im.length).length = hd.length ∧ (∀ p ∈ (hd.flatMap fun h => posE im h im.length), p < im.length) ∧ ((hd.flatMap fun h => posE im h im.length).map fun p => im.getD p (0, 0)) = hd ∧
   ∀ p (hp : p < im.length), im[p] ∈ hd → p ∈ (hd.flatMap fun h => posE im h im.length)
 | [], _ => ⟨rfl, fun p hp => absurd hp (by simp), rfl, fun p hp h => absurd h (by simp)⟩
 | h :: hd, hm => by
  obtain ⟨i1, i2, i3, i4⟩ := od_ok hn hd (fun x hx => hm x (List.mem_cons_of_mem _ hx))
  obtain ⟨p, hp, e⟩ := List.getElem_of_mem (hm h List.mem_cons_self)
  have h1 := (posE_one hn hp im.length).2 hp (Nat.le_refl _)
  rw [e] at h1
  rw [List.flatMap_cons, h1]
  refine ⟨by simp [i1], fun x hx => ?_, ?_, fun x hx hxm => ?_⟩
  ·rcases List.mem_append.1 hx with hx | hx
   ·rw [List.mem_singleton.1 hx]; exact hp
   ·exact i2 x hx
  ·rw [List.map_append, i3]
   simp [List.getElem?_eq_getElem hp, e]
  ·rcases List.mem_cons.1 hxm with e2 | e2
   ·have : x = p := (List.getElem?_inj (i := x) (j := p) hx hn).1 (by rw [List.getElem?_eq_getElem hx, List.getElem?_eq_getElem hp, e2, e])
    rw [this]; simp
   ·exact List.mem_append_right _ (i4 x hx e2)
/-- the states at the turned points -/
theorem setAll_map {im : List (Int × Int)} (g : Int × Int → Nat) : ∀ (od : List Nat) (z : List Nat), (∀ p ∈ od, p < z.length) → ∀ p, p < z.length → (setAll z od (od.map fun p => g (im.getD p (0, 0)))).getD p 0 = if p ∈ od then g (im.getD p (0, 0)) else z.getD p 0
 | [], z, _, p, hp => by simp [setAll]
 | o :: od, z, h, p, hp => by
  have ih := setAll_map (im := im) g od z (fun x hx => h x (List.mem_cons_of_mem _ hx)) p hp
  simp only [setAll, List.map_cons]
  rw [List.getD_eq_getElem?_getD, List.getElem?_set]
  by_cases e : o = p
  ·subst e
   rw [if_pos rfl, if_pos (by rw [setAll_len]; exact hp), if_pos List.mem_cons_self]
   rfl
  ·rw [if_neg e, ← List.getD_eq_getElem?_getD, ih]
   by_cases e2 : p ∈ od
   ·rw [if_pos e2, if_pos (List.mem_cons_of_mem _ e2)]
   ·rw [if_neg e2, if_neg (by simp [e2]; exact fun h => e h.symm)]
/-- the nodes that the reference makes -/
def rtN (k : Int) (t : PT) : List Nd := (expE t.ps.length (odTo (t.ps.map (symP k)) (sortTo (t.ps.map (symP k)) t.ps.length) t.ps.length) t.st.toNat t.ps.length (redT t) ([], [])).2.2
theorem rturn_ok {k : Int} {t : PT} (ht : t.right = true) : (odTo (t.ps.map (symP k)) (sortTo (t.ps.map (symP k)) t.ps.length) t.ps.length).length = t.ps.length ∧ (∀ p ∈ odTo (t.ps.map (symP k)) (sortTo (t.ps.map (symP k)) t.ps.length) t.ps.length, p < t.ps.length) ∧ (sortTo (t.ps.map (symP k)) t.ps.length).length = t.ps.length ∧
  VNd t.st.toNat (rtN k t) ∧ 0 < (rtN k t).length ∧ (ndAt (rtN k t) ((rtN k t).length - 1)).1 = (t.ps.length : Int) ∧ (rtN k t).length ≤ cap t.st.toNat t.ps.length ∧
  TI k t ⟨t.st, sortTo (t.ps.map (symP k)) t.ps.length, redN chR (rtN k t)⟩ ∧ (sortTo (t.ps.map (symP k)) t.ps.length).Pairwise leP := by
 obtain ⟨a1, a2, a3, a4, a5, a6, a7, a8, a9⟩ := rightN_parts ht
 have hp1 : 1 ≤ t.ps.length := by
  unfold hoodB at a3
  rw [Bool.and_eq_true, Bool.and_eq_true] at a3
  exact of_decide_eq_true a3.1.1
 obtain ⟨im, him⟩ : ∃ im, im = t.ps.map (symP k) := ⟨_, rfl⟩
 have hil : im.length = t.ps.length := by rw [him, List.length_map]
 have hnd : im.Nodup := by
  rw [him]
  exact List.pairwise_map.2 ((hood_nodup a3).imp fun {a b} hne e => hne (symP_inj k e))
 obtain ⟨s1, s2⟩ := sortTo_ok hnd t.ps.length (by omega)
 rw [List.take_of_length_le (by omega)] at s1
 unfold rtN
 rw [← him]
 obtain ⟨hd, hhd⟩ : ∃ hd, hd = sortTo im t.ps.length := ⟨_, rfl⟩
 rw [← hhd] at s1 s2 ⊢
 have hdl : hd.length = t.ps.length := by rw [s1.length_eq, hil]
 obtain ⟨o1, o2, o3, o4⟩ := od_ok hnd hd (fun h hm => s1.mem_iff.1 hm)
 have hod : odTo im hd t.ps.length = hd.flatMap fun h => posE im h im.length := by unfold odTo; rw [List.take_of_length_le (by omega)]
 rw [← hod] at o1 o2 o3 o4
 obtain ⟨od, hode⟩ : ∃ od, od = odTo im hd t.ps.length := ⟨_, rfl⟩
 rw [← hode] at o1 o2 o3 o4 ⊢
 have hst : 0 < t.st.toNat := by omega
 obtain ⟨r1, r2, r3, r4, r5, r6, r7⟩ := redT_ok ht
 have hF : OkF t.st t.ps (redT t) := ⟨red_right ht, r6, r7⟩
 have hx := exp_ok (st := t.st) (ps := t.ps) (od := od) (by omega) (fun p hp => by have := o2 p hp; omega) hst t.ps.length (redT t) ([], []) hF (Nat.le_refl _) (XI.nil _ _ _)
 have hv := VF_val (st := t.st) (ps := t.ps) (od := od) (by omega) (fun p hp => by have := o2 p hp; omega) hst t.ps.length (redT t)
 obtain ⟨L1, hL1⟩ : ∃ L1, t.ps.length = L1 + 1 := ⟨t.ps.length - 1, by omega⟩
 have hlast : ∃ a : List Int × XS, expE t.ps.length od t.st.toNat t.ps.length (redT t) ([], []) = ((a.2.2.length : Int), (a.2.1 ++ [redT t], a.2.2 ++ [((t.ps.length : Int), a.1)])) := by
  refine ⟨kidsE (expE t.ps.length od t.st.toNat L1) (fixE t.ps.length od (L1 + 1) (redT t)) t.st.toNat ([], []), ?_⟩
  generalize hn : t.ps.length = n at *
  subst hL1
  rfl
 obtain ⟨a, ha⟩ := hlast
 rw [ha] at hx ⊢
 dsimp only at hx ⊢
 obtain ⟨x1, x2, x3, x4, x5, x6⟩ := hx
 have hlen : (a.2.2 ++ [((t.ps.length : Int), a.1)]).length - 1 = a.2.2.length := by simp
 have hroot : (ndAt (a.2.2 ++ [((t.ps.length : Int), a.1)]) ((a.2.2 ++ [((t.ps.length : Int), a.1)]).length - 1)).1 = (t.ps.length : Int) := by rw [hlen, ndAt_app_len]
 have hpos : 0 < (a.2.2 ++ [((t.ps.length : Int), a.1)]).length := by simp
 have hred := redN_ok x1.v (chR_chg _) hpos (by rw [hroot]; omega)
 rw [show chgL chR (a.2.2 ++ [((t.ps.length : Int), a.1)]) = (a.2.2 ++ [((t.ps.length : Int), a.1)]) from by unfold chgL chR; simp] at hred
 refine ⟨by omega, fun p hp => by have := o2 p hp; omega, hdl, x1.v, hpos, hroot, by simpa using x6, ⟨rfl, by rw [← him]; exact s1, red_can x1.v (chR_chg _) hpos (by omega) hroot, fun g hg => ?_⟩, s2⟩
 dsimp only
 have hins : ∀ s ∈ hd.map g, s < t.st.toNat := fun s hs => by
  obtain ⟨p, -, rfl⟩ := List.mem_map.1 hs
  exact hg p
 have hlh : (hd.map g).length = t.ps.length := by rw [List.length_map, hdl]
 rw [hred.2.2.2.1.2 _ (by rw [hred.2.2.2.1.1, hroot, hlh]) hins, hlen]
 rw [x5 _ hlh hins, hv _ hF (Nat.le_refl _) hlh hins, Nat.sub_self, List.drop_zero]
 have hset : setAll (List.replicate t.ps.length 0) od (hd.map g) = t.ps.map fun p => g (symP k p) := by
  have e1 : hd.map g = od.map fun p => g (im.getD p (0, 0)) := by
   rw [← o3, List.map_map]
   rfl
  rw [e1]
  refine List.ext_getElem (by rw [setAll_len]; simp) fun p h1 h2 => ?_
  have hp : p < t.ps.length := by rw [setAll_len] at h1; simpa using h1
  have hm := setAll_map (im := im) g od (List.replicate t.ps.length 0) (fun x hx => by have := o2 x hx; simp; omega) p (by simpa using hp)
  rw [if_pos (o4 p (by omega) (s1.mem_iff.2 (List.getElem_mem _)))] at hm
  rw [List.getD_eq_getElem?_getD, List.getElem?_eq_getElem h1] at hm
  have e2 : im.getD p (0, 0) = symP k t.ps[p] := by rw [List.getD_eq_getElem?_getD, List.getElem?_eq_getElem (by omega)]; simp [him]
  rw [e2] at hm
  simpa using hm
 rw [hset]
 unfold rootV
 exact r4.2 _ (by rw [r4.1, a6, List.length_map]) (fun s hs => by
  obtain ⟨p, -, rfl⟩ := List.mem_map.1 hs
  exact hg _)
theorem rturn_te {k : Int} {t : PT} (ht : t.right = true) : TurnOk k t (if 4096 < (redN chR (rtN k t)).length then (PT.zero, 6) else (⟨t.st, sortTo (t.ps.map (symP k)) t.ps.length, redN chR (rtN k t)⟩, 0)) := by
 obtain ⟨-, -, -, -, -, -, -, h1, h2⟩ := rturn_ok (k := k) ht
 exact .inr ⟨ht, _, h1, h2, rfl⟩
end Go.Proofs.YtojnnfihpiegoaaDoor
