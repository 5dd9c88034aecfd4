/-
  The reduced nodes are those of a valid tree, different, not more; they lead to what the changed nodes lead to. No condition.
  The first place where a test holds. No condition.
  tree.Eval. No condition.
  A row of new blocks. No condition.
  totaltree.build, with the steps of Elementary. No condition but bounds, and that the steps do what is said of them.
-/
import Derived.Test.YtmlhkbgifnifdaaGreatDoorZG9
import Derived.Test.YtmlhkbgifnifdaaGreatDoorZG2
import Derived.Test.YtmlhkbgifnifdaaGreatDoorZBldE
namespace Go.Proofs.YtmlhkbgifnifdaaGreatDoor
set_option linter.unusedSimpArgs false
set_option linter.unusedVariables false

theorem redN_ok {q : Nat} {l : List Nd} {ch : Int → List Int → List Int} (h : VNd q l) (hc : Chg q ch) (hp : 0 < l.length) (hl : (ndAt l (l.length - 1)).1 ≤ 100) :
    VNd q (redN ch l) ∧ Dis (redN ch l) (· < (redN ch l).length) ∧ 0 < (redN ch l).length ∧ Eqv q (redN ch l) ((redN ch l).length - 1) (chgL ch l) (l.length - 1) ∧ (redN ch l).length ≤ l.length := by
  have hR := RbI.all h hc _ (Nat.le_refl _)
  obtain ⟨g1, g2, g3⟩ := hR.eqv (l.length - 1) (by omega)
  have hlv : (ndAt (chgL ch l) (l.length - 1)).1 = (ndAt l (l.length - 1)).1 := by rw [chg_at ch (by omega)]
  obtain ⟨o1, o2, o3, o4, o5, o6⟩ := ord_ok hR.v.lev hR.dis (f := 100) (root := ((rebTo ch l l.length).2.getD (l.length - 1) 0).toNat) (by rw [g3.1, hlv]; omega) g2
  have e : redN ch l = ord (rebTo ch l l.length).1 100 ((rebTo ch l l.length).2.getD (l.length - 1) 0).toNat := rfl
  rw [← e] at o1 o2 o3 o4 o5 o6
  refine ⟨⟨o1, o3, fun i hi hl1 z hz => ?_⟩, o2, o4, o5.trans g3, ?_⟩
  · obtain ⟨j, pj, ej⟩ := o6 i hi
    obtain ⟨s, hs, rfl⟩ := List.getElem_of_mem hz
    have hq : s < q := by rw [← o1.len i hi]; exact hs
    have hv := ej.2 [s] (by rw [hl1]; rfl) (by simpa using hq)
    simp only [val, Int.toNat_natCast] at hv
    have hjl := hR.v.lev.len j pj
    have g : (ndAt (redN ch l) i).2.getD s 0 = (ndAt (redN ch l) i).2[s] := by rw [List.getD_eq_getElem?_getD, List.getElem?_eq_getElem hs]; rfl
    rw [g] at hv
    rw [hv]
    exact hR.v.low j pj (by rw [← ej.1]; exact hl1) _ (getD_mem (by rw [hjl]; exact hq))
  · obtain ⟨d1, -⟩ := dfs_ok hR.v.lev 100 ((rebTo ch l l.length).2.getD (l.length - 1) 0).toNat _ (by rw [g3.1, hlv]; omega) g2 (Inv.start q (rebTo ch l l.length).1 (· < (rebTo ch l l.length).1.length))
    have := d1.le
    have := hR.le
    rw [e]
    unfold ord
    omega
/-- the reduced tree of a valid one -/
theorem redT_ok {t : PT} (h : t.right = true) : VNd t.st.toNat (redT t).ns ∧ Dis (redT t).ns (· < (redT t).ns.length) ∧ 0 < (redT t).ns.length ∧ Eqv t.st.toNat (redT t).ns ((redT t).ns.length - 1) t.ns (t.ns.length - 1) ∧ (redT t).ns.length ≤ t.ns.length ∧ (redT t).st = t.st ∧ (redT t).ps = t.ps := by
  obtain ⟨a1, a2, a3, a4, a5, a6, a7, a8, a9⟩ := rightN_parts h
  have e : redT t = ⟨t.st, t.ps, redN chR t.ns⟩ := by unfold redT; rw [if_pos h]
  rw [e]
  have := redN_ok a8 (chR_chg _) (by omega) (by omega)
  rw [show chgL chR t.ns = t.ns from by unfold chgL chR; simp] at this
  exact ⟨this.1, this.2.1, this.2.2.1, this.2.2.2.1, this.2.2.2.2, rfl, rfl⟩
theorem redT_bad {t : PT} (h : t.right = false) : redT t = PT.zero := by unfold redT; rw [if_neg (by rw [h]; decide)]
end Go.Proofs.YtmlhkbgifnifdaaGreatDoor
namespace Go.Proofs.YtmlhkbgifnifdaaGreatDoor
set_option linter.unusedSimpArgs false
open Go.RowKit
set_option linter.unusedVariables false

/-- the first place where p holds, or -1 -/
def fI {α : Type} (p : α → Bool) : List α → Nat → Int
  | [], _ => -1
  | z :: r, k => if p z then (k : Int) else fI p r (k + 1)
theorem fI_any {α : Type} (p : α → Bool) : ∀ (l : List α) (k : Nat), decide (0 ≤ fI p l k) = l.any p
  | [], k => rfl
  | z :: r, k => by
    unfold fI
    rw [List.any_cons]
    cases h : p z with
    | true => simp
    | false => simp [fI_any p r (k + 1)]
theorem fI_step {α : Type} (p : α → Bool) {l : List α} {k : Nat} (h : k < l.length) : fI p (l.drop k) k = if p l[k] then (k : Int) else fI p (l.drop (k + 1)) (k + 1) := by
  rw [List.drop_eq_getElem_cons h]
  rfl
def badS (st s : Int) : Bool := decide (s < 0) || decide (st ≤ s)
theorem meas_step {n k : Nat} (h : k < n) : n - (intOf (.int .i64 ((k : Int) + 1))).toNat < n - (intOf (.int .i64 (k : Int))).toNat := by
  simp only [intOf]
  omega
end Go.Proofs.YtmlhkbgifnifdaaGreatDoor
namespace Go.Proofs.YtmlhkbgifnifdaaGreatDoor
open Go.RowKit
set_option maxRecDepth 100000
set_option linter.unusedVariables false
set_option linter.unusedSimpArgs false

set_option maxHeartbeats 4000000 in
theorem tvalue_any (st : Int) (A : Option Addr) (n c : Nat) (B : Option Addr) (d : Nat) (hs : List Hd) (Av : Option Addr) (cv : Nat) (ins : List Nat) (w : World) (hN : Nds w B hs) (hv : Ints w Av (ins.map fun (s : Nat) => (s : Int)))
    (q : Nat) (hV : VNd q (hs.map Hd.nd)) (hp : 0 < hs.length) (hroot : (ndAt (hs.map Hd.nd) (hs.length - 1)).1 = (ins.length : Int)) (hq : ∀ s ∈ ins, s < q) :
    Calls Tryz.prog 43 #[.agg #[.int .i64 st, .slice A n c, .slice B hs.length d], .slice Av ins.length cv] w fun e w' => e = .returned (.int .i64 (val (hs.map Hd.nd) ((hs.length - 1 : Nat) : Int) ins)) ∧ Below w.heap.size w w' := by
  obtain ⟨w0, hw0⟩ : ∃ w0, w0 = w.alloc (.cells #[.int .i64 st, .slice A n c, .slice B hs.length d] 25) := ⟨_, rfl⟩
  have hb0 : Below w.heap.size w w0 := by rw [hw0]; exact below_new _ _
  have p0 : Blk w0 w.heap.size 25 #[.int .i64 st, .slice A n c, .slice B hs.length d] := by rw [hw0]; exact Blk.new _ _ _
  have hlN := hN.le
  have hlI := hv.le
  rw [List.length_map] at hlI
  obtain ⟨N1, hN1⟩ : ∃ N1, N1 = hs.length - 1 := ⟨_, rfl⟩
  have hwN : wrap64 ((hs.length : Int) - 1) = (N1 : Int) := by unfold wrap64; omega
  have HN1 : Hid (N1 < hs.length) := Lib.hid (by omega)
  rw [← hN1] at hroot ⊢
  obtain ⟨r, hr⟩ : ∃ r, r = val (hs.map Hd.nd) (N1 : Int) ins := ⟨_, rfl⟩
  rw [← hr]
  have HR := Lib.hid hr
  have HRT := Lib.hid hroot
  have HV := Lib.hid hV
  have HQ := Lib.hid hq
  have HB0 := Lib.hid hb0
  have HP0 := Lib.hid p0
  have HW0 := Lib.hid hw0
  have HN := Lib.hid (hN.ext hb0)
  have HI := Lib.hid (hv.ext hb0)
  have HLI := Lib.hid hlI
  have c2 := p0.cell_ 2 (.slice B hs.length d) rfl
  clear hb0 p0 hw0 hN hv hV hp hroot hq hr hN1 hlN hlI
  go_enter Tryz.func43, Tryz.ntmps43
  go_upto_region 1 with fail
  rw [← HW0.out]
  go_wp2
  clear c2
  go_loopw [5, 14] (fun kv iv wr => ∃ (cur : Int) (i : Nat), kv = .int .i64 cur ∧ iv = .int .i64 i ∧ i ≤ ins.length ∧ Hid (Below w0.heap.size w0 wr) ∧ Hid (val (hs.map Hd.nd) cur (ins.drop i) = r) ∧ Hid (i < ins.length → 0 ≤ cur ∧ cur.toNat < hs.length ∧ (ndAt (hs.map Hd.nd) cur.toNat).1 = ((ins.length - i : Nat) : Int))) (fun _ iv _ => ins.length - (intOf iv).toNat)
  case atStart => exact ⟨(N1 : Int), 0, (by first | rfl | (rw [hwN])), rfl, Nat.zero_le _, Lib.hid (Below.refl _ _), Lib.hid HR.out.symm, Lib.hid (fun _ => ⟨Int.natCast_nonneg _, by rw [Int.toNat_natCast]; exact HN1.out, by rw [Int.toNat_natCast]; exact HRT.out⟩)⟩
  case round =>
    obtain ⟨cur, i, rfl, rfl, hi, HBR, HVL, HC⟩ := hrel
    clear hwN
    have c2 := (HP0.out.below HBR.out HP0.out.lt).cell_ 2 (.slice B hs.length d) rfl
    by_cases hil : i < ins.length
    · have hwi : wrap64 ((i : Int) + 1) = (i : Int) + 1 := by have := HLI.out; unfold wrap64; omega
      obtain ⟨k0, k1, k2⟩ := HC.out hil
      obtain ⟨kn, hkn⟩ : ∃ kn : Nat, cur = kn := ⟨cur.toNat, (Int.toNat_of_nonneg k0).symm⟩
      subst hkn
      rw [Int.toNat_natCast] at k1 k2
      have hk1' : kn < (hs.map Hd.nd).length := by rw [List.length_map]; exact k1
      obtain ⟨b, o, e, -, g0, g1, gz⟩ := (HN.out.ext HBR.out).at_ k1
      have hnd := ndl_at hs k1
      have hzl := HV.out.lev.len kn hk1'
      have hkids := HV.out.lev.kids kn hk1'
      obtain ⟨x, hx⟩ : ∃ x, x = hs[kn] := ⟨_, rfl⟩
      rw [← hx] at g0 g1 gz hnd
      obtain ⟨lv, zA, zc, zs⟩ := x
      dsimp only at g0 g1 gz
      change ndAt (hs.map Hd.nd) kn = (lv, zs) at hnd
      rw [hnd] at hzl hkids k2
      dsimp only at hzl hkids k2
      have hil2 : i < (ins.map fun (s : Nat) => (s : Int)).length := by rw [List.length_map]; exact hil
      obtain ⟨b2, o2, e2, -, gi⟩ := (HI.out.ext HBR.out).at_ hil2
      rw [List.getElem_map] at gi
      have hsq := HQ.out _ (List.getElem_mem hil)
      have hdrop := List.drop_eq_getElem_cons hil
      obtain ⟨s, hs'⟩ : ∃ s, s = ins[i] := ⟨_, rfl⟩
      rw [← hs'] at gi hsq hdrop
      have hsz : s < zs.length := by rw [hzl]; exact hsq
      obtain ⟨b3, o3, e3, -, gk⟩ := gz.at_ hsz
      have hgd : zs.getD s 0 = zs[s] := by rw [List.getD_eq_getElem?_getD, List.getElem?_eq_getElem hsz]; rfl
      obtain ⟨z, hz⟩ : ∃ z, z = zs[s] := ⟨_, rfl⟩
      have hzm : z ∈ zs := by rw [hz]; exact List.getElem_mem hsz
      rw [← hz] at gk hgd
      have hv2 := HVL.out
      rw [hdrop] at hv2
      simp only [val, Int.toNat_natCast, hnd, hgd] at hv2
      have HV2 := Lib.hid hv2
      have HC2 : Hid (i + 1 < ins.length → 0 ≤ z ∧ z.toNat < hs.length ∧ (ndAt (hs.map Hd.nd) z.toNat).1 = ((ins.length - (i + 1) : Nat) : Int)) := Lib.hid (fun h => by
        obtain ⟨m1, m2, m3⟩ := hkids (by omega) z hzm
        rw [List.length_map] at m2
        exact ⟨m1, m2, by omega⟩)
      have HIL := Lib.hid hil
      have hsz2 := hsz
      clear hx hs' hz hzm hkids hdrop hv2 k0 hgd hnd gz k2 hzl hsq hi
      subst e e2 e3
      go_wp2
      go_roundw
      case rel => exact ⟨z, i + 1, rfl, (by first | rfl | (rw [hwi]; rfl)), HIL.out, (by first | exact HBR | exact Lib.hid (HBR.out.drew) | exact Lib.hid (below_drewN HBR.out _)), HV2, HC2⟩
      case measure => (try rw [hwi]); exact meas_step HIL.out
    · have hie : i = ins.length := Nat.le_antisymm hi (Nat.le_of_not_lt hil)
      have hv2 := HVL.out
      rw [hie, List.drop_of_length_le (Nat.le_refl _)] at hv2
      have HE : Hid (cur = r) := Lib.hid hv2
      clear hie hv2 hi
      go_wp2
      go_ret
      exact ⟨ret_int (by rw [HE.out]), HB0.out.trans (HBR.out.mono HB0.out.size)⟩
set_option maxHeartbeats 1000000 in
theorem cE_any (n : Int) (Q : Nat) (st : Int) (A2 : Option Addr) (n2 c2 : Nat) (B2 : Option Addr) (m2 d2 : Nat) (w : World) (hq : Blk w Q 25 #[.int .i64 st, .slice A2 n2 c2, .slice B2 m2 d2]) :
    Calls Tryz.prog 53 #[.int .i64 n, .pointer (some ⟨Q, 0, none⟩)] w fun e w' => e = .returned (.bool (badS st n)) ∧ w' = w := by
  have c0 := hq.cell_ 0 (.int .i64 st) rfl
  clear hq
  unfold badS
  by_cases h1 : n < 0
  · have e1 : decide (n < 0) = true := decide_eq_true h1
    rw [e1, Bool.true_or]
    go_enter Tryz.func53, Tryz.ntmps53
    go_wp2
    go_ret
    exact ⟨rfl, rfl⟩
  · have e1 : decide (n < 0) = false := decide_eq_false h1
    rw [e1, Bool.false_or]
    go_enter Tryz.func53, Tryz.ntmps53
    go_wp2
    go_ret
    exact ⟨rfl, rfl⟩
set_option maxHeartbeats 2000000 in
theorem ixE_any (Q : Nat) (st : Int) (A2 : Option Addr) (n2 c2 : Nat) (B2 : Option Addr) (m2 d2 : Nat) (A : Option Addr) (c : Nat) (zs : List Int) (w : World) (hq : Blk w Q 25 #[.int .i64 st, .slice A2 n2 c2, .slice B2 m2 d2]) (hz : Ints w A zs) :
    Calls Tryz.prog 76 #[.slice A zs.length c, .func (.func 53) #[] #[.pointer (some ⟨Q, 0, none⟩)]] w fun e w' => e = .returned (.int .i64 (fI (badS st) zs 0)) ∧ w' = w := by
  have hn := hz.le
  have HZ := Lib.hid hz
  have HQ := Lib.hid hq
  have HN := Lib.hid hn
  clear hz hq hn
  go_enter Tryz.func76, Tryz.ntmps76
  go_wp2
  go_loopw [8] (fun i wr => ∃ k : Nat, k ≤ zs.length ∧ i = .int .i64 k ∧ wr = w ∧ Hid (fI (badS st) zs 0 = fI (badS st) (zs.drop k) k)) (fun i _ => zs.length - (intOf i).toNat)
  case atStart => exact ⟨0, Nat.zero_le _, rfl, rfl, Lib.hid (by simp)⟩
  case round =>
    obtain ⟨k, hk, rfl, rfl, HT⟩ := hrel
    by_cases hlt : k < zs.length
    · obtain ⟨b1, o1, e1, -, hc⟩ := HZ.out.at_ hlt
      have hw1 : wrap64 ((k : Int) + 1) = (k : Int) + 1 := by have := HN.out; unfold wrap64; omega
      have HS := Lib.hid (fI_step (badS st) hlt)
      have hC := cE_any zs[k] Q st A2 n2 c2 B2 m2 d2 wr HQ.out
      obtain ⟨z, hz⟩ : ∃ z, z = zs[k] := ⟨_, rfl⟩
      rw [← hz] at hc HS hC
      have HLT := Lib.hid hlt
      subst e1
      cases hp : badS st z with
      | true =>
        rw [hp] at hC
        have HC := Lib.hid hC
        have HF : Hid (fI (badS st) zs 0 = (k : Int)) := Lib.hid (by rw [HT.out, HS.out, hp]; rfl)
        clear hp hC hz hk
        go_wp2_with (go_at_call 53; refine HC.out.mono ?_; rintro e w1 ⟨rfl, rfl⟩)
        go_ret
        exact ⟨by rw [HF.out] <;> rfl, rfl⟩
      | false =>
        rw [hp] at hC
        have HC := Lib.hid hC
        have HF : Hid (fI (badS st) zs 0 = fI (badS st) (zs.drop (k + 1)) (k + 1)) := Lib.hid (by rw [HT.out, HS.out, hp]; rfl)
        clear hp hC hz hk
        go_wp2_with (go_at_call 53; refine HC.out.mono ?_; rintro e w1 ⟨rfl, rfl⟩)
        go_roundw
        case rel => exact ⟨k + 1, HLT.out, (by first | rfl | (rw [hw1]; rfl)), (by first | rfl | trivial), HF⟩
        case measure => have := HLT.out; first | (rw [hw1]; simp [intOf]; omega) | (simp [intOf]; omega)
    · have HF : Hid (fI (badS st) zs 0 = -1) := Lib.hid (by
        have h := HT.out
        rw [List.drop_of_length_le (by omega)] at h
        exact h)
      go_wp2
      go_ret
      exact ⟨by rw [HF.out] <;> rfl, rfl⟩
set_option maxHeartbeats 1000000 in
theorem ctE_any (Q : Nat) (st : Int) (A2 : Option Addr) (n2 c2 : Nat) (B2 : Option Addr) (m2 d2 : Nat) (A : Option Addr) (c : Nat) (zs : List Int) (w : World) (hq : Blk w Q 25 #[.int .i64 st, .slice A2 n2 c2, .slice B2 m2 d2]) (hz : Ints w A zs) :
    Calls Tryz.prog 52 #[.slice A zs.length c, .func (.func 53) #[] #[.pointer (some ⟨Q, 0, none⟩)]] w fun e w' => e = .returned (.bool (zs.any (badS st))) ∧ w' = w := by
  have HC := Lib.hid (ixE_any Q st A2 n2 c2 B2 m2 d2 A c zs w hq hz)
  rw [← fI_any (badS st) zs 0]
  obtain ⟨r, hr⟩ : ∃ r, r = fI (badS st) zs 0 := ⟨_, rfl⟩
  rw [← hr] at HC ⊢
  clear hr hq hz
  go_enter Tryz.func52, Tryz.ntmps52
  go_wp2_with (go_at_call 76; refine HC.out.mono ?_; rintro e w1 ⟨rfl, rfl⟩)
  go_ret
  exact ⟨rfl, rfl⟩
/-- what Eval hands back -/
def evalP (t : PT) (zs : List Int) : Int × Int :=
  if t.right = true then (if zs.length = t.ps.length then (if zs.any (badS t.st) = true then (0, 10) else (val t.ns ((t.ns.length - 1 : Nat) : Int) (zs.map Int.toNat), 0)) else (0, 2)) else (0, 11)
theorem toNat_back {st : Int} : ∀ {zs : List Int}, zs.any (badS st) = false → (zs.map Int.toNat).map (fun (s : Nat) => (s : Int)) = zs ∧ ∀ s ∈ zs.map Int.toNat, s < st.toNat
  | [], _ => ⟨rfl, by simp⟩
  | z :: r, h => by
    rw [List.any_cons, Bool.or_eq_false_iff] at h
    obtain ⟨h1, h2⟩ := toNat_back h.2
    have h3 := h.1
    simp only [badS, Bool.or_eq_false_iff, decide_eq_false_iff_not] at h3
    refine ⟨?_, ?_⟩
    · rw [List.map_cons, List.map_cons, h1, Int.toNat_of_nonneg (by omega)]
    · intro s hs
      rw [List.map_cons] at hs
      rcases List.mem_cons.1 hs with e | e
      · rw [e]; omega
      · exact h2 s e
set_option maxHeartbeats 4000000 in
theorem eval_any (st : Int) (A : Option Addr) (c : Nat) (ps : List (Int × Int)) (B : Option Addr) (d : Nat) (hs : List Hd) (Av : Option Addr) (cv : Nat) (zs : List Int) (w : World) (hp : Pts w A ps) (hN : Nds w B hs) (hz : Ints w Av zs) :
    Calls Tryz.prog 21 #[.agg #[.int .i64 st, .slice A ps.length c, .slice B hs.length d], .slice Av zs.length cv] w fun e w' => e = .returned (.tuple #[.int .i64 (evalP ⟨st, ps, hs.map Hd.nd⟩ zs).1, .int .i64 (evalP ⟨st, ps, hs.map Hd.nd⟩ zs).2]) ∧ Below w.heap.size w w' := by
  obtain ⟨w0, hw0⟩ : ∃ w0, w0 = w.alloc (.cells #[.int .i64 st, .slice A ps.length c, .slice B hs.length d] 25) := ⟨_, rfl⟩
  have hb0 : Below w.heap.size w w0 := by rw [hw0]; exact below_new _ _
  have q1 : Blk w0 w.heap.size 25 #[.int .i64 st, .slice A ps.length c, .slice B hs.length d] := by rw [hw0]; exact Blk.new _ _ _
  have HW := Lib.hid hw0
  have HB0 := Lib.hid hb0
  have HP0 := Lib.hid q1
  have HR := Lib.hid (right_any st A c ps B d hs w0 (hp.ext hb0) (hN.ext hb0))
  have HNN := Lib.hid (hN.ext hb0)
  have HZ := Lib.hid (hz.ext hb0)
  have HLP := Lib.hid hp.le
  have HLZ := Lib.hid hz.le
  have c0 := q1.cell_ 0 (.int .i64 st) rfl
  have c1 := q1.cell_ 1 (.slice A ps.length c) rfl
  have c2 := q1.cell_ 2 (.slice B hs.length d) rfl
  clear hw0 hb0 q1 hp hN hz
  unfold evalP PT.right
  dsimp only
  cases hr : rightN st ps (hs.map Hd.nd) with
  | false =>
    rw [if_neg (by simp)]
    rw [hr] at HR
    clear hr
    go_enter Tryz.func21, Tryz.ntmps21
    go_upto_region 1 with fail
    rw [← HW.out]
    go_wp2_with (go_at_call 22; refine HR.out.mono ?_)
    rintro e w1 ⟨rfl, hb⟩
    have HBw := Lib.hid (HB0.out.trans (hb.mono HB0.out.size))
    clear hb c0 c1 c2
    go_wp2
    go_ret2
    exact ⟨rfl, HBw.out⟩
  | true =>
    rw [if_pos rfl]
    rw [hr] at HR
    have HRR := Lib.hid hr
    clear hr
    have HRP := Lib.hid (rightN_parts HRR.out)
    by_cases y1 : zs.length = ps.length
    · rw [if_pos y1]
      have hct := fun W (hb : Below w0.heap.size w0 W) => ctE_any w.heap.size st A ps.length c B hs.length d Av cv zs W (HP0.out.below hb HP0.out.lt) (HZ.out.ext hb)
      have d1 : (((zs.length : Nat) : Int) != ((ps.length : Nat) : Int)) = false := by rw [y1]; simp
      cases hb : zs.any (badS st) with
      | true =>
        rw [hb] at hct
        have HCT := Lib.hid hct
        rw [if_pos rfl]
        have HY := Lib.hid y1
        clear hb hct y1
        go_enter Tryz.func21, Tryz.ntmps21
        go_upto_region 1 with fail
        rw [← HW.out]
        go_wp2_with (go_at_call 22; refine HR.out.mono ?_)
        rintro e w1 ⟨rfl, hb⟩
        have HB1 := Lib.hid hb
        have p1 := HP0.out.below hb HP0.out.lt
        have e1 := p1.cell_ 1 (.slice A ps.length c) rfl
        clear hb c0 c1 c2 p1
        go_wp2_with (go_at_call 52; refine (HCT.out w1 HB1.out).mono ?_; intro e w2 hx; obtain ⟨rfl, hw1⟩ := hx; rw [hw1]; clear hw1; refine Hid.out ?_)
        refine Lib.hid ?_
        go_wp2
        go_ret2
        exact ⟨rfl, HB0.out.trans (HB1.out.mono HB0.out.size)⟩
      | false =>
        rw [hb] at hct
        have HCT := Lib.hid hct
        rw [if_neg (by simp)]
        obtain ⟨t1, t2⟩ := toNat_back hb
        have HY := Lib.hid y1
        have hcv := fun W (hb : Below w0.heap.size w0 W) => tvalue_any st A ps.length c B d hs Av cv (zs.map Int.toNat) W (HNN.out.ext hb) (by rw [t1]; exact HZ.out.ext hb) st.toNat HRP.out.2.2.2.2.2.2.2.1 (by have := HRP.out.2.2.2.1; rw [List.length_map] at this; omega) (by
          have h6 := HRP.out.2.2.2.2.2.1
          rw [List.length_map] at h6 ⊢
          rw [h6, y1]) t2
        rw [List.length_map] at hcv ⊢
        obtain ⟨r, hre⟩ : ∃ r, r = val (hs.map Hd.nd) ((hs.length - 1 : Nat) : Int) (zs.map Int.toNat) := ⟨_, rfl⟩
        rw [← hre] at hcv ⊢
        have HCV := Lib.hid hcv
        clear hb hct y1 t1 t2 hcv hre
        go_enter Tryz.func21, Tryz.ntmps21
        go_upto_region 1 with fail
        rw [← HW.out]
        go_wp2_with (go_at_call 22; refine HR.out.mono ?_)
        rintro e w1 ⟨rfl, hb⟩
        have HB1 := Lib.hid hb
        have p1 := HP0.out.below hb HP0.out.lt
        have e0 := p1.cell_ 0 (.int .i64 st) rfl
        have e1 := p1.cell_ 1 (.slice A ps.length c) rfl
        have e2 := p1.cell_ 2 (.slice B hs.length d) rfl
        clear hb c0 c1 c2 p1
        go_wp2_with (go_at_call 52; refine (HCT.out w1 HB1.out).mono ?_; intro e w2 hx; obtain ⟨rfl, hw1⟩ := hx; rw [hw1]; clear hw1; refine Hid.out ?_)
        refine Lib.hid ?_
        go_wp2_with (go_at_call 43; refine (HCV.out w1 HB1.out).mono ?_)
        rintro e w3 ⟨rfl, hb⟩
        have HB3 := Lib.hid (HB0.out.trans ((HB1.out.trans (hb.mono HB1.out.size)).mono HB0.out.size))
        clear hb
        go_wp2
        go_ret2
        exact ⟨rfl, HB3.out⟩
    · rw [if_neg y1]
      have d1 : (((zs.length : Nat) : Int) != ((ps.length : Nat) : Int)) = true := by simp; omega
      have HY := Lib.hid y1
      clear y1
      go_enter Tryz.func21, Tryz.ntmps21
      go_upto_region 1 with fail
      rw [← HW.out]
      go_wp2_with (go_at_call 22; refine HR.out.mono ?_)
      rintro e w1 ⟨rfl, hb⟩
      have HBw := Lib.hid (HB0.out.trans (hb.mono HB0.out.size))
      have p1 := HP0.out.below hb HP0.out.lt
      have e1 := p1.cell_ 1 (.slice A ps.length c) rfl
      clear hb c0 c1 c2 p1
      go_wp2
      go_ret2
      exact ⟨rfl, HBw.out⟩
theorem eval_tv {w : World} {v : Value} {t : PT} {Av : Option Addr} {cv : Nat} {zs : List Int} (h : TreeAt w v t) (hz : Ints w Av zs) :
    Calls Tryz.prog 21 #[v, .slice Av zs.length cv] w fun e w' => e = .returned (.tuple #[.int .i64 (evalP t zs).1, .int .i64 (evalP t zs).2]) ∧ Below w.heap.size w w' := by
  obtain ⟨A, c, B, d, os, rfl, h1, h2, h3⟩ := h
  have := eval_any t.st A c t.ps B d os Av cv zs w h1 h2 hz
  rw [h3] at this
  exact this
end Go.Proofs.YtmlhkbgifnifdaaGreatDoor
namespace Go.Proofs.YtmlhkbgifnifdaaGreatDoor
set_option linter.unusedSimpArgs false
open Go.RowKit Go.Maps
set_option linter.unusedVariables false

def alc : World → List Obj → World
  | w, [] => w
  | w, o :: r => alc (w.alloc o) r
theorem alc_size : ∀ (os : List Obj) (w : World), (alc w os).heap.size = w.heap.size + os.length
  | [], w => rfl
  | o :: r, w => by
    show (alc (w.alloc o) r).heap.size = _
    rw [alc_size r, List.length_cons]
    simp
    omega
theorem alc_below : ∀ (os : List Obj) (w : World), Below w.heap.size w (alc w os)
  | [], w => Below.refl _ _
  | o :: r, w => by
    have h1 := below_new w o
    exact h1.trans ((alc_below r (w.alloc o)).mono h1.size)
theorem alc_at : ∀ (os : List Obj) (w : World) (i : Nat) (o : Obj), os[i]? = some o → (alc w os).heap[w.heap.size + i]? = some o
  | [], w, i, o, h => by simp at h
  | x :: r, w, 0, o, h => by
    simp at h
    subst h
    have h1 := heap_alloc_new w x
    have h2 : w.heap.size < (w.alloc x).heap.size := by simp
    rw [Nat.add_zero]
    exact ((alc_below r (w.alloc x)).block _ h2).trans h1
  | x :: r, w, i + 1, o, h => by
    have := alc_at r (w.alloc x) i o (by simpa using h)
    have e : (w.alloc x).heap.size + i = w.heap.size + (i + 1) := by simp; omega
    rw [e] at this
    exact this
theorem alc_blk {os : List Obj} {w : World} {i g : Nat} {cs : Array Value} {T : TypeId} (hg : g = w.heap.size + i) (h : os[i]? = some (.cells cs T)) : Blk (alc w os) g T cs := by
  subst hg
  exact alc_at os w i _ h
theorem alc_map {os : List Obj} {w : World} {i g : Nat} (hg : g = w.heap.size + i) (h : os[i]? = some (.map #[] 0)) (P : Program) (k : TypeId) (R : Value → Option (DataW Unit × List MemPlace)) : (alc w os).ownsMap P k R g 0 (.map []) := by
  subst hg
  obtain ⟨es, clock, hb, r⟩ := World.ownsMap_made (H := Unit) w P k R
  have h2 := heap_alloc_new w (.map #[] 0)
  rw [h2] at hb
  injection hb with hb
  injection hb with e1 e2
  subst e1 e2
  exact ⟨#[], 0, alc_at os w i _ h, r⟩
theorem OwnN.readB {T I : TypeId} {w : World} {base : Nat} {A : Option Addr} {n c : Nat} {hs : List Hd} (h : OwnN T I w base (.slice A n c) hs) : Nds w A hs := by
  obtain ⟨A', c', e, hi, -⟩ := h.nds
  injection e with e
  subst e
  exact hi
/-- a tree over a given neighbourhood, the nodes in new memory -/
def RetBd (q : Int) (hA : Option Addr) (hc : Nat) (ps : List (Int × Int)) (ns : List Nd) (w : World) (e : Ending) (w' : World) : Prop := ∃ B d os, e = .returned (.agg #[.int .i64 q, .slice hA ps.length hc, .slice B os.length d]) ∧ OwnNA w' w.heap.size (.slice B os.length d) os ∧ os.map Hd.nd = ns ∧ Below w.heap.size w w'
theorem results_ct {P : Program} {fn : Func} {p u : Tmp} {ty : TypeId} (h : fn.results = #[.cell p ty, .tmp u]) (tmps : Array Value) (w : World) (g : Nat) (t : TypeId) (cs : Array Value) (fr : Nat × Nat) (d : TypeDesc)
    (hp : tmps.getD p undef = .pointer (some ⟨g, 0, none⟩)) (hg : w.heap[g]? = some (.cells cs t fr))
    (hu : P.underlying ty = some d) (hd : (match d with | .struct _ | .array _ _ => true | _ => false) = true) (hi : (P.info? ty).map (·.size) = some cs.size) :
    (results fn tmps).run P w = .ok (.tuple #[.agg cs, tmps.getD u undef]) w := by
  rw [results_cell_tmp h, hp]
  simp [asAddr, run_loadVar_row w g t ty cs fr d hg hu hd hi, Result.andThen]
end Go.Proofs.YtmlhkbgifnifdaaGreatDoor
namespace Go.Proofs.YtmlhkbgifnifdaaGreatDoor
open Go.RowKit Go.Maps
set_option maxRecDepth 100000
set_option linter.unusedVariables false
set_option linter.unusedSimpArgs false

set_option maxHeartbeats 32000000 in
theorem buildE_any (Y : Sys Int) (R : Nat → Int → Prop) (hR : ∀ a s t, R a s → a < Y.L → t < Y.q → R (a + 1) (Y.step s a t)) (hF : ∀ s, R Y.L s → 0 ≤ Y.fin s ∧ Y.fin s < (Y.q : Int)) (hok : ∀ a s, R a s → plI.ok a s) (hL0 : 1 ≤ Y.L) (hL : Y.L ≤ 9) (hq1 : 1 ≤ Y.q) (hq8 : Y.q ≤ 8)
    (w : World) (pX : Nat) (s0 : Int) (hr : R 0 s0) (hA : Option Addr) (hc : Nat) (ps : List (Int × Int)) (hp : Pts w hA ps) (hpl : ps.length = Y.L) (hT : TabB w.heap.size w)
    (hstep : ∀ a s t W', R a s → a < Y.L → t < Y.q → Below w.heap.size w W' → Calls Tryz.prog 47 #[.int .i64 s, .int .i64 (a : Int), .int .i64 (t : Int)] W' fun e w' => e = .returned (.int .i64 (Y.step s a t)) ∧ Below W'.heap.size W' w')
    (hend : ∀ s W', R Y.L s → Below w.heap.size w W' → Calls Tryz.prog 48 #[.int .i64 s, .pointer (some ⟨pX, 0, none⟩)] W' fun e w' => e = .returned (.int .i64 (Y.fin s)) ∧ Below W'.heap.size W' w') :
    Calls Tryz.prog 45 #[.int .i64 (Y.q : Int), .slice hA ps.length hc, .int .i64 s0, .func (.func 47) #[] #[], .func (.func 48) #[] #[.pointer (some ⟨pX, 0, none⟩)]] w (RetBd (Y.q : Int) hA hc ps (bld Y Y.L s0 ([], [])).2.2 w) := by
  unfold RetBd
  rw [hpl]
  obtain ⟨ol, hol⟩ : ∃ ol : List Obj, ol = [.cells #[.int .i64 (Y.q : Int)] 3, .cells #[.slice hA Y.L hc] 22, .cells #[.func (.func 47) #[] #[]] 71, .cells #[.func (.func 48) #[] #[.pointer (some ⟨pX, 0, none⟩)]] 72, .cells #[.int .i64 0, .slice none 0 0, .slice none 0 0] 25, .cells #[.int .i64 (Y.q : Int), .slice hA Y.L hc, .slice none 0 0] 25, .map #[] 0, .cells #[.map (some (w.heap.size + 1 + 1 + 1 + 1 + 1 + 1))] 94, .map #[] 0, .cells #[.map (some (w.heap.size + 1 + 1 + 1 + 1 + 1 + 1 + 1 + 1))] 85, .cells #[.func (.func 74) #[] #[.pointer (some ⟨w.heap.size + 1, 0, none⟩), .pointer (some ⟨w.heap.size + 1 + 1 + 1, 0, none⟩), .pointer (some ⟨w.heap.size + 1 + 1 + 1 + 1 + 1 + 1 + 1, 0, none⟩), .pointer (some ⟨w.heap.size, 0, none⟩), .pointer (some ⟨w.heap.size + 1 + 1 + 1 + 1 + 1 + 1 + 1 + 1 + 1 + 1, 0, none⟩), .pointer (some ⟨w.heap.size + 1 + 1, 0, none⟩), .pointer (some ⟨w.heap.size + 1 + 1 + 1 + 1 + 1 + 1 + 1 + 1 + 1, 0, none⟩), .pointer (some ⟨w.heap.size + 1 + 1 + 1 + 1 + 1, 0, none⟩)]] 95] := ⟨_, rfl⟩
  obtain ⟨w1, hw1⟩ : ∃ w1, w1 = (((((((((((w.alloc (.cells #[.int .i64 (Y.q : Int)] 3)).alloc (.cells #[.slice hA Y.L hc] 22)).alloc (.cells #[.func (.func 47) #[] #[]] 71)).alloc (.cells #[.func (.func 48) #[] #[.pointer (some ⟨pX, 0, none⟩)]] 72)).alloc (.cells #[.int .i64 0, .slice none 0 0, .slice none 0 0] 25)).alloc (.cells #[.int .i64 (Y.q : Int), .slice hA Y.L hc, .slice none 0 0] 25)).alloc (.map #[] 0)).alloc (.cells #[.map (some (w.heap.size + 1 + 1 + 1 + 1 + 1 + 1))] 94)).alloc (.map #[] 0)).alloc (.cells #[.map (some (w.heap.size + 1 + 1 + 1 + 1 + 1 + 1 + 1 + 1))] 85)).alloc (.cells #[.func (.func 74) #[] #[.pointer (some ⟨w.heap.size + 1, 0, none⟩), .pointer (some ⟨w.heap.size + 1 + 1 + 1, 0, none⟩), .pointer (some ⟨w.heap.size + 1 + 1 + 1 + 1 + 1 + 1 + 1, 0, none⟩), .pointer (some ⟨w.heap.size, 0, none⟩), .pointer (some ⟨w.heap.size + 1 + 1 + 1 + 1 + 1 + 1 + 1 + 1 + 1 + 1, 0, none⟩), .pointer (some ⟨w.heap.size + 1 + 1, 0, none⟩), .pointer (some ⟨w.heap.size + 1 + 1 + 1 + 1 + 1 + 1 + 1 + 1 + 1, 0, none⟩), .pointer (some ⟨w.heap.size + 1 + 1 + 1 + 1 + 1, 0, none⟩)]] 95)) := ⟨_, rfl⟩
  have hal : w1 = alc w ol := by rw [hol]; exact hw1
  have hsz : w1.heap.size = w.heap.size + 11 := by rw [hal, alc_size, hol]; rfl
  have hb1 : Below w.heap.size w w1 := by rw [hal]; exact alc_below _ _
  obtain ⟨pQ, hpQ⟩ : ∃ p, p = w.heap.size := ⟨_, rfl⟩
  obtain ⟨pL, hpL⟩ : ∃ p, p = w.heap.size + 1 := ⟨_, rfl⟩
  obtain ⟨pF, hpF⟩ : ∃ p, p = w.heap.size + 1 + 1 := ⟨_, rfl⟩
  obtain ⟨pE, hpE⟩ : ∃ p, p = w.heap.size + 1 + 1 + 1 := ⟨_, rfl⟩
  obtain ⟨pR, hpR⟩ : ∃ p, p = w.heap.size + 1 + 1 + 1 + 1 := ⟨_, rfl⟩
  obtain ⟨pT, hpT⟩ : ∃ p, p = w.heap.size + 1 + 1 + 1 + 1 + 1 := ⟨_, rfl⟩
  obtain ⟨mS, hmS⟩ : ∃ p, p = w.heap.size + 1 + 1 + 1 + 1 + 1 + 1 := ⟨_, rfl⟩
  obtain ⟨pS, hpS⟩ : ∃ p, p = w.heap.size + 1 + 1 + 1 + 1 + 1 + 1 + 1 := ⟨_, rfl⟩
  obtain ⟨mI, hmI⟩ : ∃ p, p = w.heap.size + 1 + 1 + 1 + 1 + 1 + 1 + 1 + 1 := ⟨_, rfl⟩
  obtain ⟨pI, hpI⟩ : ∃ p, p = w.heap.size + 1 + 1 + 1 + 1 + 1 + 1 + 1 + 1 + 1 := ⟨_, rfl⟩
  obtain ⟨pV, hpV⟩ : ∃ p, p = w.heap.size + 1 + 1 + 1 + 1 + 1 + 1 + 1 + 1 + 1 + 1 := ⟨_, rfl⟩
  have bQ : Blk w1 pQ 3 #[.int .i64 (Y.q : Int)] := by rw [hal]; exact alc_blk (i := 0) (by omega) (by rw [hol]; rfl)
  have bL : Blk w1 pL 22 #[.slice hA Y.L hc] := by rw [hal]; exact alc_blk (i := 1) (by omega) (by rw [hol]; rfl)
  have bF : Blk w1 pF 71 #[.func (.func 47) #[] #[]] := by rw [hal]; exact alc_blk (i := 2) (by omega) (by rw [hol]; rfl)
  have bE : Blk w1 pE 72 #[.func (.func 48) #[] #[.pointer (some ⟨pX, 0, none⟩)]] := by rw [hal]; exact alc_blk (i := 3) (by omega) (by rw [hol]; rfl)
  have bR : Blk w1 pR 25 #[.int .i64 0, .slice none 0 0, .slice none 0 0] := by rw [hal]; exact alc_blk (i := 4) (by omega) (by rw [hol]; rfl)
  have bT : Blk w1 pT 25 #[.int .i64 (Y.q : Int), .slice hA Y.L hc, .slice none 0 0] := by rw [hal]; exact alc_blk (i := 5) (by omega) (by rw [hol]; rfl)
  have mS_ : w1.ownsMap Tryz.prog plI.tP (plainElem Tryz.prog 3) mS 0 (.map [] : DataW Unit) := by rw [hal]; exact alc_map (i := 6) (by omega) (by rw [hol]; rfl) _ _ _
  have bS : Blk w1 pS 94 #[.map (some mS)] := by rw [hal]; exact alc_blk (i := 7) (by omega) (by rw [hol, hmS]; rfl)
  have mI_ : MapA w1 mI 0 (.map []) := by rw [hal]; exact alc_map (i := 8) (by omega) (by rw [hol]; rfl) _ _ _
  have bI : Blk w1 pI 85 #[.map (some mI)] := by rw [hal]; exact alc_blk (i := 9) (by omega) (by rw [hol, hmI]; rfl)
  have bV : Blk w1 pV 95 #[.func (.func 74) #[] #[.pointer (some ⟨pL, 0, none⟩), .pointer (some ⟨pE, 0, none⟩), .pointer (some ⟨pS, 0, none⟩), .pointer (some ⟨pQ, 0, none⟩), .pointer (some ⟨pV, 0, none⟩), .pointer (some ⟨pF, 0, none⟩), .pointer (some ⟨pI, 0, none⟩), .pointer (some ⟨pT, 0, none⟩)]] := by rw [hal]; exact alc_blk (i := 10) (by omega) (by rw [hol, hpL, hpE, hpS, hpQ, hpV, hpF, hpI, hpT]; rfl)
  obtain ⟨C, hC⟩ : ∃ C : BC, C = ⟨w.heap.size, pT, pL, pE, pS, pQ, pV, pF, pI, mS, mI, (Y.q : Int), hA, Y.L, hc, 72, 71, 95, .func (.func 48) #[] #[.pointer (some ⟨pX, 0, none⟩)], .func (.func 47) #[] #[], .func (.func 74) #[] #[.pointer (some ⟨pL, 0, none⟩), .pointer (some ⟨pE, 0, none⟩), .pointer (some ⟨pS, 0, none⟩), .pointer (some ⟨pQ, 0, none⟩), .pointer (some ⟨pV, 0, none⟩), .pointer (some ⟨pF, 0, none⟩), .pointer (some ⟨pI, 0, none⟩), .pointer (some ⟨pT, 0, none⟩)]⟩ := ⟨_, rfl⟩
  have hk0 : BC0 plI.tM C w1 := by
    rw [hC]
    refine ⟨bL, bE, bS, bQ, bV, bF, bI, ?_, fun g hg => ?_, ?_, ?_⟩
    · dsimp only; omega
    · dsimp only at hg ⊢; omega
    · dsimp only; omega
    · dsimp only; omega
  have hW : BW plI C w1 (.slice none 0 0) [] (.map []) (.map []) ([], []) w1 := by
    refine ⟨hk0, Kept.refl _ _, ?_, OwnN.nil _ _ _ _, rfl, ?_, ?_, KnownK.nil _, KnownI.nil, fun g e => by simp [Value.ownBlock] at e⟩
    · rw [hC]; exact bT
    · rw [hC]; exact mS_
    · rw [hC]; exact mI_
  have hcap : cap Y.q Y.L ≤ 1000000000 := Nat.le_trans (cap_mono hq8 _ 9 hL) (by decide)
  have hvis := visitE_any Y R hR hF hok (by omega) hq1 hq8 C w1 pX (by rw [hC]) (by rw [hC]) (by rw [hC]) (by rw [hC]) (by rw [hC]) (by rw [hC]; exact hT.on hb1) (by rw [hC]; exact hb1.size)
    (fun a s t W' h1 h2 h3 hk => hstep a s t W' h1 h2 h3 (hb1.trans (hk.to_below hb1.size (fun g hg e => by rw [hC] at e; dsimp only at e; omega))))
    (fun s W' h1 hk => hend s W' h1 (hb1.trans (hk.to_below hb1.size (fun g hg e => by rw [hC] at e; dsimp only at e; omega))))
    Y.L 0 s0 ([], []) (.slice none 0 0) [] (.map []) (.map []) w1 (by omega) hr (BI.nil Y) hW (by simpa using hcap) (by simpa using hcap)
  rw [hC] at hvis
  dsimp only at hvis
  rw [← hC, show ((0 : Nat) : Int) = 0 from rfl] at hvis
  have HVIS := Lib.hid hvis
  have HW := Lib.hid hW
  have HC := Lib.hid hC
  have HB1 := Lib.hid hb1
  have HP := Lib.hid hp
  have HPL := Lib.hid hpl
  have HRC := Lib.hid bR
  have HNE : Hid (¬ BT C (.slice none 0 0) pR ∧ w.heap.size ≤ pR) := Lib.hid (by
    rw [hC]
    refine ⟨?_, by omega⟩
    rintro (e | e | e | e)
    · dsimp only at e; omega
    · dsimp only at e; omega
    · dsimp only at e; omega
    · simp [Value.ownBlock] at e)
  have HQ8 := Lib.hid hq8
  have hcV := bV.cell_ 0 _ rfl

  have hmm := @run_makeMap Tryz.prog
  clear hal hsz hb1 hol hR hF hok hL0 hL hq1 hq8 hr hp hpl hT hstep hend hk0 hW hcap hvis hC bQ bL bF bE bR bT bS bI bV mS_ mI_ ol
  go_enter Tryz.func45, Tryz.ntmps45
  go_upto_region 6 with fail
  rw [← hw1, ← hpV, ← hpI, ← hmI, ← hpS, ← hmS, ← hpT, ← hpR, ← hpE, ← hpF, ← hpL, ← hpQ]
  clear hw1 hpQ hpL hpF hpE hpR hpT hmS hpS hmI hpI hpV hmm
  go_wp2_with (go_at_call 74; refine HVIS.out.mono ?_; intro e w5 hx9; obtain ⟨ov, os, DS, DI, rfl, hbv⟩ := hx9; have HBV := Lib.hid hbv; clear hbv; refine Hid.out ?_)
  refine Lib.hid ?_
  clear HVIS hcV
  obtain ⟨oA, oc, eov, hnd, -⟩ := HBV.out.wk.out.nds
  subst eov
  have bT5 := HBV.out.wk.bT
  rw [HC.out] at bT5
  dsimp only at bT5
  have bR5 := HBV.out.kp.blk HRC.out HNE.out.1
  have HB5 : Hid (Below w.heap.size w1 w5) := Lib.hid (by have := HW.out.below HBV.out.kp; rw [HC.out] at this; exact this)
  have c0 := bT5.cell_ 0 (.int .i64 (Y.q : Int)) rfl
  have c1 := bT5.cell_ 1 (.slice hA Y.L hc) rfl
  have c2 := bT5.cell_ 2 (.slice oA os.length oc) rfl
  have d0 := bR5.cell_ 0 (.int .i64 0) rfl
  have d1 := bR5.cell_ 1 (.slice none 0 0) rfl
  have d2 := bR5.cell_ 2 (.slice none 0 0) rfl
  have f0 := bR5.frozen 0
  have f1 := bR5.frozen 1
  have f2 := bR5.frozen 2
  have HR5 := Lib.hid bR5
  clear bT5 bR5 hnd
  go_wp2
  have hk3 : Kept (fun g => g = pR) w5 (((w5.setCell ⟨pR, 0, none⟩ (.int .i64 (Y.q : Int))).setCell ⟨pR, 1, none⟩ (.slice hA Y.L hc)).setCell ⟨pR, 2, none⟩ (.slice oA os.length oc)) := (((Kept.refl (fun g => g = pR) w5).setCell (p := ⟨pR, 0, none⟩) (Or.inl rfl) _).setCell (p := ⟨pR, 1, none⟩) (Or.inl rfl) _).setCell (p := ⟨pR, 2, none⟩) (Or.inl rfl) _
  have hneR : (Value.slice oA os.length oc).ownBlock ≠ some pR := fun e => by
    have h1 := HBV.out.wk.nvB pR e
    have h2 := HRC.out.lt
    omega
  have hno := HBV.out.wk.out.kept hk3 (fun g e1 e2 => by subst e2; exact hneR e1) (fun y hy g e1 e2 => by subst e2; exact own_blk_ne' (HBV.out.wk.out.2 y hy) HR5.out (by decide) e1)
  have hbf : Below w.heap.size w (((w5.setCell ⟨pR, 0, none⟩ (.int .i64 (Y.q : Int))).setCell ⟨pR, 1, none⟩ (.slice hA Y.L hc)).setCell ⟨pR, 2, none⟩ (.slice oA os.length oc)) := (HB1.out.trans HB5.out).trans (hk3.to_below (by have := HB1.out.size; have := HB5.out.size; omega) (fun g hg e => by have := HNE.out.2; omega))
  have hq : Blk (((w5.setCell ⟨pR, 0, none⟩ (.int .i64 (Y.q : Int))).setCell ⟨pR, 1, none⟩ (.slice hA Y.L hc)).setCell ⟨pR, 2, none⟩ (.slice oA os.length oc)) pR 25 #[.int .i64 (Y.q : Int), .slice hA Y.L hc, .slice oA os.length oc] := ((HR5.out.set_ 0 (.int .i64 (Y.q : Int))).set_ 1 (.slice hA Y.L hc)).set_ 2 (.slice oA os.length oc)
  exact bodyPost_ret (results_cell_row Tryz.results45 _ _ pR 25 #[.int .i64 (Y.q : Int), .slice hA Y.L hc, .slice oA os.length oc] (0, 0) _ rfl hq Tryz.underlying25 rfl Tryz.sizeTree) rfl
    ⟨oA, oc, os, rfl, by rw [HC.out] at hno; exact hno, HBV.out.wk.eq, hbf⟩
end Go.Proofs.YtmlhkbgifnifdaaGreatDoor
