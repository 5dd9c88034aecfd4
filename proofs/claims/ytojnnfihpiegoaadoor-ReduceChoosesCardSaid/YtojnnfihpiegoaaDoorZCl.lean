/-
  (*reduce.chooser).product. No condition but bounds, and that the nodes are those of valid trees.
  What reduce.Choose computes, in plain lists; trees of one's own in a slice. No condition.
  reduce.sized. No condition.
-/
import Derived.Test.YtojnnfihpiegoaaDoorZCk
namespace Go.Proofs.YtojnnfihpiegoaaDoor
open Go.RowKit Go.Maps
set_option maxRecDepth 100000
set_option linter.unusedVariables false
set_option linter.unusedSimpArgs false

/-- what a call of product does -/
def PrPost (w1 : World) (B p M M2 : Nat) (tA : Option Addr) (tc : Nat) (ts : List TrH) (nv : Value) (hs : List Hd) (r : Option (Int × CS)) (w : World) (e : Ending) (w' : World) : Prop :=
  Kept (ChsS p M M2 nv) w w' ∧ match r with
    | some (k, s') => ∃ cs' nv' hs' D' D2', e = .returned (.tuple #[.int .i64 k, .bool true]) ∧ Chs w1 B p M M2 tA tc ts cs' nv' hs' D' D2' s' w' ∧ Moved nv nv' w ∧ NewIn hs hs' w
    | none => ∃ k : Int, e = .returned (.tuple #[.int .i64 k, .bool false])
theorem okC.range {T : List (List Nd)} {q L : Nat} {ids : List Int} (h : okC T q L ids) (hq : q ≤ 1000) (hl : ∀ i, i < T.length → (T.getD i []).length ≤ 1000000) : ∀ z ∈ ids, 0 ≤ z ∧ z ≤ 1000000 := by
  intro z hz
  obtain ⟨i, hi, rfl⟩ := List.getElem_of_mem hz
  have hi2 : i < T.length := by rw [← h.1]; exact hi
  obtain ⟨h1, h2, h3⟩ := h.2 i hi2
  have e : ids.getD i 0 = ids[i] := by rw [List.getD_eq_getElem?_getD, List.getElem?_eq_getElem hi]; rfl
  rw [e] at h1 h2 h3
  have := hl i hi2
  rcases Nat.eq_zero_or_pos L with h0 | h0
  · have := h2 h0; omega
  · have := (h3 h0).1; omega
theorem ts_get {ts : List TrH} {i : Nat} (hi : i < ts.length) : (ts.map TrH.nds).getD i [] = (ts[i]).nds := by
  rw [List.getD_eq_getElem?_getD, List.getElem?_map, List.getElem?_eq_getElem hi]
  rfl
theorem meas_step {n k : Nat} (h : k < n) : n - (intOf (.int .i64 ((k : Int) + 1))).toNat < n - (intOf (.int .i64 (k : Int))).toNat := by
  simp only [intOf]
  omega
theorem kidsF_none {r : List Int → CS → Option (Int × CS)} {T : List (List Nd)} {ids : List Int} {s : CS} {j q : Nat} (h : j < q) (hn : kidsF r T ids (j + 1) s = none) : kidsF r T ids q s = none := by
  obtain ⟨d, rfl⟩ : ∃ d, q = (j + 1) + d := ⟨q - (j + 1), by omega⟩
  clear h
  induction d with
  | zero => exact hn
  | succ d ih =>
    show kidsF r T ids ((j + 1 + d) + 1) s = none
    unfold kidsF
    rw [ih]
theorem prd_low {B p M M2 g : Nat} (h : B ≤ p ∧ B ≤ M ∧ B ≤ M2) (hg : g < B) (e : g = p ∨ g = M ∨ g = M2) : False := by
  rcases e with e | e | e <;> omega
theorem prd_range {nx : List Int} {q L : Nat} {ns : List Nd} {P : Nat → Prop} (hle : ns.length ≤ 4096) (h : ∀ j, j < q → 0 ≤ nx.getD j 0 ∧ (L = 0 → nx.getD j 0 < (q : Int)) ∧ (1 ≤ L → (nx.getD j 0).toNat < ns.length ∧ (ndAt ns (nx.getD j 0).toNat).1 = (L : Int)) ∧ P j) (hl : nx.length = q) (hq : q ≤ 100) :
    ∀ z ∈ nx, 0 ≤ z ∧ z ≤ 1000000000000 := by
  intro z hz
  obtain ⟨j, hj, rfl⟩ := List.getElem_of_mem hz
  obtain ⟨h1, h2, h3, -⟩ := h j (by omega)
  have e : nx.getD j 0 = nx[j] := by rw [List.getD_eq_getElem?_getD, List.getElem?_eq_getElem hj]; rfl
  rw [e] at h1 h2 h3
  rcases Nat.eq_zero_or_pos L with h0 | h0
  · have := h2 h0; omega
  · have := (h3 h0).1; omega
theorem prd_lv {lv : Int} {L : Nat} (h : lv = ((L + 1 : Nat) : Int)) (hL : L ≤ 1000) : 0 ≤ lv ∧ lv ≤ 1000000000000 := by omega
theorem prd_len {nx : List Int} {q : Nat} (h : nx.length = q) (hq : q ≤ 100) : nx.length ≤ 1000 := by omega
theorem prd_hs {hs : List Hd} {ns : List Nd} (h : hs.map Hd.nd = ns) (hl : ns.length ≤ 4096) : hs.length < 1000000000000 := by
  rw [← h, List.length_map] at hl
  omega
theorem prd_look {m m' : List (Nd × Nat)} {lv : Int} {ids : List Int} {L : Nat} (h : look m (lv, ids) = none) (hg : ∀ x j, (x, j) ∈ m' → (x, j) ∈ m ∨ x.1 ≤ (L : Int)) (hl : lv = ((L + 1 : Nat) : Int)) : look m' (lv, ids) = none := by
  cases h2 : look m' (lv, ids) with
  | none => rfl
  | some k =>
    rcases hg _ _ (look_mem h2) with h3 | h3
    · exact absurd h3 (look_none h k)
    · dsimp only at h3
      omega
theorem prd_max {n N : Nat} (h : n ≤ N) (hN : N < 4611686018427387904) : n + 1 ≤ maxLen := by unfold maxLen; omega
theorem prd_max2 {n : Nat} (h : n + 1 ≤ maxLen) : n < maxLen := h
theorem addN_lt (ns : List Nd) (x : Nd) : (addN ns x).2.length ≤ ns.length + 1 ∧ (addN ns x).1 < (addN ns x).2.length := by
  rcases addN_cases ns x with ⟨i, ha, hil, hin⟩ | ⟨ha, hnot⟩
  · rw [ha]; exact ⟨Nat.le_succ _, hil⟩
  · rw [ha]; simp
theorem prd_wf {k a b : Nat} (h : a ≤ b + 1 ∧ k < a) (hb : b ≤ 4096) : -9223372036854775808 ≤ (k : Int) ∧ (k : Int) ≤ 9223372036854775807 := by omega
theorem Moved.down {u v : Value} {w w' : World} (h : Moved u v w') (hs : w.heap.size ≤ w'.heap.size) : Moved u v w := by
  rcases h with h | ⟨g, h1, h2⟩
  · exact .inl h
  · exact .inr ⟨g, h1, Nat.le_trans hs h2⟩
theorem prd_new {hs hs' hs6 : List Hd} {w wq : World} {lv : Int} {gN q : Nat} {nx : List Int} (h : NewIn hs hs' wq) (hg : wq.heap.size ≤ gN) (hn : ∀ x ∈ hs6, x ∈ hs' ∨ x = ⟨lv, some ⟨gN, 0, none⟩, q, nx⟩) (hs0 : w.heap.size ≤ wq.heap.size) : NewIn hs hs6 w := by
  intro x hx
  rcases hn x hx with hx | hx
  · rcases h x hx with h | ⟨g, e, h2⟩
    · exact .inl h
    · exact .inr ⟨g, e, Nat.le_trans hs0 h2⟩
  · subst hx
    exact .inr ⟨gN, rfl, Nat.le_trans hs0 hg⟩
theorem kids_set {X : List Int} {n i : Nat} {v : Int} (hl : X.length = n) (hi : i < n) (hv : X.getD i 0 = v) :
    (X.take i ++ List.replicate (n - i) (0 : Int)).length = n ∧ (X.take i ++ List.replicate (n - i) (0 : Int)).set i v = X.take (i + 1) ++ List.replicate (n - (i + 1)) 0 := by
  have hti : (X.take i).length = i := by rw [List.length_take]; omega
  refine ⟨by rw [List.length_append, hti, List.length_replicate]; omega, ?_⟩
  rw [List.set_append_right _ _ (by omega), hti, Nat.sub_self]
  obtain ⟨m, hm⟩ : ∃ m, n - i = m + 1 := ⟨n - i - 1, by omega⟩
  have he : X[i]'(by omega) = v := by rw [← hv, List.getD_eq_getElem?_getD, List.getElem?_eq_getElem (by omega)]; rfl
  rw [hm, show n - (i + 1) = m by omega, List.replicate_succ, List.set_cons_zero, List.take_succ_eq_append_getElem (by omega), he, List.append_assoc]
  rfl
theorem kids_all {X : List Int} {n : Nat} (hl : X.length = n) : X.take n ++ List.replicate (n - n) (0 : Int) = X := by
  rw [← hl, List.take_length, Nat.sub_self]
  simp
set_option maxHeartbeats 32000000 in
theorem product_any (w1 : World) (B p M M2 : Nat) (tA : Option Addr) (tc : Nat) (ts : List TrH) (q : Nat) (hT : TV q (ts.map TrH.nds)) (hst : ∀ t ∈ ts, t.st = (q : Int)) (hq0 : 0 < q) (hq1 : q ≤ 100) (htl : ∀ i, i < (ts.map TrH.nds).length → ((ts.map TrH.nds).getD i []).length ≤ 1000000)
    (hTr : ∀ w', Kept (fun g => g = p ∨ g = M ∨ g = M2) w1 w' → Trs w' tA ts) (b : Nat) (hb : ∀ i, i < (ts.map TrH.nds).length → ((ts.map TrH.nds).getD i []).length ≤ b) (hbb : b ^ (ts.map TrH.nds).length < 4611686018427387904)
    (R : Nat → List Int → Prop) (hR : ∀ L ids j, R (L + 1) ids → j < q → R L (kidsC (ts.map TrH.nds) ids j)) (hB : B ≤ w1.heap.size) (hBp : B ≤ p) (hBM : B ≤ M) (hBM2 : B ≤ M2) (ht : TabB B w1) :
    ∀ (L : Nat) (ids : List Int) (A : Option Addr) (c : Nat) (s : CS) (cs : Array Value) (nv : Value) (hs : List Hd) (D D2 : DataW Unit) (w : World), L ≤ 1000 → Chs w1 B p M M2 tA tc ts cs nv hs D D2 s w → CInv (ts.map TrH.nds) q R s → okC (ts.map TrH.nds) q L ids → R L ids →
    (∀ w', Kept (ChsS p M M2 nv) w w' → Ints w' A ids) →
    Calls Tryd.prog 44 #[.pointer (some ⟨p, 0, none⟩), .int .i64 L, .slice A ids.length c] w (PrPost w1 B p M M2 tA tc ts nv hs (prodC (ts.map TrH.nds) q L ids s) w) := by
  have htn : ts.length = q + 1 := by have := hT.1; rwa [List.length_map] at this
  have hTl : (ts.map TrH.nds).length = q + 1 := hT.1
  have hTg : ∀ i (hi : i < ts.length), (ts.map TrH.nds).getD i [] = (ts[i]).nds := fun i hi => ts_get hi
  generalize ts.map TrH.nds = T at *
  have HT := Lib.hid hT
  have HST := Lib.hid hst
  have HTL := Lib.hid htl
  have HTR := Lib.hid hTr
  have HBB := Lib.hid (And.intro hb hbb)
  have HR := Lib.hid hR
  have HBX := Lib.hid (And.intro hB (And.intro hBp (And.intro hBM hBM2)))
  have HTB := Lib.hid ht
  have HTG := Lib.hid hTg
  have HTN := Lib.hid (And.intro htn hTl)
  clear hT hst htl hTr hb hbb hR hB hBp hBM hBM2 ht hTg htn hTl
  intro L
  induction L with
  | zero =>
    intro ids A c s cs nv hs D D2 w hL hC hI hO hRi hids
    have hi := hids w (Kept.refl _ _)
    obtain ⟨p1, p2, p3, p4⟩ := pickC_ok HT.out hO
    have hl := hO.1
    have hn1 : 0 < ids.length := by have := HTN.out.2; omega
    obtain ⟨bi, oi, e1, -, h0⟩ := hi.at_ hn1
    have hz : ids[0]'hn1 = ids.getD 0 0 := by rw [List.getD_eq_getElem?_getD, List.getElem?_eq_getElem hn1]; rfl
    obtain ⟨z, hz2⟩ : ∃ z : Nat, ids.getD 0 0 = z := ⟨(ids.getD 0 0).toNat, by omega⟩
    rw [hz, hz2] at h0
    rw [hz2] at p4
    have hzl : z + 1 < ids.length := by have := HTN.out.2; omega
    obtain ⟨bi', oi', e2, -, h1⟩ := hi.at_ hzl
    rw [e1] at e2
    injection e2 with e2
    injection e2 with e3 e4
    subst e3 e4
    have hpk : ids[z + 1] = pickC ids := by
      unfold pickC
      rw [hz2, show (1 + (z : Int)).toNat = z + 1 by omega, List.getD_eq_getElem?_getD, List.getElem?_eq_getElem hzl]
      rfl
    rw [hpk] at h1
    rw [Nat.add_comm z 1] at h1
    subst e1
    rw [Nat.add_zero] at h0
    obtain ⟨res, hres⟩ : ∃ res, res = prodC T q 0 ids s := ⟨_, rfl⟩
    rw [← hres]
    have HRES : Hid (res = some (pickC ids, s)) := Lib.hid hres
    clear hres
    have HC := Lib.hid hC
    have hzi : (0 : Int) < (ids.length : Int) := by omega
    have hne : ids ≠ [] := by rintro rfl; exact absurd hn1 (by simp)
    clear hC hI hO hRi hids hi p1 p2 p3 hl hz hz2 hpk
    go_enter Tryd.func44, Tryd.ntmps44
    go_wp2
    go_ret2
    refine ⟨Kept.refl _ _, ?_⟩
    rw [HRES.out]
    exact ⟨cs, nv, hs, D, D2, by rfl, HC.out, .inl rfl, fun x hx => .inl hx⟩
  | succ L ih =>
    intro ids A c s cs nv hs D D2 w hL hC hI hO hRi hids
    have hi := hids w (Kept.refl _ _)
    have hbw : Below B w1 w := hC.kp.to_below HBX.out.1 (fun g hg e => by have := HBX.out.2; rcases e with e | e | e <;> omega)
    have hBw : B ≤ w.heap.size := Nat.le_trans HBX.out.1 hC.kp.below.size
    have HT0 := Lib.hid ((HTB.out.on hbw).up hBw)
    have HTBw := Lib.hid (HTB.out.on hbw)
    have hrng := hO.range (by omega) HTL.out
    have hz2 : ∀ z ∈ ids, -9223372036854775808 ≤ z ∧ z ≤ 9223372036854775807 := fun z h => by have := hrng z h; omega
    have HZ := Lib.hid hz2
    have HI0 := Lib.hid hi
    have HIDS := Lib.hid hids
    have HC := Lib.hid hC
    have HCI := Lib.hid hI
    have HO := Lib.hid hO
    have HRI := Lib.hid hRi
    have HIH := Lib.hid ih
    have HIL : Hid (ids.length = q + 1) := Lib.hid (by rw [hO.1]; exact HTN.out.2)
    have HLN : Hid (∀ i, i < ids.length → i < T.length ∧ i < ts.length) := Lib.hid (fun i h => by have := HIL.out; have := HTN.out.1; have := HTN.out.2; omega)
    have hil9 : ids.length ≤ 1000 := by have := HIL.out; omega
    obtain ⟨lv, hlv⟩ : ∃ lv : Int, lv = ((L + 1 : Nat) : Int) := ⟨_, rfl⟩
    have hlv2 : ((L : Int) + 1) = lv := by omega
    have HLV := Lib.hid hlv
    have HQ1 := Lib.hid hq1
    have HLQ : Hid (L ≤ 1000) := Lib.hid (by omega)
    have HWL : Hid (wrap64 (lv - 1) = (L : Int)) := Lib.hid (by rw [hlv]; unfold wrap64; omega)
    have hl0 : (lv == 0) = false := by simp; omega
    have hl0' : ¬ lv = 0 := by omega
    have HA0 := Lib.hid (appInt w.heap.size [] lv (.slice none 0 0) w (OwnB.nil _ _) (Nat.le_refl _) (by simp) (by omega) (by omega) HT0.out)
    have hlp : (prodC T q (L + 1) ids s) = (match look s.2 (lv, ids) with
      | some k => some ((k : Int), s)
      | none => match kidsF (prodC T q L) T ids q s with
        | none => none
        | some (nx, s') => if (addN s'.1 (lv, nx)).2.length ≤ 4096 then some (((addN s'.1 (lv, nx)).1 : Int), ((addN s'.1 (lv, nx)).2, s'.2 ++ [((lv, ids), (addN s'.1 (lv, nx)).1)])) else none) := by rw [hlv]; rfl
    obtain ⟨res, hres⟩ : ∃ res, res = prodC T q (L + 1) ids s := ⟨_, rfl⟩
    rw [← hres, ← hlv]
    rw [hlp] at hres
    have HRES := Lib.hid hres
    clear hres hC hI hO hRi hids hi hbw hrng hz2 ih hlv hlv2 hlp
    go_enter Tryd.func44, Tryd.ntmps44
    go_wp2_with (go_at_call 70; refine HA0.out.mono ?_)
    rintro e w2 ⟨v1, rfl, ho1, hb1⟩
    clear HA0
    rw [List.nil_append] at ho1
    have HO1 := Lib.hid ho1
    have HB1 := Lib.hid hb1
    clear ho1 hb1
    have hkl : ∀ k, (keyB (lv, ids.take k)).length ≤ 1000000 := fun k => by
      have := key_len (x := (lv, ids.take k)) (by dsimp only; have := HLV.out; omega) (fun z h => HZ.out z (List.mem_of_mem_take h))
      have h2 : (ids.take k).length ≤ ids.length := by rw [List.length_take]; omega
      dsimp only at this
      omega
    have HKL := Lib.hid hkl
    clear hkl
    go_wp2
    go_loopw [8, 34] (fun kv i wr => ∃ k : Nat, k ≤ ids.length ∧ i = .int .i64 k ∧ Hid (OwnB wr w.heap.size kv (keyB (lv, ids.take k))) ∧ Hid (Below w.heap.size w wr)) (fun _ i _ => ids.length - (intOf i).toNat)
    case atStart => exact ⟨0, Nat.zero_le _, rfl, Lib.hid (by have := HO1.out; simpa [keyB, tailB] using this), HB1⟩
    case round =>
      clear HB1 HO1
      obtain ⟨k, hk, rfl, HOk, HBk⟩ := hrel
      by_cases hlt : k < ids.length
      · obtain ⟨b1, o1, e1, hbl, hc0⟩ := (HI0.out.ext HBk.out).at_ hlt
        have HK := Lib.hid (key_snoc lv ids k hlt)
        have HZ1 := Lib.hid (HZ.out ids[k] (List.getElem_mem hlt))
        obtain ⟨z, hz⟩ : ∃ z, z = ids[k] := ⟨_, rfl⟩
        rw [← hz] at HK HZ1 hc0
        have hw1 : wrap64 ((k : Int) + 1) = (k : Int) + 1 := by unfold wrap64; omega
        have hown3 := HOk.out
        have hbs3 := HBk.out.size
        have hln3 : (keyB (lv, ids.take k)).length < 1000000000000 := Nat.lt_of_le_of_lt (HKL.out k) (by decide)
        subst e1
        clear hz
        go_wp2_with (at_builtin; refine wpList_pushB rfl _ _ rfl w.heap.size _ _ rfl hown3 32 _ rfl rfl hln3 hbs3 ?_)
        intro v' w9 ho9 hb9 hk9
        have HA9 := Lib.hid (appInt w.heap.size _ z v' w9 ho9 (Nat.le_trans HBk.out.size hb9.size) (by rw [List.length_append]; have := HKL.out (k + 1); rw [HK.out, List.length_append, List.length_append] at this; omega) HZ1.out.1 HZ1.out.2 (HT0.out.on (HBk.out.trans hb9)))
        have HB9 := Lib.hid (HBk.out.trans hb9)
        clear ho9 hb9 hk9 hown3 hbs3 hln3
        go_wp2_with (go_at_call 70; refine HA9.out.mono ?_)
        rintro e w2 ⟨v2, rfl, ho2, hb2⟩
        rw [← HK.out] at ho2
        have HO2 := Lib.hid ho2
        have HB2 := Lib.hid (HB9.out.trans hb2)
        clear ho2 hb2 HA9
        go_wp2
        go_roundw
        case rel => exact ⟨k + 1, hlt, rfl, HO2, HB2⟩
        case measure => exact meas_step hlt
      · obtain rfl : k = ids.length := by omega
        have HO1 := HOk
        rw [List.take_length] at HO1
        clear HOk hk hlt
        have HCw := Lib.hid (HC.out.ext HBk.out)
        obtain ⟨A7, c7, hv7⟩ := HO1.out.form
        subst hv7
        have HCV : ∀ n, (convert 91 9 (.slice A7 (keyB (lv, ids)).length c7)).run Tryd.prog (wr.drewN n) = .ok (.string ⟨(keyB (lv, ids)).toArray⟩) (wr.drewN n) := fun n => back_any (w := wr.drewN n) (HO1.out.ext (below_drewN (Below.refl _ _) n))
        have HKS : (keyB (lv, ids)).length ≤ maxLen := by have := HKL.out ids.length; rw [List.take_length] at this; unfold maxLen; omega
        have HKY : keyOf Tryd.prog 9 (.string ⟨(keyB (lv, ids)).toArray⟩) = some (.string (keyB (lv, ids))) := WideMaps.keyOf_string_mk Tryd.underlying9 HKS
        have HLK : ∀ n, ∃ v : Int, (Instr.lookup 62 (.map (some M2)) (.string ⟨(keyB (lv, ids)).toArray⟩) true).run Tryd.prog (wr.drewN n) = .ok (.tuple #[.int .i64 v, .bool (Maps.has D2 (.string (keyB (lv, ids))))]) (wr.drewN n) ∧
            D2.atKey (.string (keyB (lv, ids))) (.lit (.int .i64 0)) = .lit (.int .i64 v) := by
          intro n
          have hm : MapA (wr.drewN n) M2 s.2.length D2 := HCw.out.map2
          obtain ⟨v, ps, hrun, hat⟩ := hm.look_ok Tryd.law Tryd.underlying62 (Tryd.zeroInt _) (plainElem_int Tryd.underlying3 (by decide)) HKY
          obtain ⟨x, rfl, hx, -⟩ := plainElem_int_inv Tryd.underlying3 hat
          exact ⟨x, hrun, congrArg Prod.fst hx⟩
        have hc3 : wr.cell? ⟨p, 3, none⟩ = some (.map (some M2)) := HCw.out.bld.blk.cell_ 3 _ HCw.out.c3
        have hc2 : wr.cell? ⟨p, 2, none⟩ = some (.slice tA ts.length tc) := HCw.out.bld.blk.cell_ 2 _ HCw.out.c2
        obtain ⟨KS, hKS⟩ : ∃ KS : ByteArray, KS = ⟨(keyB (lv, ids)).toArray⟩ := ⟨_, rfl⟩
        obtain ⟨KL, hKL⟩ : ∃ KL, KL = (keyB (lv, ids)).length := ⟨_, rfl⟩
        rw [← hKS] at HCV HLK HKY
        rw [← hKL] at HCV
        have hO1 := HO1.out
        rw [← hKL] at hO1
        have HKLE := Lib.hid hKL
        have HKSe := Lib.hid hKS
        have HOK := Lib.hid hO1
        have HKY2 := Lib.hid HKY
        have HKN := Lib.hid (HCw.out.known2.2 (lv, ids))
        rw [← hKL]
        clear hKL hKS hO1 HO1 HKS HKY
        cases hpo : look s.2 (lv, ids) with
        | some i =>
          have HH : Maps.has D2 (.string (keyB (lv, ids))) = true := by have := HKN.out.1; rw [hpo] at this; exact this
          have HV := HKN.out.2 i hpo
          rw [HH] at HLK
          have hlk : ∀ n, (Instr.lookup 62 (.map (some M2)) (.string KS) true).run Tryd.prog (wr.drewN n) = .ok (.tuple #[.int .i64 i, .bool true]) (wr.drewN n) := by
            intro n
            obtain ⟨v, h1, h2⟩ := HLK n
            rw [HV] at h2
            injection h2 with h2
            injection h2 with _ h2
            rw [h1, h2]
          have HRES : Hid (res = some ((i : Int), s)) := Lib.hid (by rw [HRES.out, hpo])
          clear HLK HV HH hpo HKN
          go_wp2
          go_quiet (fail)
          go_wp2
          go_ret2
          refine ⟨(Kept.of_new _ (below_drewN HBk.out _)), ?_⟩
          rw [HRES.out]
          exact ⟨cs, nv, hs, D, D2, by rfl, HCw.out.ext (below_drewN (Below.refl _ _) _), .inl rfl, fun x hx => .inl hx⟩
        | none =>
          have HH : Maps.has D2 (.string (keyB (lv, ids))) = false := by have := HKN.out.1; rw [hpo] at this; exact this
          rw [HH] at HLK
          obtain ⟨v0, -, hv0⟩ := HLK 0
          have hlk : ∀ n, (Instr.lookup 62 (.map (some M2)) (.string KS) true).run Tryd.prog (wr.drewN n) = .ok (.tuple #[.int .i64 v0, .bool false]) (wr.drewN n) := by
            intro n
            obtain ⟨v, h1, h2⟩ := HLK n
            rw [hv0] at h2
            injection h2 with h2
            injection h2 with _ h2
            rw [h1, h2]
          have HPO := Lib.hid hpo
          clear HLK hv0 HH hpo HKN
          go_wp2
          go_quiet (fail)
          obtain ⟨wq, hwq⟩ : ∃ wq, wq = wr.drewN nq := ⟨_, rfl⟩
          have HBq : Hid (Below w.heap.size w wq) := Lib.hid (by rw [hwq]; exact below_drewN HBk.out _)
          have HCq : Hid (Chs w1 B p M M2 tA tc ts cs nv hs D D2 s wq) := Lib.hid (by rw [hwq]; exact HCw.out.ext (below_drewN (Below.refl _ _) _))
          have HOq : Hid (OwnB wq w.heap.size (.slice A7 KL c7) (keyB (lv, ids))) := Lib.hid (by rw [hwq]; exact HOK.out.ext (below_drewN (Below.refl _ _) _))
          rw [← hwq]
          clear HCw HOK HBk hlk HCV hc3 hc2 hwq
          have hts := HCq.out.trs HTR.out
          obtain ⟨tb, tof, etA, -, ht0, -, -, -, -⟩ := hts.at_ (k := 0) (by have := HTN.out.1; omega)
          rw [HST.out _ (List.getElem_mem (by have := HTN.out.1; omega)), Nat.zero_mul, Nat.add_zero] at ht0
          have hc2 : wq.cell? ⟨p, 2, none⟩ = some (.slice tA ts.length tc) := HCq.out.bld.blk.cell_ 2 _ HCq.out.c2
          obtain ⟨i0, hi0, hz0, hz1, hz2⟩ := info_parts Tryd.infoInt
          have htp : (0 : Int) < (ts.length : Int) := by have := HTN.out.1; omega
          have htp2 : ts ≠ [] := by rintro rfl; exact absurd HTN.out.1 (by simp)
          have htp3 : 0 < ts.length := by have := HTN.out.1; omega
          subst etA
          clear hts
          have hBq : B ≤ wq.heap.size := Nat.le_trans hBw HBq.out.size
          go_wp2_with (at_make; refine wpList_make_full _ rfl _ _ 31 rfl B 3 i0 _ 1 Tryd.underlying31 hi0 hz0 hz1 .i64 .i64 q q q rfl rfl rfl rfl (by rw [hz2]; omega) (by unfold maxLen; omega) hBq ?_)
          intro wn hon hgn
          have hbn : Below wq.heap.size wq wn := (Below.refl _ wq).grown hgn (by simp) (by intro k hk; cases hk)
          have hrow : OwnIA wn B (.slice (some ⟨wq.heap.size, 0, none⟩) q q) (List.replicate q 0) := by
            unfold OwnIA OwnI
            rw [List.length_replicate, List.map_replicate]
            rw [toList_madeCells_one] at hon
            exact hon
          have HPR : Hid (PrL w1 B p M M2 (some ⟨tb, tof, none⟩) tc ts q nv hs wq wq.heap.size [] cs nv hs D D2 s wn) := Lib.hid
            ⟨HCq.out.ext hbn, Kept.of_new _ hbn, .inl rfl, fun x hx => .inl hx, by simpa using hrow, Nat.zero_le _, Nat.le_refl _, HCq.out.kp.below.size, fun x hx e => by have := (own_lt' (HCq.out.bld.own.2 x hx) e).1; omega⟩
          have HKF : Hid (kidsF (prodC T q L) T ids 0 s = some ([], s)) := Lib.hid rfl
          obtain ⟨gN, hgN⟩ : ∃ gN, gN = wq.heap.size := ⟨_, rfl⟩
          rw [← hgN] at HPR ⊢
          clear hbn hrow hon hgn ht0 hc2 hBq hgN
          go_wp2
          go_loopw [66] (fun jv wr => ∃ (j : Nat) (nx : List Int) (cs' : Array Value) (nv' : Value) (hs' : List Hd) (D' D2' : DataW Unit) (s' : CS), j ≤ q ∧ jv = .int .i64 j ∧ Hid (nx.length = j) ∧ Hid (kidsF (prodC T q L) T ids j s = some (nx, s')) ∧ Hid (CInv T q R s') ∧
            Hid (PrL w1 B p M M2 (some ⟨tb, tof, none⟩) tc ts q nv hs wq gN nx cs' nv' hs' D' D2' s' wr)) (fun jv _ => q - (intOf jv).toNat)
          case atStart => exact ⟨0, [], cs, nv, hs, D, D2, s, Nat.zero_le _, rfl, Lib.hid rfl, HKF, HCI, HPR⟩
          case round =>
            clear HPR HKF
            obtain ⟨j, nx, cs', nv', hs', D', D2', s', hj, rfl, HNL, HKF, HCI2, HPL⟩ := hrel
            have hwj : wrap64 ((j : Int) + 1) = (j : Int) + 1 := by unfold wrap64; omega
            have HRK := Lib.hid (HIDS.out wr ((Kept.of_new _ HBq.out).trans HPL.out.kp))
            by_cases hjq : j < q
            · have HJQ := Lib.hid hjq
              obtain ⟨W2, hW2⟩ : ∃ W2, W2 = wr := ⟨_, rfl⟩
              have hBr : B ≤ wr.heap.size := Nat.le_trans hBw (Nat.le_trans HBq.out.size HPL.out.kp.below.size)
              go_wp2_with (at_make; refine wpList_make_full _ rfl _ _ 31 rfl B 3 i0 _ 1 Tryd.underlying31 hi0 hz0 hz1 .i64 .i64 ids.length ids.length ids.length rfl rfl rfl rfl (by rw [hz2]; omega) (by unfold maxLen; omega) hBr ?_)
              intro wk hok hgk
              have hbk : Below wr.heap.size wr wk := (Below.refl _ wr).grown hgk (by simp) (by intro k hk; cases hk)
              have hrk : OwnIA wk B (.slice (some ⟨wr.heap.size, 0, none⟩) ids.length ids.length) (List.replicate ids.length 0) := by
                unfold OwnIA OwnI
                rw [List.length_replicate, List.map_replicate]
                rw [toList_madeCells_one] at hok
                exact hok
              have HROW := Lib.hid hrk
              have HBK := Lib.hid hbk
              obtain ⟨gK, hgK⟩ : ∃ gK, gK = wr.heap.size := ⟨_, rfl⟩
              rw [← hgK] at HROW ⊢
              have HGK : Hid (wr.heap.size ≤ gK) := Lib.hid (by omega)
              clear hok hgk hbk hrk hgK hBr
              go_wp2
              go_loopw [74] (fun iv wi => ∃ i : Nat, i ≤ ids.length ∧ iv = .int .i64 i ∧ Hid (OwnIA wi B (.slice (some ⟨gK, 0, none⟩) ids.length ids.length) ((kidsC T ids j).take i ++ List.replicate (ids.length - i) 0)) ∧ Hid (Below W2.heap.size W2 wi)) (fun iv _ => ids.length - (intOf iv).toNat)
              case atStart => exact ⟨0, Nat.zero_le _, rfl, Lib.hid (by simpa using HROW.out), Lib.hid (by rw [hW2]; exact HBK.out)⟩
              case round =>
                clear HROW HBK
                obtain ⟨i, hi, rfl, HROW, HBI⟩ := hrel
                subst hW2
                have hwi : wrap64 ((i : Int) + 1) = (i : Int) + 1 := by unfold wrap64; omega
                by_cases hii : i < ids.length
                · have HPI := Lib.hid (HPL.out.ext HBI.out)
                  have hkl := kidsC_len T ids j HO.out.1
                  obtain ⟨hiT, hits⟩ := HLN.out i hii
                  obtain ⟨k0, k1, k2⟩ := HO.out.2 i hiT
                  obtain ⟨k3, k4⟩ := k2 (by omega)
                  have hTi := HTG.out i hits
                  obtain ⟨kid, hkid⟩ : ∃ kid : Nat, ids.getD i 0 = kid := ⟨(ids.getD i 0).toNat, by omega⟩
                  have hge : ids[i] = (kid : Int) := by rw [← hkid, List.getD_eq_getElem?_getD, List.getElem?_eq_getElem hii]; rfl
                  obtain ⟨bi, oi, e1, -, hci⟩ := (HRK.out.ext HBI.out).at_ hii
                  rw [hge] at hci
                  obtain ⟨tb', tof', e2, -, -, -, ht2, -, hnd⟩ := (HPI.out.ch.trs HTR.out).at_ hits
                  injection e2 with e2
                  injection e2 with e3 e4
                  subst e3 e4
                  rw [hkid, Int.toNat_natCast, hTi] at k3 k4
                  have hkl2 : kid < (ts[i]).hs.length := by have := k3; unfold TrH.nds at this; rwa [List.length_map] at this
                  obtain ⟨nb, no, e5, -, -, hn1, hzi⟩ := hnd.at_ hkl2
                  have hvi := HT.out.2 i hiT
                  rw [hTi] at hvi
                  have hnl := hvi.lev.len kid k3
                  have hna : ndAt (ts[i]).nds kid = ((ts[i]).hs[kid]).nd := ndl_at _ hkl2
                  rw [hna] at hnl
                  change ((ts[i]).hs[kid]).zs.length = q at hnl
                  have hjz : j < ((ts[i]).hs[kid]).zs.length := by rw [hnl]; exact hjq
                  obtain ⟨bz, oz, e6, -, hcz⟩ := hzi.at_ hjz
                  have hkv : (kidsC T ids j).getD i 0 = ((ts[i]).hs[kid]).zs[j] := by
                    rw [kidsC_at HO.out.1 j hiT, hTi, hkid, Int.toNat_natCast, hna]
                    show ((ts[i]).hs[kid]).zs.getD j 0 = _
                    rw [List.getD_eq_getElem?_getD, List.getElem?_eq_getElem hjz]
                    rfl
                  obtain ⟨hrl, hse⟩ := kids_set (hkl.trans HO.out.1.symm) hii hkv
                  obtain ⟨hck, hfk⟩ := HROW.out.cellk (k := i) (by rw [hrl]; exact hii)
                  have hset := OwnI.set HROW.out hrl.symm i (((ts[i]).hs[kid]).zs[j])
                  rw [hse] at hset
                  have HSET := Lib.hid hset
                  have hc2 : wr.cell? ⟨p, 2, none⟩ = some (.slice (some ⟨tb, tof, none⟩) ts.length tc) := HPI.out.ch.bld.blk.cell_ 2 _ HPI.out.ch.c2
                  obtain ⟨zz, hzz⟩ : ∃ zz, zz = ((ts[i]).hs[kid]).zs := ⟨_, rfl⟩
                  obtain ⟨zv, hzv⟩ : ∃ zv, zv = ((ts[i]).hs[kid]).zs[j] := ⟨_, rfl⟩
                  rw [← hzv] at HSET hcz
                  rw [hnl] at hn1
                  obtain ⟨hdn, hhdn⟩ : ∃ hdn, hdn = (ts[i]).hs.length := ⟨_, rfl⟩
                  rw [← hhdn] at ht2 hkl2
                  rw [e6] at hn1
                  rw [e5] at ht2
                  obtain ⟨ic, hic⟩ : ∃ ic, ic = ((ts[i]).hs[kid]).c := ⟨_, rfl⟩
                  rw [← hic] at hn1
                  obtain ⟨inc, hinc⟩ : ∃ inc, inc = (ts[i]).nc := ⟨_, rfl⟩
                  rw [← hinc] at ht2
                  subst e1
                  have HII := Lib.hid hii
                  clear htp htp2 htp3 hj hi hil9 hL hBw hq0 hq1 hwj
                  clear hkl hiT k0 k1 k2 k3 k4 hTi hge e6 e5 hzz hzv hhdn hic hinc hnd hzi hvi hnl hna hjz hkv hrl hset hse hkid
                  go_wp2
                  go_roundw
                  case rel => exact ⟨i + 1, HII.out, (by first | rfl | (rw [hwi]; rfl)), HSET, Lib.hid (HBI.out.setCell (p := ⟨gK, i, none⟩) HGK.out _)⟩
                  case measure => (try rw [hwi]); exact meas_step HII.out
                · have hie : i = ids.length := Nat.le_antisymm hi (Nat.le_of_not_lt hii)
                  subst hie
                  have hkl := (kidsC_len T ids j HO.out.1).trans HO.out.1.symm
                  have hrow := HROW.out
                  rw [kids_all hkl] at hrow
                  have HPI := Lib.hid (HPL.out.ext HBI.out)
                  obtain ⟨kids, hkids⟩ : ∃ kids, kids = kidsC T ids j := ⟨_, rfl⟩
                  have hgw1 : w1.heap.size ≤ gK := Nat.le_trans HPL.out.ch.kp.below.size HGK.out
                  have HKI : Hid (∀ w', Kept (ChsS p M M2 nv') wr w' → Ints w' (some ⟨gK, 0, none⟩) (kidsC T ids j)) := Lib.hid (fun w' hk => by
                    have h9 : OwnIA wr B (.slice (some ⟨gK, 0, none⟩) ids.length ids.length) (kidsC T ids j) := hrow
                    have h8 : w'.ownsRow B 3 1 (.slice (some ⟨gK, 0, none⟩) ids.length ids.length) (kidsC T ids j).length ((kidsC T ids j).map (Value.int .i64)) :=
                      Kept.chs_row (B0 := B) (c := 0) (g0 := gK) hk HPI.out.ch h9 (by decide) (fun g e => by injection e with e; rw [← e]; exact hgw1)
                    exact OwnI.reads (I := 3) (base := B) (n := ids.length) (c := ids.length) h8)
                  have hcall := HIH.out (kidsC T ids j) (some ⟨gK, 0, none⟩) ids.length s' cs' nv' hs' D' D2' wr (Nat.le_of_succ_le hL) HPI.out.ch HCI2.out (HO.out.kids HT.out HJQ.out) (HR.out L ids j HRI.out HJQ.out) HKI.out
                  rw [hkl] at hcall
                  have HCALL := Lib.hid hcall
                  have hw1 : wrap64 (lv - 1) = (L : Int) := HWL.out
                  have HPOST := Lib.hid (prodC_ok HT.out HR.out L (kidsC T ids j) s' HCI2.out (HO.out.kids HT.out HJQ.out) (HR.out L ids j HRI.out HJQ.out))
                  have HST2 : Hid (kidsF (prodC T q L) T ids (j + 1) s = match prodC T q L (kidsC T ids j) s' with
                    | none => none
                    | some (v, s'') => some (nx ++ [v], s'')) := Lib.hid (by
                      show (match kidsF (prodC T q L) T ids j s with
                        | none => none
                        | some (nx, s') => match prodC T q L (kidsC T ids j) s' with
                          | none => none
                          | some (v, s'') => some (nx ++ [v], s'')) = _
                      rw [HKF.out])
                  obtain ⟨rk, hrk⟩ : ∃ rk, rk = prodC T q L (kidsC T ids j) s' := ⟨_, rfl⟩
                  rw [← hrk] at HCALL HPOST HST2
                  clear hkids hrow hcall hrk hkl hgw1 hii hi HROW
                  clear htp htp2 htp3 hj hil9 hL hBw hq0 hq1 hjq
                  cases rk with
                  | none =>
                    have HNO : Hid (kidsF (prodC T q L) T ids (j + 1) s = none) := HST2
                    clear HST2 HPOST
                    go_wp2_with (go_at_call 44; refine HCALL.out.mono ?_; rintro e w5 ⟨hk5, k5, rfl⟩; refine Hid.out ?_)
                    refine Lib.hid ?_
                    have HNQ : Hid (kidsF (prodC T q L) T ids q s = none) := Lib.hid (kidsF_none HJQ.out HNO.out)
                    have HRS : Hid (res = none) := Lib.hid (by rw [HRES.out, HPO.out, HNQ.out])
                    have HKK : Hid (Kept (ChsS p M M2 nv) w w5) := Lib.hid ((Kept.of_new _ HBq.out).trans (HPI.out.kp.chsT HPI.out.mv hk5))
                    clear hk5
                    go_wp2
                    go_ret2
                    refine ⟨HKK.out, ?_⟩
                    rw [HRS.out]
                    exact ⟨0, by rfl⟩
                  | some pv =>
                    obtain ⟨v, s5⟩ := pv
                    have HYES : Hid (kidsF (prodC T q L) T ids (j + 1) s = some (nx ++ [v], s5)) := HST2
                    have HCI5 : Hid (CInv T q R s5) := Lib.hid HPOST.out.1
                    clear HST2 HPOST
                    go_wp2_with (go_at_call 44; refine HCALL.out.mono ?_; rintro e w5 ⟨hk5, cs5, nv5, hs5, D5, E5, rfl, hc5, hm5, hn5⟩; refine Hid.out ?_)
                    refine Lib.hid ?_
                    have HP5 := Lib.hid (HPI.out.call hk5 hc5 hm5 hn5)
                    have hnq : nx.length < q := by rw [HNL.out]; exact HJQ.out
                    have HP6 := Lib.hid (HP5.out.store hnq v)
                    obtain ⟨hcn, hfn⟩ := HP5.out.row.cellk (k := nx.length) (by rw [HP5.out.rowlen]; exact hnq)
                    rw [HNL.out] at hcn hfn HP6
                    have hjq := HJQ.out
                    have HNL2 : Hid ((nx ++ [v]).length = j + 1) := Lib.hid (by rw [List.length_append, HNL.out]; rfl)
                    clear hk5 hc5 hm5 hn5 hnq
                    go_wp2
                    go_roundw
                    case rel => exact ⟨j + 1, nx ++ [v], cs5, nv5, hs5, D5, E5, s5, HJQ.out, (by first | rfl | (rw [hwj]; rfl)), HNL2, HYES, HCI5, HP6⟩
                    case measure => (try rw [hwj]); exact meas_step HJQ.out
            · have hje : q = j := (Nat.le_antisymm hj (Nat.le_of_not_lt hjq)).symm
              subst hje
              have HKP := Lib.hid (kidsF_ok HT.out HR.out (fun ids s a b c => prodC_ok HT.out HR.out L ids s a b c) HO.out HRI.out HCI.out q (Nat.le_refl _))
              rw [HKF.out] at HKP
              have hrow := HPL.out.row
              rw [HNL.out, Nat.sub_self, List.replicate_zero, List.append_nil] at hrow
              have hbr : Below B w1 wr := HPL.out.ch.kp.to_below HBX.out.1 (fun g hg e => prd_low HBX.out.2 hg e)
              have hnode := node_any B p M 66 cs' nv' hs' D' wr HPL.out.ch.bld (Nat.le_trans HBX.out.1 HPL.out.ch.kp.below.size) (HTB.out.on hbr) (some ⟨gN, 0, none⟩) q nx lv (by rw [HNL.out]; exact hrow)
                (prd_range HCI2.out.le HKP.out.2.2.2.2 HKP.out.2.2.1 HQ1.out) (prd_lv HLV.out HLQ.out) (prd_len HNL.out HQ1.out) (prd_hs HPL.out.ch.eq HCI2.out.le) (by decide) (by decide)
              rw [HNL.out, HPL.out.ch.eq] at hnode
              have HNODE := Lib.hid hnode
              have HQN : Hid (kidsF (prodC T q L) T ids q s = some (nx, s')) := HKF
              have HRS : Hid (res = if (addN s'.1 (lv, nx)).2.length ≤ 4096 then some (((addN s'.1 (lv, nx)).1 : Int), ((addN s'.1 (lv, nx)).2, s'.2 ++ [((lv, ids), (addN s'.1 (lv, nx)).1)])) else none) := Lib.hid (by rw [HRES.out, HPO.out, HQN.out])
              obtain ⟨ad, had⟩ : ∃ ad, ad = addN s'.1 (lv, nx) := ⟨_, rfl⟩
              rw [← had] at HNODE HRS
              have HAD := Lib.hid had
              have HLK2 : Hid (look s'.2 (lv, ids) = none) := Lib.hid (prd_look HPO.out HKP.out.2.2.2.1 HLV.out)
              have HMX : Hid (s'.2.length + 1 ≤ maxLen) := Lib.hid (prd_max (HCI2.out.memo_le HT.out HBB.out.1) HBB.out.2)
              clear had hrow hbr hnode hjq hj htp htp2 htp3 hil9 hL hBw hq0 hq1 hwj
              go_wp2_with (go_at_call 61; refine HNODE.out.mono ?_; rintro e w6 ⟨nv6, hs6, D6, cs6, rfl, hb6, he6, hk6, hm6, hc6, hn6⟩; refine Hid.out ?_)
              refine Lib.hid ?_
              obtain ⟨hch6, hkk6⟩ := HPL.out.ch.node hb6 he6 hk6 hm6 hc6
              have hg1 : ∀ g, (Value.slice A7 KL c7).ownBlock = some g → w1.heap.size ≤ g := fun g e => Nat.le_trans HC.out.kp.below.size (own_lt' HOq.out e).2
              have hob : wr.ownsRow w.heap.size _ 1 (.slice A7 KL c7) _ _ := Kept.chs_row (B0 := w.heap.size) (c := 0) (g0 := 0) HPL.out.kp HCq.out HOq.out (by decide) hg1
              have hoc : w6.ownsRow w.heap.size _ 1 (.slice A7 KL c7) _ _ := Kept.chs_row (B0 := w.heap.size) (c := 0) (g0 := 0) hkk6 HPL.out.ch hob (by decide) hg1
              have HOB6 : Hid (OwnB w6 w.heap.size (.slice A7 KL c7) (keyB (lv, ids))) := Lib.hid hoc
              have HAL : Hid (ad.2.length ≤ s'.1.length + 1 ∧ ad.1 < ad.2.length) := Lib.hid (by rw [HAD.out]; exact addN_lt _ _)
              obtain ⟨w7, hrun, hM7, hg7⟩ := World.ownsMap.update (w := w6.drew) hch6.map2.drew Tryd.law Tryd.underlying62 (prd_max2 HMX.out) HKY2.out (plainElem_int (q := .i64) (a := (ad.1 : Int)) Tryd.underlying3 (WalkArith.wf_i64 (prd_wf HAL.out HCI2.out.le)))
              obtain ⟨hch7, hkk7⟩ := hch6.put (x := (lv, ids)) (k := ad.1) HLK2.out hM7 hg7
              have HCH7 := Lib.hid hch7
              have HKK7 : Hid (Kept (ChsS p M M2 nv) w w7) := Lib.hid ((Kept.of_new _ HBq.out).trans (HPL.out.kp.chsT HPL.out.mv (hkk6.chsT hm6 hkk7)))
              have HMV7 : Hid (Moved nv nv6 w) := Lib.hid ((HPL.out.mv.trans hm6 HPL.out.kp.below.size).down HBq.out.size)
              have HNW7 : Hid (NewIn hs hs6 w) := Lib.hid (prd_new HPL.out.new HPL.out.gn hn6 HBq.out.size)
              obtain ⟨nA6, nc6, hnv6, -, -⟩ := hb6.own.nds
              have hc60 := hb6.blk.cell_ 3 _ hch6.c3
              have hc70 := hch7.bld.blk.cell_ 0 _ hch7.bld.c0
              rw [hnv6] at hc70
              have hl6 : hs6.length = ad.2.length := by rw [← he6, List.length_map]
              rw [hl6] at hc70
              have hcv1 : (convert 91 9 (.slice A7 KL c7)).run Tryd.prog w6.drew = .ok (.string KS) w6.drew := by
                have := back_any (w := w6.drew) (base := w.heap.size) (A := A7) (c := c7) (l := keyB (lv, ids)) (by rw [← HKLE.out]; exact HOB6.out)
                rw [← HKLE.out, ← HKSe.out] at this
                exact this
              clear hb6 he6 hk6 hm6 hc6 hn6 hch6 hkk6 hg1 hob hoc hM7 hg7 hch7 hkk7 hl6 hnv6 HNODE
              by_cases hle : ad.2.length ≤ 4096
              · have d1 : decide ((ad.2.length : Int) ≤ 4096) = true := decide_eq_true (Int.ofNat_le.2 hle)
                have HRS2 : Hid (res = some ((ad.1 : Int), (ad.2, s'.2 ++ [((lv, ids), ad.1)]))) := Lib.hid (by rw [HRS.out, if_pos hle])
                clear hle
                go_wp2
                go_region
                go_wp2
                go_quiet (fail)
                go_wp2
                go_ret2
                refine ⟨HKK7.out.drewN _, ?_⟩
                rw [HRS2.out]
                exact ⟨cs6, nv6, hs6, D6, _, by rfl, HCH7.out.ext (below_drewN (Below.refl _ _) _), HMV7.out, HNW7.out⟩
              · have d1 : decide ((ad.2.length : Int) ≤ 4096) = false := decide_eq_false (fun h => hle (Int.ofNat_le.1 h))
                have HRS2 : Hid (res = none) := Lib.hid (by rw [HRS.out, if_neg hle])
                clear hle
                go_wp2
                go_region
                go_wp2
                go_quiet (fail)
                go_wp2
                go_ret2
                refine ⟨HKK7.out.drewN _, ?_⟩
                rw [HRS2.out]
                exact ⟨_, by rfl⟩
end Go.Proofs.YtojnnfihpiegoaaDoor
namespace Go.Proofs.YtojnnfihpiegoaaDoor
set_option linter.unusedSimpArgs false
open Go.RowKit Go.Maps
set_option maxRecDepth 100000
set_option linter.unusedVariables false

theorem Tryd.infoTree : (Tryd.prog.info? 25).map (fun i => (i.zero, i.size, i.bytes)) = some (some (.agg #[.int .i64 0, .slice none 0 0, .slice none 0 0]), 3, 56) := by kernel_rfl
/-- the tree's root -/
def rootOf (t : PT) : Int := (t.ns.length : Int) - 1
def badT (t : PT) : Bool := !t.right
def difT (b t : PT) : Bool := !(decide (t.st = b.st) && decide (t.ps = b.ps))
def chooseT (b : PT) (l : List PT) : PT × Int :=
  if (b :: l).any badT then (PT.zero, 11) else
  if (l.length : Int) ≠ b.st then (PT.zero, 2) else
  if l.any (difT b) then (PT.zero, 2) else
  match prodC ((b :: l).map fun t => (redT t).ns) b.st.toNat b.ps.length ((b :: l).map fun t => rootOf (redT t)) ([], []) with
    | none => (PT.zero, 6)
    | some (k, s) => if 4096 < (ord s.1 100 k.toNat).length then (PT.zero, 6) else (⟨b.st, b.ps, ord s.1 100 k.toNat⟩, 0)
/-- v holds the trees ts, in memory from base on; so does what they hold -/
def OwnTr (w : World) (base : Nat) (v : Value) (ts : List TrH) : Prop :=
  w.ownsRow base 25 3 v ts.length (ts.flatMap TrH.cells) ∧ ∀ t ∈ ts, OwnP 49 w base (.slice t.hA t.ps.length t.hc) t.ps ∧ OwnNA w base (.slice t.nA t.hs.length t.nc) t.hs
section
variable {w w' : World} {base : Nat} {v : Value} {ts : List TrH}
theorem OwnTr.nil (w : World) (base : Nat) : OwnTr w base (.slice none 0 0) [] := ⟨World.ownsRow_nil _ _ _ _, fun _ h => absurd h (by simp)⟩
theorem OwnTr.trs (h : OwnTr w base v ts) : ∃ A c, v = .slice A ts.length c ∧ Trs w A ts ∧ NewA base A := by
  obtain ⟨A, c, e, h1, h2⟩ := own_form h.1
  refine ⟨A, c, e, ⟨h1.1, h1.2, fun x hx => ?_⟩, h2⟩
  obtain ⟨a, b⟩ := h.2 x hx
  obtain ⟨A1, c1, e1, p1, -⟩ := a.pts
  injection e1 with e1 e2 e3
  subst e1
  obtain ⟨A2, c2, e2, p2, -⟩ := b.nds
  injection e2 with e2 e3 e4
  subst e2
  exact ⟨p1, p2⟩
theorem OwnTr.ext (h : OwnTr w base v ts) (hb : Below w.heap.size w w') : OwnTr w' base v ts := ⟨own_below h.1 hb, fun x hx => ⟨(h.2 x hx).1.ext hb, (h.2 x hx).2.ext hb⟩⟩
/-- a store into a block of another kind leaves them -/
theorem OwnTr.kept (h : OwnTr w base v ts) {S : Nat → Prop} (hk : Kept S w w') (h1 : ∀ {b n m : Nat} {e : TypeId} {u : Value} {xs : List Value}, w.ownsRow b e m u n xs → (e = 25 ∨ e = 49 ∨ e = 53 ∨ e = 3) → ∀ g, u.ownBlock = some g → ¬ S g) : OwnTr w' base v ts :=
  ⟨hk.own h.1 (h1 h.1 (.inl rfl)), fun x hx => ⟨hk.own (h.2 x hx).1 (h1 (h.2 x hx).1 (.inr (.inl rfl))), (h.2 x hx).2.kept hk (h1 (h.2 x hx).2.1 (.inr (.inr (.inl rfl)))) (fun y hy => h1 ((h.2 x hx).2.2 y hy) (.inr (.inr (.inr rfl))))⟩⟩
/-- from a chooser's block and maps the trees lie apart -/
theorem OwnTr.chs (h : OwnTr w base v ts) {p M M2 : Nat} {cs : Array Value} {n n2 : Nat} {D D2 : DataW Unit} (hp : Blk w p 66 cs) (hM : MapA w M n D) (hM2 : MapA w M2 n2 D2) (hk : Kept (fun g => g = p ∨ g = M ∨ g = M2) w w') : OwnTr w' base v ts :=
  h.kept hk fun ho he g e1 e2 => by
    rcases e2 with e2 | e2 | e2
    · subst e2
      refine own_blk_ne' ho hp ?_ e1
      rcases he with he | he | he | he <;> rw [he] <;> decide
    · subst e2; exact own_map_ne ho hM e1
    · subst e2; exact own_map_ne ho hM2 e1
end
theorem tr_own {w : World} {base : Nat} {st : Int} {hA : Option Addr} {ps : List (Int × Int)} {hc : Nat} {nA : Option Addr} {hs : List Hd} {nc : Nat} : (TrH.mk st hA ps hc nA hs nc).cells = [.int .i64 st, .slice hA ps.length hc, .slice nA hs.length nc] := rfl
/-- a row of trees grows by one -/
theorem wpList_pushT {wr : World} {ops : Array Oper} {rest : List Oper} {o : Oper} {a : Act} {Q : Exit → Act → World → Prop} (hgd : o.guard = none) (s x : Operand) (t : TypeId)
    (ho : o.op = .call { callee := .builtin .append, args := #[s, x], argTypes := #[t, t] })
    (base : Nat) (ht : Tryd.prog.underlying t = some (.slice 25))
    (v : Value) (ts : List TrH) (hse : a.eval s = v) (hown : OwnTr wr base v ts)
    (st : Int) (hA : Option Addr) (ps : List (Int × Int)) (hn hc : Nat) (nA : Option Addr) (hs : List Hd) (nn nc : Nat) (hhn : Hid (hn = ps.length)) (hnn : Hid (nn = hs.length)) (hP : OwnP 49 wr base (.slice hA hn hc) ps) (hN : OwnNA wr base (.slice nA nn nc) hs) (hx : a.eval x = .slice (some ⟨wr.heap.size, 0, none⟩) 1 1)
    (hl : ts.length < 1000000000000) (hbase : base ≤ wr.heap.size)
    (h : ∀ v' w', OwnTr w' base v' (ts ++ [⟨st, hA, ps, hc, nA, hs, nc⟩]) → Kept (fun g => v.ownBlock = some g) wr w' → (v'.ownBlock = v.ownBlock ∨ ∃ g, v'.ownBlock = some g ∧ wr.heap.size ≤ g) → wpList Tryd.prog ops Q rest (a.put o.dst v') w') :
    wpList Tryd.prog ops Q (o :: rest) a (wr.alloc (.cells #[.int .i64 st, .slice hA hn hc, .slice nA nn nc] 25)) := by
  have e1 := hhn.out
  have e2 := hnn.out
  subst e1 e2
  obtain ⟨i0, hi0, hz0, hz1, hz2⟩ := info_parts Tryd.infoTree
  refine wpList_append_own_at _ hgd s x t ho base 25 i0 _ 3 56 ht hi0 hz0 hz1 hz2 rfl (by decide) v ts.length _ hse (hown.1.alloc _) ⟨wr.heap.size, 0, none⟩ 1 1 [.int .i64 st, .slice hA ps.length hc, .slice nA hs.length nc] hx (by simp) ?_ (by simp [Value.oneCell']) (by unfold maxLen; omega) (by omega) (by simp; omega) ?_
  · intro j u hu
    rw [addr_add]
    have : (wr.alloc (.cells #[.int .i64 st, .slice hA ps.length hc, .slice nA hs.length nc] 25)).cell? ⟨wr.heap.size, 0 + j, none⟩ = #[Value.int .i64 st, .slice hA ps.length hc, .slice nA hs.length nc][0 + j]? := cell_of_row _ _ _ _ _ _ (heap_alloc_new wr _)
    rw [this]
    simpa using hu
  · intro v' w' hown' hg _ hat
    have hk : Kept (fun g => v.ownBlock = some g) wr w' := ((Kept.refl _ wr).alloc _).grown hg fun g hg => Or.inl hg
    have hne : ∀ {b n m : Nat} {e : TypeId} {u : Value} {xs : List Value}, wr.ownsRow b e m u n xs → e ≠ 25 → ∀ g, u.ownBlock = some g → ¬ v.ownBlock = some g := fun ho he g hg hv => own_ne ho hown.1 he hg hv
    refine h v' w' ⟨?_, fun y hy => ?_⟩ hk ?_
    · rw [List.length_append, List.flatMap_append]
      exact hown'
    · have hy1 : OwnP 49 wr base (.slice y.hA y.ps.length y.hc) y.ps ∧ OwnNA wr base (.slice y.nA y.hs.length y.nc) y.hs := by
        rcases List.mem_append.1 hy with hy | hy
        · exact hown.2 y hy
        · rw [List.mem_singleton] at hy
          subst hy
          exact ⟨hP, hN⟩
      exact ⟨hk.own hy1.1 (hne hy1.1 (by decide)), hy1.2.kept hk (hne hy1.2.1 (by decide)) (fun z hz => hne (hy1.2.2 z hz) (by decide))⟩
    · rcases hat with hat | hat
      · exact .inl hat
      · exact .inr ⟨_, hat, by simp⟩
/-- the loop that reduces the trees: rs are the roots -/
structure Ch3 (wq : World) (p M M2 : Nat) (rv tv : Value) (done : List TrH) (rs : List Int) (w : World) : Prop where
  tr : OwnTr w wq.heap.size tv done
  blk : Blk w p 66 #[.slice none 0 0, .map (some M), tv, .map (some M2)]
  m1 : MapA w M 0 (.map [])
  m2 : MapA w M2 0 (.map [])
  rr : OwnIA w wq.heap.size rv rs
  ap : ∀ t ∈ done, ∀ x ∈ t.hs, ∀ g, x.val.ownBlock = some g → rv.ownBlock ≠ some g
  below : Below wq.heap.size wq w
  lo : wq.heap.size ≤ p ∧ wq.heap.size ≤ M ∧ wq.heap.size ≤ M2
  ne : M ≠ M2
section
variable {wq : World} {p M M2 : Nat} {rv rv' tv tv' : Value} {done : List TrH} {rs : List Int} {w w' : World}
theorem Ch3.ext (h : Ch3 wq p M M2 rv tv done rs w) (hb : Below w.heap.size w w') : Ch3 wq p M M2 rv tv done rs w' :=
  ⟨h.tr.ext hb, h.blk.below hb h.blk.lt, (Kept.of_new (fun _ => False) hb).map h.m1 (fun h => h), (Kept.of_new (fun _ => False) hb).map h.m2 (fun h => h), h.rr.ext hb, h.ap, h.below.trans (hb.mono h.below.size), h.lo, h.ne⟩
theorem Ch3.pushT (h : Ch3 wq p M M2 rv tv done rs w) {n : TrH} (ho : OwnTr w' wq.heap.size tv' (done ++ [n])) (hk : Kept (fun g => tv.ownBlock = some g) w w') (hn : ∀ x ∈ n.hs, ∀ g, x.val.ownBlock = some g → rv.ownBlock ≠ some g) :
    Ch3 wq p M M2 rv tv' (done ++ [n]) rs (w'.setCell ⟨p, 2, none⟩ tv') := by
  have b1 := hk.blk h.blk (own_blk_ne' h.tr.1 h.blk (by decide))
  have k7 : Kept (fun g => g = p) w' (w'.setCell ⟨p, 2, none⟩ tv') := (Kept.refl (fun g => g = p) w').setCell (p := ⟨p, 2, none⟩) (Or.inl rfl) tv'
  have m1' := hk.map h.m1 (fun e => own_map_ne h.tr.1 h.m1 e)
  have m2' := hk.map h.m2 (fun e => own_map_ne h.tr.1 h.m2 e)
  have rr' := hk.own h.rr (fun g e1 e2 => own_ne h.rr h.tr.1 (by decide) e1 e2)
  have hb6 : Below wq.heap.size wq w' := h.below.trans (hk.to_below h.below.size (fun g hg e => by have := (own_lt' h.tr.1 e).2; omega))
  refine ⟨ho.kept k7 fun hr he g e1 e2 => ?_, b1.set_ 2 tv', k7.map m1' (fun e => blk_map_ne b1 m1' e.symm), k7.map m2' (fun e => blk_map_ne b1 m2' e.symm), k7.own rr' (fun g e1 e2 => by subst e2; exact own_blk_ne' rr' b1 (by decide) e1), fun t ht => ?_, hb6.trans (k7.to_below hb6.size (fun g hg e => by have := h.lo.1; omega)), h.lo, h.ne⟩
  · subst e2
    refine own_blk_ne' hr b1 ?_ e1
    rcases he with he | he | he | he <;> rw [he] <;> decide
  · rcases List.mem_append.1 ht with ht | ht
    · exact h.ap t ht
    · rw [List.mem_singleton] at ht
      subst ht
      exact hn
theorem Ch3.pushR (h : Ch3 wq p M M2 rv tv done rs w) {z : Int} (ho : OwnIA w' wq.heap.size rv' (rs ++ [z])) (hk : Kept (fun g => rv.ownBlock = some g) w w') (hm : Moved rv rv' w) : Ch3 wq p M M2 rv' tv done (rs ++ [z]) w' := by
  refine ⟨⟨hk.own h.tr.1 (fun g e1 e2 => own_ne h.rr h.tr.1 (by decide) e2 e1), fun x hx => ⟨hk.own (h.tr.2 x hx).1 (fun g e1 e2 => own_ne h.rr (h.tr.2 x hx).1 (by decide) e2 e1), (h.tr.2 x hx).2.kept hk (fun g e1 e2 => own_ne h.rr (h.tr.2 x hx).2.1 (by decide) e2 e1) (fun y hy g e1 e2 => h.ap x hx y hy g e1 e2)⟩⟩,
    hk.blk h.blk (own_blk_ne' h.rr h.blk (by decide)), hk.map h.m1 (fun e => own_map_ne h.rr h.m1 e), hk.map h.m2 (fun e => own_map_ne h.rr h.m2 e), ho, fun t ht x hx g e1 e2 => ?_, h.below.trans (hk.to_below h.below.size (fun g hg e => by have := (own_lt' h.rr e).2; omega)), h.lo, h.ne⟩
  rcases hm with hm | ⟨g', hm, hg⟩
  · rw [hm] at e2
    exact h.ap t ht x hx g e1 e2
  · rw [hm] at e2
    injection e2 with e2
    have := (own_lt' ((h.tr.2 t ht).2.2 x hx) e1).1
    omega
end
/-- what the product is asked for -/
theorem chs_trees {all : List PT} {b : PT} {l : List PT} (ha : all = b :: l) (hr : all.any badT = false) (hl : (l.length : Int) = b.st) (hd : l.any (difT b) = false) :
    TV b.st.toNat (all.map fun t => (redT t).ns) ∧ okC (all.map fun t => (redT t).ns) b.st.toNat b.ps.length (all.map fun t => rootOf (redT t)) ∧ (∀ t ∈ all, (redT t).st = b.st ∧ (redT t).ps = b.ps ∧ t.right = true) ∧ 2 ≤ b.st ∧ b.st ≤ 8 ∧ 1 ≤ b.ps.length ∧ b.ps.length ≤ 25 := by
  have hright : ∀ t ∈ all, t.right = true := fun t ht => by
    rw [List.any_eq_false] at hr
    have := hr t ht
    unfold badT at this
    simpa using this
  have hsame : ∀ t ∈ all, t.st = b.st ∧ t.ps = b.ps := fun t ht => by
    rw [ha] at ht
    rcases List.mem_cons.1 ht with ht | ht
    · rw [ht]; exact ⟨rfl, rfl⟩
    · rw [List.any_eq_false] at hd
      have := hd t ht
      unfold difT at this
      simpa using this
  have hb : b.right = true := hright b (by rw [ha]; simp)
  obtain ⟨a1, a2, a3, a4, a5, a6, a7, a8, a9⟩ := rightN_parts hb
  have hps : 1 ≤ b.ps.length := by
    unfold hoodB at a3
    simp only [Bool.and_eq_true, decide_eq_true_eq] at a3
    exact a3.1.1
  have hlen : all.length = b.st.toNat + 1 := by rw [ha, List.length_cons]; omega
  have hget : ∀ i (hi : i < all.length), (all.map fun t => (redT t).ns).getD i [] = (redT all[i]).ns := fun i hi => by
    rw [List.getD_eq_getElem?_getD, List.getElem?_map, List.getElem?_eq_getElem hi]
    rfl
  refine ⟨⟨by rw [List.length_map]; exact hlen, fun i hi => ?_⟩, ⟨by rw [List.length_map, List.length_map], fun i hi => ?_⟩, fun t ht => ?_, a1, a2, hps, a7⟩
  · rw [List.length_map] at hi
    rw [hget i hi]
    obtain ⟨o1, -⟩ := redT_ok (hright _ (List.getElem_mem hi))
    rw [(hsame _ (List.getElem_mem hi)).1] at o1
    exact o1
  · rw [List.length_map] at hi
    have hm := List.getElem_mem hi
    obtain ⟨o1, o2, o3, o4, -⟩ := redT_ok (hright _ hm)
    obtain ⟨c1, c2, c3, c4, c5, c6, c7, c8, c9⟩ := rightN_parts (hright _ hm)
    have hg2 : (all.map fun t => rootOf (redT t)).getD i 0 = rootOf (redT all[i]) := by
      rw [List.getD_eq_getElem?_getD, List.getElem?_map, List.getElem?_eq_getElem hi]
      rfl
    rw [hg2, hget i hi]
    have hrt : (rootOf (redT all[i])).toNat = (redT all[i]).ns.length - 1 := by unfold rootOf; omega
    refine ⟨by unfold rootOf; omega, fun h => absurd h (by omega), fun _ => ?_⟩
    rw [hrt]
    exact ⟨by omega, by rw [o4.1, c6, (hsame _ hm).2]⟩
  · obtain ⟨-, -, -, -, -, o6, o7⟩ := redT_ok (hright t ht)
    rw [o6, o7]
    exact ⟨(hsame t ht).1, (hsame t ht).2, hright t ht⟩
theorem chs_nds {done : List TrH} {all : List PT} (h : done.map TrH.pt = all.map redT) : done.map TrH.nds = all.map fun t => (redT t).ns := by
  have : done.map TrH.nds = (done.map TrH.pt).map PT.ns := by
    rw [List.map_map]
    rfl
  rw [this, h, List.map_map]
  rfl
end Go.Proofs.YtojnnfihpiegoaaDoor
namespace Go.Proofs.YtojnnfihpiegoaaDoor
open Go.RowKit
set_option maxRecDepth 100000
set_option linter.unusedVariables false
set_option linter.unusedSimpArgs false

def sizedV (st : Int) (A : Option Addr) (np c : Nat) (B : Option Addr) (n d : Nat) : Value :=
  if 4096 < n then .tuple #[.agg #[.int .i64 0, .slice none 0 0, .slice none 0 0], .int .i64 6] else .tuple #[.agg #[.int .i64 st, .slice A np c, .slice B n d], .int .i64 0]
set_option maxHeartbeats 4000000 in
theorem sized_any (st : Int) (A : Option Addr) (np c : Nat) (B : Option Addr) (n d : Nat) (w : World) :
    Calls Tryd.prog 45 #[.agg #[.int .i64 st, .slice A np c, .slice B n d]] w fun e w' => e = .returned (sizedV st A np c B n d) ∧ Below w.heap.size w w' := by
  obtain ⟨w0, hw0⟩ : ∃ w0, w0 = (w.alloc (.cells #[.int .i64 st, .slice A np c, .slice B n d] 25)).alloc (.cells #[.int .i64 0, .slice none 0 0, .slice none 0 0] 25) := ⟨_, rfl⟩
  have hb1 := below_new w (.cells #[.int .i64 st, .slice A np c, .slice B n d] 25)
  have hb0 : Below w.heap.size w w0 := by rw [hw0]; exact hb1.alloc hb1.size _
  have p0 : Blk w0 w.heap.size 25 #[.int .i64 st, .slice A np c, .slice B n d] := by rw [hw0]; exact (Blk.new w _ _).alloc _
  have q0 : Blk w0 (w.heap.size + 1) 25 #[.int .i64 0, .slice none 0 0, .slice none 0 0] := by
    rw [hw0]
    have := Blk.new (w.alloc (.cells #[.int .i64 st, .slice A np c, .slice B n d] 25)) 25 #[.int .i64 0, .slice none 0 0, .slice none 0 0]
    simpa using this
  have c0 := p0.cell_ 0 (.int .i64 st) rfl
  have c1 := p0.cell_ 1 (.slice A np c) rfl
  have c2 := p0.cell_ 2 (.slice B n d) rfl
  have d0 := q0.cell_ 0 (.int .i64 0) rfl
  have d1 := q0.cell_ 1 (.slice none 0 0) rfl
  have d2 := q0.cell_ 2 (.slice none 0 0) rfl
  have f0 := q0.frozen 0
  have f1 := q0.frozen 1
  have f2 := q0.frozen 2
  have HW0 := Lib.hid hw0
  have HQ0 := Lib.hid q0
  have HB0 := Lib.hid hb0
  clear hw0 hb1 hb0 p0 q0
  by_cases hn : 4096 < n
  · have d3 : decide ((4096 : Int) < (n : Int)) = true := decide_eq_true (by omega)
    have d4 : decide (4096 < n) = true := decide_eq_true hn
    have HE : Hid (sizedV st A np c B n d = .tuple #[.agg #[.int .i64 0, .slice none 0 0, .slice none 0 0], .int .i64 6]) := Lib.hid (by unfold sizedV; rw [if_pos hn])
    clear hn
    go_enter Tryd.func45, Tryd.ntmps45
    go_upto_region 1 with fail
    rw [← HW0.out]
    go_wp2
    have hq : Blk (((w0.setCell ⟨w.heap.size + 1, 0, none⟩ (.int .i64 0)).setCell ⟨w.heap.size + 1, 1, none⟩ (.slice none 0 0)).setCell ⟨w.heap.size + 1, 2, none⟩ (.slice none 0 0)) (w.heap.size + 1) 25 #[.int .i64 0, .slice none 0 0, .slice none 0 0] := ((HQ0.out.set_ 0 (.int .i64 0)).set_ 1 (.slice none 0 0)).set_ 2 (.slice none 0 0)
    exact bodyPost_ret (results_ct Tryd.results45 _ _ (w.heap.size + 1) 25 #[.int .i64 0, .slice none 0 0, .slice none 0 0] (0, 0) _ rfl hq Tryd.underlying25 rfl Tryd.sizeTree) rfl
      ⟨by rw [HE.out] <;> rfl, ((HB0.out.setCell (p := ⟨w.heap.size + 1, 0, none⟩) (by simp) _).setCell (p := ⟨w.heap.size + 1, 1, none⟩) (by simp) _).setCell (p := ⟨w.heap.size + 1, 2, none⟩) (by simp) _⟩
  · have d3 : decide ((4096 : Int) < (n : Int)) = false := decide_eq_false (by omega)
    have d4 : decide (4096 < n) = false := decide_eq_false hn
    have HE : Hid (sizedV st A np c B n d = .tuple #[.agg #[.int .i64 st, .slice A np c, .slice B n d], .int .i64 0]) := Lib.hid (by unfold sizedV; rw [if_neg hn])
    clear hn
    go_enter Tryd.func45, Tryd.ntmps45
    go_upto_region 1 with fail
    rw [← HW0.out]
    go_wp2
    have hq : Blk (((w0.setCell ⟨w.heap.size + 1, 0, none⟩ (.int .i64 st)).setCell ⟨w.heap.size + 1, 1, none⟩ (.slice A np c)).setCell ⟨w.heap.size + 1, 2, none⟩ (.slice B n d)) (w.heap.size + 1) 25 #[.int .i64 st, .slice A np c, .slice B n d] := ((HQ0.out.set_ 0 (.int .i64 st)).set_ 1 (.slice A np c)).set_ 2 (.slice B n d)
    exact bodyPost_ret (results_ct Tryd.results45 _ _ (w.heap.size + 1) 25 #[.int .i64 st, .slice A np c, .slice B n d] (0, 0) _ rfl hq Tryd.underlying25 rfl Tryd.sizeTree) rfl
      ⟨by rw [HE.out] <;> rfl, ((HB0.out.setCell (p := ⟨w.heap.size + 1, 0, none⟩) (by simp) _).setCell (p := ⟨w.heap.size + 1, 1, none⟩) (by simp) _).setCell (p := ⟨w.heap.size + 1, 2, none⟩) (by simp) _⟩
end Go.Proofs.YtojnnfihpiegoaaDoor
