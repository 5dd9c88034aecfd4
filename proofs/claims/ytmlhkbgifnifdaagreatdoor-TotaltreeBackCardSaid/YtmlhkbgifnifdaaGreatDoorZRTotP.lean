/-
  The reference's tree of a rule by counts, level by level, in plain lists: it leads to what the counts define. No condition.
-/
import Derived.Test.YtmlhkbgifnifdaaGreatDoorZG23
namespace Go.Proofs.YtmlhkbgifnifdaaGreatDoor
set_option linter.unusedVariables false
set_option linter.unusedSimpArgs false

theorem mul_lt {a A b q : Nat} (ha : a < A) (hb : b < q) : a * q + b < A * q := by
  have h : (a + 1) * q ≤ A * q := Nat.mul_le_mul_right q ha
  rw [Nat.succ_mul] at h
  omega
theorem mul_divq {a b q : Nat} (hb : b < q) : (a * q + b) / q = a := by
  rw [Nat.mul_comm, Nat.mul_add_div (by omega), Nat.div_eq_of_lt hb, Nat.add_zero]
theorem mul_modq {a b q : Nat} (hb : b < q) : (a * q + b) % q = b := by
  rw [Nat.mul_comm, Nat.mul_add_mod, Nat.mod_eq_of_lt hb]
theorem div_split {j q m : Nat} (h : j < m * q) : j / q < m ∧ j % q < q ∧ j / q * q + j % q = j := by
  have hq : 0 < q := by
    rcases Nat.eq_zero_or_pos q with h0 | h0
    · rw [h0, Nat.mul_zero] at h; omega
    · exact h0
  exact ⟨Nat.div_lt_of_lt_mul (by rw [Nat.mul_comm]; exact h), Nat.mod_lt _ hq, by rw [Nat.mul_comm]; exact Nat.div_add_mod j q⟩
theorem getD_range {m j : Nat} (f : Nat → Int) (h : j < m) : ((List.range m).map f).getD j 0 = f j := by
  rw [List.getD_eq_getElem?_getD, List.getElem?_map, List.getElem?_range h]
  rfl
theorem range_push {α : Type} (f : Nat → α) (m : Nat) : (List.range (m + 1)).map f = (List.range m).map f ++ [f m] := by
  rw [List.range_succ, List.map_append]
  rfl
section
variable (n q cc : Nat) (g : Nat → Nat → Int)
/-- what the states from place i on lead to, if c cells in state 1 were met and the centre's state is s -/
def runG : Nat → Nat → Nat → List Nat → Int
  | _, c, s, [] => g c s
  | i, c, s, t :: r => if i = cc then runG (i + 1) c t r else if t = 1 then runG (i + 1) (c + 1) s r else runG (i + 1) c s r
def belN (m : Nat) : List Int := (List.range m).map fun j => g (j / q) (j % q)
def ixB (i c s v : Nat) : Nat := if i = cc then c * q + v else if v = 1 then (c + 1) * q + s else c * q + s
def nodL (bl : List Int) (i c s : Nat) : List Int := (List.range q).map fun v => bl.getD (ixB q cc i c s v) 0
def lvNd (ns : List Nd) (bl : List Int) (k i j : Nat) : List Nd := ns ++ (List.range j).map fun j => (((k + 1 : Nat) : Int), nodL q cc bl i (j / q) (j % q))
def lvKs (ns : List Nd) (j : Nat) : List Int := (List.range j).map fun j => ((ns.length + j : Nat) : Int)
def levT : Nat → List Nd × List Int
  | 0 => ([], belN q g ((n + 1) * q))
  | k + 1 => (lvNd q cc (levT k).1 (levT k).2 k (n - 1 - k) ((n - k) * q), lvKs (levT k).1 ((n - k) * q))
def rootT : List Nd := (levT n q cc g (n - 1)).1 ++ [((n : Int), nodL q cc (levT n q cc g (n - 1)).2 0 0 0)]
end
section
variable {n q cc : Nat} {g : Nat → Nat → Int}
theorem belN_push {c s : Nat} (hs : s < q) : belN q g (c * q + s + 1) = belN q g (c * q + s) ++ [g c s] := by
  unfold belN
  rw [range_push, mul_divq hs, mul_modq hs]
theorem belN_len (m : Nat) : (belN q g m).length = m := by simp [belN]
theorem nodL_len (bl : List Int) (i c s : Nat) : (nodL q cc bl i c s).length = q := by simp [nodL]
theorem nodL_take {bl : List Int} {i c s v : Nat} (h : v < q) : (nodL q cc bl i c s).take (v + 1) = (nodL q cc bl i c s).take v ++ [bl.getD (ixB q cc i c s v) 0] := by
  have hl : (nodL q cc bl i c s).length = q := nodL_len _ _ _ _
  rw [List.take_succ_eq_append_getElem (by rw [hl]; exact h)]
  congr 2
  unfold nodL
  simp
theorem lvNd_push {ns : List Nd} {bl : List Int} {k i c s : Nat} (hs : s < q) : lvNd q cc ns bl k i (c * q + s + 1) = lvNd q cc ns bl k i (c * q + s) ++ [(((k + 1 : Nat) : Int), nodL q cc bl i c s)] := by
  unfold lvNd
  rw [range_push, mul_divq hs, mul_modq hs, List.append_assoc]
theorem lvNd_len (ns : List Nd) (bl : List Int) (k i j : Nat) : (lvNd q cc ns bl k i j).length = ns.length + j := by simp [lvNd]
theorem lvKs_push (ns : List Nd) (j : Nat) : lvKs ns (j + 1) = lvKs ns j ++ [((ns.length + j : Nat) : Int)] := range_push _ _
theorem lvKs_len (ns : List Nd) (j : Nat) : (lvKs ns j).length = j := by simp [lvKs]
theorem levT_len (k : Nat) (hk : k ≤ n) : (levT n q cc g k).2.length = (n - k + 1) * q := by
  cases k with
  | zero => exact belN_len _
  | succ k =>
    show (lvKs _ _).length = _
    rw [lvKs_len, show n - (k + 1) + 1 = n - k by omega]
theorem levT_size (hn : n ≤ 9) (hq : q ≤ 8) : ∀ k, k ≤ n → (levT n q cc g k).1.length ≤ k * 72
  | 0, _ => by show ([] : List Nd).length ≤ _; simp
  | k + 1, hk => by
    have h := levT_size hn hq k (by omega)
    show (lvNd _ _ _ _ _ _ _).length ≤ _
    rw [lvNd_len, Nat.succ_mul]
    have : (n - k) * q ≤ 9 * 8 := Nat.mul_le_mul (by omega) hq
    omega
theorem ixB_lt {i c s v : Nat} (hc : c ≤ i) (hs : s < q) (hv : v < q) : ixB q cc i c s v < (i + 2) * q := by
  unfold ixB
  split
  · exact mul_lt (by omega) hv
  · split
    · exact mul_lt (by omega) hs
    · exact mul_lt (by omega) hs
/-- a level's nodes, so far as they are made -/
structure LvOk (n q cc : Nat) (g : Nat → Nat → Int) (k i : Nat) (ns : List Nd) (j : Nat) (p : List Nd) : Prop where
  v : VNd q p
  lv : LvB (n : Int) p
  kid : ∀ c s, s < q → c * q + s < j → Ld q (k + 1) p ((lvKs ns j).getD (c * q + s) 0) (runG cc g i c s)
theorem kid_step {ns : List Nd} {bl : List Int} {k i c s : Nat} (hv : VNd q ns) (hl : LvB (n : Int) ns) (hkn : k < n) (hc : c ≤ i) (hs : s < q) (hbl : bl.length = (i + 2) * q)
    (hz : k = 0 → (∀ c s, c ≤ i + 1 → s < q → bl.getD (c * q + s) 0 = g c s ∧ 0 ≤ g c s ∧ g c s < (q : Int)))
    (hk : 1 ≤ k → ∀ c s, c ≤ i + 1 → s < q → Ld q k ns (bl.getD (c * q + s) 0) (runG cc g (i + 1) c s)) {ms : List Nd} (hm : VNd q ms) (hg : ∃ ys, ms = ns ++ ys) :
    VNd q (ms ++ [(((k + 1 : Nat) : Int), nodL q cc bl i c s)]) ∧ Ld q (k + 1) (ms ++ [(((k + 1 : Nat) : Int), nodL q cc bl i c s)]) (ms.length : Int) (runG cc g i c s) := by
  obtain ⟨ys, rfl⟩ := hg
  have hget : ∀ v, v < q → (nodL q cc bl i c s).getD v 0 = bl.getD (ixB q cc i c s v) 0 := fun v h => getD_range _ h
  cases k with
  | zero =>
    have hz := hz rfl
    have hval : ∀ v, v < q → bl.getD (ixB q cc i c s v) 0 = runG cc g i c s [v] ∧ 0 ≤ bl.getD (ixB q cc i c s v) 0 ∧ bl.getD (ixB q cc i c s v) 0 < (q : Int) := by
      intro v h
      unfold ixB runG runG
      by_cases h1 : i = cc
      · rw [if_pos h1, if_pos h1]
        obtain ⟨e, e1, e2⟩ := hz c v (by omega) h
        rw [e]; exact ⟨rfl, e1, e2⟩
      · rw [if_neg h1, if_neg h1]
        by_cases h2 : v = 1
        · rw [if_pos h2, if_pos h2]
          obtain ⟨e, e1, e2⟩ := hz (c + 1) s (by omega) hs
          rw [e]; exact ⟨rfl, e1, e2⟩
        · rw [if_neg h2, if_neg h2]
          obtain ⟨e, e1, e2⟩ := hz c s (by omega) hs
          rw [e]; exact ⟨rfl, e1, e2⟩
    obtain ⟨l1, l2⟩ := Ld.leaf hm (nodL_len (q := q) (cc := cc) bl i c s) (fun z hzm => by
      obtain ⟨t, ht, e⟩ := List.getElem_of_mem hzm
      rw [nodL_len] at ht
      have h := hget t ht
      rw [List.getD_eq_getElem?_getD, List.getElem?_eq_getElem (by rw [nodL_len]; exact ht), Option.getD_some, e] at h
      rw [h]
      exact (hval t ht).2)
    refine ⟨l1, l2.h0, l2.lt, l2.lv, fun ins h1 h2 => ?_⟩
    have h3 := l2.vl ins h1 h2
    refine Eq.trans h3 ?_
    match ins, h1 with
    | [t], _ =>
      have ht := h2 t (by simp)
      show (nodL q cc bl i c s).getD t 0 = _
      rw [hget t ht]
      exact (hval t ht).1
  | succ k =>
    have hk := hk (by omega)
    have hkid : ∀ t, t < q → Ld q (k + 1) (ns ++ ys) ((nodL q cc bl i c s).getD t 0) (fun r => runG cc g i c s (t :: r)) := by
      intro t ht
      rw [hget t ht]
      have h : Ld q (k + 1) ns (bl.getD (ixB q cc i c s t) 0) (fun r => runG cc g i c s (t :: r)) := by
        have e : (fun r => runG cc g i c s (t :: r)) = fun r => if i = cc then runG cc g (i + 1) c t r else if t = 1 then runG cc g (i + 1) (c + 1) s r else runG cc g (i + 1) c s r := by
          funext r
          rw [runG]
        rw [e]
        unfold ixB
        by_cases h1 : i = cc
        · rw [if_pos h1]
          simp only [h1, if_true]
          subst h1
          exact hk c t (by omega) ht
        · rw [if_neg h1]
          simp only [h1, if_false]
          by_cases h2 : t = 1
          · rw [if_pos h2]
            simp only [h2, if_true]
            exact hk (c + 1) s (by omega) hs
          · rw [if_neg h2]
            simp only [h2, if_false]
            exact hk c s (by omega) hs
      exact h.grow hv ys
    obtain ⟨l1, l2⟩ := Ld.node (L := k + 1) hm (nodL_len (q := q) (cc := cc) bl i c s) (gs := fun t r => runG cc g i c s (t :: r)) (by omega) hkid
    refine ⟨l1, l2.h0, l2.lt, l2.lv, fun ins h1 h2 => ?_⟩
    refine Eq.trans (l2.vl ins h1 h2) ?_
    match ins, h1 with
    | t :: r, _ => rfl
/-- the levels: k of them are made -/
structure LevOk (n q cc : Nat) (g : Nat → Nat → Int) (k : Nat) (p : List Nd × List Int) : Prop where
  v : VNd q p.1
  lv : LvB (n : Int) p.1
  zero : k = 0 → ∀ c s, c ≤ n → s < q → p.2.getD (c * q + s) 0 = g c s ∧ 0 ≤ g c s ∧ g c s < (q : Int)
  kid : 1 ≤ k → ∀ c s, c ≤ n - k → s < q → Ld q k p.1 (p.2.getD (c * q + s) 0) (runG cc g (n - k) c s)
theorem lv_ok {k : Nat} (hk : k < n) {p : List Nd × List Int} (h : LevOk n q cc g k p) (hp : p.2.length = (n - k + 1) * q) : ∀ j, j ≤ (n - k) * q → LvOk n q cc g k (n - 1 - k) p.1 j (lvNd q cc p.1 p.2 k (n - 1 - k) j)
  | 0, _ => ⟨by simpa [lvNd] using h.v, by simpa [lvNd] using h.lv, fun c s hs hj => absurd hj (by omega)⟩
  | j + 1, hj => by
    have ih := lv_ok hk h hp j (by omega)
    obtain ⟨s1, s2, s3⟩ := div_split (j := j) (q := q) (m := n - k) (by omega)
    obtain ⟨l1, l2⟩ := kid_step (n := n) (q := q) (cc := cc) (g := g) (k := k) (i := n - 1 - k) (c := j / q) (s := j % q) (ns := p.1) (bl := p.2) h.v h.lv hk (by omega) s2 (by rw [hp, show n - 1 - k + 2 = n - k + 1 by omega])
      (fun e c s hc hs => h.zero e c s (by omega) hs) (fun e c s hc hs => by rw [show n - 1 - k + 1 = n - k by omega]; exact h.kid e c s (by omega) hs) ih.v ⟨_, rfl⟩
    have epush : lvNd q cc p.1 p.2 k (n - 1 - k) (j + 1) = lvNd q cc p.1 p.2 k (n - 1 - k) j ++ [(((k + 1 : Nat) : Int), nodL q cc p.2 (n - 1 - k) (j / q) (j % q))] := by
      have := lvNd_push (q := q) (cc := cc) (ns := p.1) (bl := p.2) (k := k) (i := n - 1 - k) (c := j / q) (s := j % q) s2
      rwa [s3] at this
    rw [epush]
    refine ⟨l1, ih.lv.push (by omega), fun c s hs hlt => ?_⟩
    rcases Nat.lt_or_ge (c * q + s) j with h1 | h1
    · have h2 := (ih.kid c s hs h1).grow ih.v [(((k + 1 : Nat) : Int), nodL q cc p.2 (n - 1 - k) (j / q) (j % q))]
      have e1 : (lvKs p.1 (j + 1)).getD (c * q + s) 0 = (lvKs p.1 j).getD (c * q + s) 0 := by
        unfold lvKs
        rw [getD_range _ hlt, getD_range _ h1]
      rw [e1]
      exact h2
    · have e2 : c * q + s = j := by omega
      have e3 : (lvKs p.1 (j + 1)).getD (c * q + s) 0 = (((lvNd q cc p.1 p.2 k (n - 1 - k) j).length : Nat) : Int) := by
        unfold lvKs
        rw [getD_range _ hlt, lvNd_len, e2]
      have e4 : j / q = c := by rw [← e2]; exact mul_divq hs
      have e5 : j % q = s := by rw [← e2]; exact mul_modq hs
      rw [e3]
      rw [e4, e5] at l2 ⊢
      exact l2
theorem lev_ok (hg : ∀ c s, c ≤ n → s < q → 0 ≤ g c s ∧ g c s < (q : Int)) : ∀ k, k ≤ n → LevOk n q cc g k (levT n q cc g k)
  | 0, _ => ⟨vnd_nil, LvB.nil _, fun _ c s hc hs => ⟨by
      show (belN q g ((n + 1) * q)).getD _ 0 = _
      unfold belN
      rw [getD_range _ (mul_lt (by omega) hs), mul_divq hs, mul_modq hs], hg c s hc hs⟩, fun h => absurd h (by omega)⟩
  | k + 1, hk => by
    have h := lev_ok hg k (by omega)
    have h2 := lv_ok (by omega) h (levT_len k (by omega)) ((n - k) * q) (Nat.le_refl _)
    refine ⟨h2.v, h2.lv, fun e => absurd e (by omega), fun _ c s hc hs => ?_⟩
    have h3 := h2.kid c s hs (mul_lt (by omega) hs)
    rw [show n - (k + 1) = n - 1 - k by omega]
    exact h3
theorem root_okT (hn : 2 ≤ n) (hq : 0 < q) (hg : ∀ c s, c ≤ n → s < q → 0 ≤ g c s ∧ g c s < (q : Int)) : VNd q (rootT n q cc g) ∧ LvB (n : Int) (rootT n q cc g) ∧ Ld q n (rootT n q cc g) (((rootT n q cc g).length - 1 : Nat) : Int) (runG cc g 0 0 0) := by
  have h := lev_ok (cc := cc) hg (n - 1) (by omega)
  obtain ⟨l1, l2⟩ := kid_step (n := n) (q := q) (cc := cc) (g := g) (k := n - 1) (i := 0) (c := 0) (s := 0) (ns := (levT n q cc g (n - 1)).1) (bl := (levT n q cc g (n - 1)).2) h.v h.lv (by omega) (Nat.le_refl _) hq
    (by rw [levT_len _ (by omega), show n - (n - 1) + 1 = 0 + 2 by omega]) (fun e => absurd e (by omega)) (fun e c s hc hs => by have := h.kid e c s (by omega) hs; rwa [show n - (n - 1) = 0 + 1 by omega] at this) h.v ⟨[], by simp⟩
  rw [show n - 1 + 1 = n by omega] at l1 l2
  have e : (rootT n q cc g).length - 1 = (levT n q cc g (n - 1)).1.length := by unfold rootT; rw [List.length_append, List.length_singleton]; omega
  rw [e]
  exact ⟨l1, h.lv.push (Int.le_refl _), l2⟩
end
/-- what the counts say, by numbers -/
def gT (x : TotL) (c s : Nat) : Int := nextT x ((c : Int), (s : Int))
theorem run_G {x : TotL} {cc : Nat} (hc : ctrP x.hood = cc) : ∀ (ins : List Nat) (i c s : Nat), nextT x (runS (sysT x) ((c : Int), (s : Int)) i ins) = runG cc (gT x) i c s ins
  | [], i, c, s => rfl
  | t :: r, i, c, s => by
    show nextT x (runS (sysT x) (stepT (ctrP x.hood) ((c : Int), (s : Int)) i t) (i + 1) r) = _
    rw [runG]
    unfold stepT
    rw [hc]
    by_cases h1 : i = cc
    · rw [if_pos (by omega), if_pos h1]
      exact run_G hc r (i + 1) c t
    · rw [if_neg (by omega), if_neg h1]
      by_cases h2 : t = 1
      · rw [if_pos h2, if_pos h2]
        exact run_G hc r (i + 1) (c + 1) s
      · rw [if_neg h2, if_neg h2]
        exact run_G hc r (i + 1) c s
/-- the reference's tree, reduced -/
theorem rtot_red {x : TotL} (h : rightT x = true) {cc : Nat} (hc : ctrP x.hood = cc) : redT ⟨x.states, x.hood, rootT x.hood.length x.states.toNat cc (gT x)⟩ = (totT x).1 := by
  obtain ⟨k1, k2, k3⟩ := rightT_parts h
  obtain ⟨l1, l9⟩ := known_len k1
  have l2 : 2 ≤ x.hood.length := by
    unfold knownB at k1
    simp only [Bool.or_eq_true, decide_eq_true_eq] at k1
    rcases k1 with (k1 | k1) | k1 <;> rw [k1] <;> decide
  have hg : ∀ c s, c ≤ x.hood.length → s < x.states.toNat → 0 ≤ gT x c s ∧ gT x c s < ((x.states.toNat : Nat) : Int) := fun c s hc hs =>
    rngT_fin x k2 ((c : Int), (s : Int)) ⟨by show (0 : Int) ≤ (c : Int); omega, by show (c : Int) ≤ ((sysT x).L : Int); show (c : Int) ≤ (x.hood.length : Int); omega, Nat.le_refl _, by show (0 : Int) ≤ (s : Int); omega, by show (s : Int) < x.states; omega⟩
  obtain ⟨t1, t2, t3⟩ := tot_parts h
  obtain ⟨r1, r2, r3⟩ := root_okT (cc := cc) l2 (by omega) hg
  have hsz := levT_size (n := x.hood.length) (q := x.states.toNat) (cc := cc) (g := gT x) l9 (by omega) (x.hood.length - 1) (by omega)
  have hlen : (rootT x.hood.length x.states.toNat cc (gT x)).length = (levT x.hood.length x.states.toNat cc (gT x) (x.hood.length - 1)).1.length + 1 := by unfold rootT; rw [List.length_append, List.length_singleton]
  have h0 : rngT x 0 (0, 0) := ⟨by decide, by decide, by omega, by decide, by show (0 : Int) < _; omega⟩
  obtain ⟨b1, b2⟩ := bld_can (Y := sysT x) (R := rngT x) (rngT_step x k2) (rngT_fin x k2) (show 1 ≤ x.hood.length from l1) (show x.hood.length ≤ 100 by omega) h0
  have hright : rightN x.states x.hood (rootT x.hood.length x.states.toNat cc (gT x)) = true :=
    rightN_of k2 k3 (known_hood k1) (by omega) (by omega) (by have := r3.lv; rwa [Int.toNat_natCast] at this) r1 r2
  rw [totT_eq h]
  refine red_uniq hright rfl rfl t1 (fun ins hl hs => ?_)
  rw [r3.vl ins hl hs]
  refine Eq.trans ?_ (b2 ins hl hs).symm
  exact (run_G hc ins 0 0 0).symm
end Go.Proofs.YtmlhkbgifnifdaaGreatDoor
