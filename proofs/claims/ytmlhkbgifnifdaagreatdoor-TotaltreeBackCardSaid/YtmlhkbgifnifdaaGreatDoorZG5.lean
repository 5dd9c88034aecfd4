/-
  Nodes that are made from the root on, each once: nothing is left to be reduced of them. No condition.
  What totaltree.build makes of steps, in plain lists: nothing is left to be reduced, and each node leads where the steps lead. No condition.
-/
import Derived.Test.YtmlhkbgifnifdaaGreatDoorZG4
namespace Go.Proofs.YtmlhkbgifnifdaaGreatDoor
set_option linter.unusedVariables false
set_option linter.unusedSimpArgs false

/-- one visit behind the other: the numbers, the nodes behind them -/
def Chain (V : List Nd → Int → List Nd → Prop) : List Nd → List Int → List Nd → Prop
  | ns, [], ns' => ns' = ns
  | ns, k :: r, ns' => ∃ ns1, V ns k ns1 ∧ Chain V ns1 r ns'
theorem Chain.snoc {V : List Nd → Int → List Nd → Prop} : ∀ {ns : List Nd} {ks : List Int} {ns1 : List Nd} {k : Int} {ns2 : List Nd}, Chain V ns ks ns1 → V ns1 k ns2 → Chain V ns (ks ++ [k]) ns2
  | ns, [], ns1, k, ns2, h, hv => by
    obtain rfl : ns1 = ns := h
    exact ⟨ns2, hv, rfl⟩
  | ns, z :: r, ns1, k, ns2, ⟨m, h1, h2⟩, hv => ⟨m, h1, Chain.snoc h2 hv⟩
/-- a visit at a level: the number that it answers, the nodes behind it -/
def Vis (q : Nat) : Nat → List Nd → Int → List Nd → Prop
  | 0, ns, v, ns' => ns' = ns ∧ 0 ≤ v ∧ v < (q : Int)
  | n + 1, ns, v, ns' => (∃ i : Nat, v = (i : Int) ∧ i < ns.length ∧ (ndAt ns i).1 = ((n + 1 : Nat) : Int) ∧ ns' = ns) ∨
      ∃ ks ns1, Chain (Vis q n) ns ks ns1 ∧ ks.length = q ∧ (((n + 1 : Nat) : Int), ks) ∉ ns1 ∧ v = (ns1.length : Int) ∧ ns' = ns1 ++ [(((n + 1 : Nat) : Int), ks)]
/-- valid nodes, all different -/
structure NV (q : Nat) (ns : List Nd) : Prop where
  v : VNd q ns
  dis : Dis ns (· < ns.length)
theorem NV.nil (q : Nat) : NV q [] := ⟨⟨⟨fun i h => h, fun i h => absurd h (by simp), fun i h => absurd h (by simp), fun i h => absurd h (by simp)⟩, fun i h => absurd h (by simp), fun i h => absurd h (by simp)⟩, fun i j h => absurd h (by simp)⟩
theorem nd_mem {ns : List Nd} {i : Nat} (h : i < ns.length) : ndAt ns i ∈ ns := by
  unfold ndAt
  rw [List.getD_eq_getElem?_getD, List.getElem?_eq_getElem h]
  exact List.getElem_mem h
theorem mem_nd {ns : List Nd} {x : Nd} (h : x ∈ ns) : ∃ i, i < ns.length ∧ ndAt ns i = x := by
  obtain ⟨i, hi, e⟩ := List.getElem_of_mem h
  refine ⟨i, hi, ?_⟩
  unfold ndAt
  rw [List.getD_eq_getElem?_getD, List.getElem?_eq_getElem hi, ← e]
  rfl
theorem NV.push {q : Nat} {ns : List Nd} (h : NV q ns) {lv : Int} {nx : List Int} (h1 : 1 ≤ lv) (hlen : nx.length = q) (hlow : lv = 1 → ∀ z ∈ nx, 0 ≤ z ∧ z < (q : Int)) (hk : 1 < lv → ∀ z ∈ nx, 0 ≤ z ∧ z.toNat < ns.length ∧ (ndAt ns z.toNat).1 = lv - 1) (hn : (lv, nx) ∉ ns) : NV q (ns ++ [(lv, nx)]) := by
  refine ⟨h.v.push h1 hlen hlow hk, fun i j hi hj e => ?_⟩
  dsimp only at hi hj
  rw [List.length_append, List.length_singleton] at hi hj
  rcases Nat.lt_or_ge i ns.length with hi2 | hi2
  · rcases Nat.lt_or_ge j ns.length with hj2 | hj2
    · rw [ndAt_app_lt hi2, ndAt_app_lt hj2] at e
      exact h.dis i j hi2 hj2 e
    · obtain rfl : j = ns.length := by omega
      rw [ndAt_app_lt hi2, ndAt_app_len] at e
      exact absurd (by rw [← e]; exact nd_mem hi2) hn
  · obtain rfl : i = ns.length := by omega
    rcases Nat.lt_or_ge j ns.length with hj2 | hj2
    · rw [ndAt_app_lt hj2, ndAt_app_len] at e
      exact absurd (by rw [e]; exact nd_mem hj2) hn
    · omega
/-- what a visit leaves -/
structure VOk (q n : Nat) (ns : List Nd) (v : Int) (ns' : List Nd) : Prop where
  nv : NV q ns'
  g : ∃ ys, ns' = ns ++ ys ∧ ∀ y ∈ ys, y.1 ≤ (n : Int)
  low : n = 0 → ns' = ns ∧ 0 ≤ v ∧ v < (q : Int)
  nd : 1 ≤ n → 0 ≤ v ∧ v.toNat < ns'.length ∧ (ndAt ns' v.toNat).1 = (n : Int)
structure COk (q n : Nat) (ns : List Nd) (ks : List Int) (ns' : List Nd) : Prop where
  nv : NV q ns'
  g : ∃ ys, ns' = ns ++ ys ∧ ∀ y ∈ ys, y.1 ≤ (n : Int)
  low : n = 0 → ns' = ns ∧ ∀ v ∈ ks, 0 ≤ v ∧ v < (q : Int)
  nd : 1 ≤ n → ∀ v ∈ ks, 0 ≤ v ∧ v.toNat < ns'.length ∧ (ndAt ns' v.toNat).1 = (n : Int)
theorem chain_ok {q n : Nat} {V : List Nd → Int → List Nd → Prop} (hV : ∀ ns v ns', NV q ns → V ns v ns' → VOk q n ns v ns') : ∀ (ks : List Int) (ns ns' : List Nd), NV q ns → Chain V ns ks ns' → COk q n ns ks ns'
  | [], ns, ns', h, hc => by
    obtain rfl : ns' = ns := hc
    exact ⟨h, ⟨[], by simp, fun y hy => absurd hy (by simp)⟩, fun _ => ⟨rfl, fun v hv => absurd hv (by simp)⟩, fun _ v hv => absurd hv (by simp)⟩
  | k :: r, ns, ns', h, ⟨ns1, h1, h2⟩ => by
    have a := hV _ _ _ h h1
    have b := chain_ok hV r ns1 ns' a.nv h2
    obtain ⟨y1, e1, l1⟩ := a.g
    obtain ⟨y2, e2, l2⟩ := b.g
    refine ⟨b.nv, ⟨y1 ++ y2, by rw [e2, e1, List.append_assoc], fun y hy => ?_⟩, fun h0 => ?_, fun h1' v hv => ?_⟩
    · rcases List.mem_append.1 hy with hy | hy
      · exact l1 y hy
      · exact l2 y hy
    · obtain ⟨a1, a2, a3⟩ := a.low h0
      obtain ⟨b1, b2⟩ := b.low h0
      refine ⟨b1.trans a1, fun v hv => ?_⟩
      rcases List.mem_cons.1 hv with rfl | hv
      · exact ⟨a2, a3⟩
      · exact b2 v hv
    · rcases List.mem_cons.1 hv with rfl | hv
      · obtain ⟨a1, a2, a3⟩ := a.nd h1'
        refine ⟨a1, by rw [e2, List.length_append]; omega, by rw [e2, ndAt_app_lt a2]; exact a3⟩
      · exact b.nd h1' v hv
theorem vis_ok {q : Nat} : ∀ (n : Nat) (ns : List Nd) (v : Int) (ns' : List Nd), NV q ns → Vis q n ns v ns' → VOk q n ns v ns'
  | 0, ns, v, ns', h, hv => by
    obtain ⟨rfl, h1, h2⟩ := hv
    exact ⟨h, ⟨[], by simp, fun y hy => absurd hy (by simp)⟩, fun _ => ⟨rfl, h1, h2⟩, fun h0 => absurd h0 (by omega)⟩
  | n + 1, ns, v, ns', h, hv => by
    rcases hv with ⟨i, rfl, h1, h2, rfl⟩ | ⟨ks, ns1, hc, hl, hn, rfl, rfl⟩
    · exact ⟨h, ⟨[], by simp, fun y hy => absurd hy (by simp)⟩, fun h0 => absurd h0 (by omega), fun _ => ⟨Int.natCast_nonneg _, by rw [Int.toNat_natCast]; exact h1, by rw [Int.toNat_natCast]; exact h2⟩⟩
    · have c := chain_ok (fun a b d e f => vis_ok n a b d e f) ks ns ns1 h hc
      obtain ⟨ys, e1, l1⟩ := c.g
      refine ⟨c.nv.push (by omega) hl (fun h1 z hz => ?_) (fun h1 z hz => ?_) hn, ⟨ys ++ [(((n + 1 : Nat) : Int), ks)], by rw [e1, List.append_assoc], fun y hy => ?_⟩, fun h0 => absurd h0 (by omega), fun _ => ⟨Int.natCast_nonneg _, by rw [Int.toNat_natCast]; simp, by rw [Int.toNat_natCast, ndAt_app_len]⟩⟩
      · exact (c.low (by omega)).2 z hz
      · obtain ⟨a1, a2, a3⟩ := c.nd (by omega) z hz
        exact ⟨a1, a2, by rw [a3]; omega⟩
      · rcases List.mem_append.1 hy with hy | hy
        · have := l1 y hy; omega
        · rw [List.mem_singleton.1 hy]; exact Int.le_refl _
/-- a visit that answers an old node makes none -/
theorem vis_old {q n : Nat} {ns : List Nd} {v : Int} {ns' : List Nd} (h : NV q ns) (hv : Vis q n ns v ns') (ho : 1 ≤ n → v.toNat < ns.length) : ns' = ns := by
  cases n with
  | zero => exact hv.1
  | succ n =>
    rcases hv with ⟨i, -, -, -, e⟩ | ⟨ks, ns1, hc, hl, hn, rfl, rfl⟩
    · exact e
    · have c := chain_ok (fun a b d e f => vis_ok n a b d e f) ks ns ns1 h hc
      obtain ⟨ys, e1, -⟩ := c.g
      have := ho (by omega)
      rw [Int.toNat_natCast, e1, List.length_append] at this
      omega
theorem chain_old {q n : Nat} : ∀ (ks : List Int) (ns ns' : List Nd), NV q ns → Chain (Vis q n) ns ks ns' → (1 ≤ n → ∀ k ∈ ks, k.toNat < ns.length) → ns' = ns
  | [], ns, ns', h, hc, _ => hc
  | k :: r, ns, ns', h, ⟨ns1, h1, h2⟩, ho => by
    obtain rfl := vis_old h h1 (fun hn => ho hn k (by simp))
    exact chain_old r ns1 ns' h h2 (fun hn z hz => ho hn z (by simp [hz]))
/-- a node that is found among the nodes was there before its elements were visited -/
theorem chain_found {q n : Nat} {ks : List Int} {ns ns1 : List Nd} (h : NV q ns) (hc : Chain (Vis q n) ns ks ns1) {i : Nat} (hi : i < ns1.length) (he : ndAt ns1 i = (((n + 1 : Nat) : Int), ks)) : Vis q (n + 1) ns (i : Int) ns1 := by
  have c := chain_ok (fun a b d e f => vis_ok n a b d e f) ks ns ns1 h hc
  obtain ⟨ys, e1, l1⟩ := c.g
  have hil : i < ns.length := by
    rcases Nat.lt_or_ge i ns.length with h2 | h2
    · exact h2
    · exfalso
      have hm : ndAt ns1 i ∈ ys := by
        have : i - ns.length < ys.length := by rw [e1, List.length_append] at hi; omega
        unfold ndAt
        rw [e1, List.getD_eq_getElem?_getD, List.getElem?_append_right h2, List.getElem?_eq_getElem this]
        exact List.getElem_mem this
      have := l1 _ hm
      rw [he] at this
      dsimp only at this
      omega
  have e2 : ndAt ns i = (((n + 1 : Nat) : Int), ks) := by rw [← he, e1, ndAt_app_lt hil]
  have e3 : ns1 = ns := by
    refine chain_old ks ns ns1 h hc fun hn k hk => ?_
    have := (h.v.lev.kids i hil (by rw [e2]; dsimp only; omega) k (by rw [e2]; exact hk)).2.1
    exact this
  exact .inl ⟨i, rfl, hil, by rw [e2], e3⟩
/-- the first k nodes are numbered -/
def stk (F : List Nd) (k : Nat) : St := ((List.range F.length).map (fun i => if i < k then ((i + 1 : Nat) : Int) else 0), F.take k)
theorem stk_at {F : List Nd} {k i : Nat} (hi : i < F.length) : (stk F k).1.getD i 0 = if i < k then ((i + 1 : Nat) : Int) else 0 := by
  unfold stk
  rw [List.getD_eq_getElem?_getD, List.getElem?_map, List.getElem?_range hi]
  rfl
theorem stk_zero (F : List Nd) : stk F 0 = (List.replicate F.length 0, []) := by
  unfold stk
  refine Prod.ext ?_ (by simp)
  dsimp only
  refine List.ext_getElem (by simp) fun i h1 h2 => ?_
  simp
theorem stk_succ {F : List Nd} {k : Nat} (hk : k < F.length) : stk F (k + 1) = ((stk F k).1.set k ((k + 1 : Nat) : Int), (stk F k).2 ++ [ndAt F k]) := by
  refine Prod.ext ?_ ?_
  · refine List.ext_getElem (by simp [stk]) fun i h1 h2 => ?_
    simp only [stk, List.length_map, List.length_range] at h1 h2 ⊢
    rw [List.getElem_set]
    simp only [List.getElem_map, List.getElem_range]
    by_cases e : k = i
    · subst e
      rw [if_pos rfl, if_pos (by omega)]
    · rw [if_neg e]
      by_cases h3 : i < k
      · rw [if_pos (by omega), if_pos h3]
      · rw [if_neg (by omega), if_neg h3]
  · simp only [stk]
    rw [List.take_succ_eq_append_getElem hk]
    unfold ndAt
    rw [List.getD_eq_getElem?_getD, List.getElem?_eq_getElem hk]
    rfl
theorem vis_dfs {q : Nat} (F : List Nd) : ∀ (n f : Nat) (ns : List Nd) (v : Int) (ns' : List Nd), NV q ns → Vis q n ns v ns' → (∃ zs, F = ns' ++ zs) → 1 ≤ n → n ≤ f → dfs F f v.toNat (stk F ns.length) = stk F ns'.length
  | 0, f, ns, v, ns', _, _, _, h1, _ => absurd h1 (by omega)
  | n + 1, 0, ns, v, ns', _, _, _, _, h2 => absurd h2 (by omega)
  | n + 1, f + 1, ns, v, ns', h, hv, ⟨zs, hF⟩, _, h2 => by
    rcases hv with ⟨i, rfl, hi, hl, rfl⟩ | ⟨ks, ns1, hc, hl, hn, rfl, rfl⟩
    · have hiF : i < F.length := by rw [hF, List.length_append]; omega
      rw [Int.toNat_natCast, dfs_succ, if_pos (by rw [stk_at hiF, if_pos hi]; omega)]
    · have c := chain_ok (fun a b d e f => vis_ok n a b d e f) ks ns ns1 h hc
      obtain ⟨ys, e1, -⟩ := c.g
      have hlF : ns1.length < F.length := by rw [hF]; simp
      have hnd : ndAt F ns1.length = (((n + 1 : Nat) : Int), ks) := by
        rw [hF, ndAt_app_lt (by simp), ndAt_app_len]
      have hle : ns.length ≤ ns1.length := by rw [e1, List.length_append]; omega
      rw [Int.toNat_natCast, dfs_succ, if_neg (by rw [stk_at hlF, if_neg (by omega)]; omega)]
      have hk : (if 1 < (ndAt F ns1.length).1 then (ndAt F ns1.length).2.foldl (kidStep F f) (stk F ns.length, []) else (stk F ns.length, (ndAt F ns1.length).2)) = (stk F ns1.length, ks) := by
        rw [hnd]
        dsimp only
        by_cases h0 : n = 0
        · subst h0
          rw [if_neg (by omega), (c.low rfl).1]
        · rw [if_pos (by omega)]
          have key : ∀ (r : List Int) (m m' : List Nd) (acc : List Int), NV q m → Chain (Vis q n) m r m' → (∃ zs, F = m' ++ zs) → r.foldl (kidStep F f) (stk F m.length, acc) = (stk F m'.length, acc ++ r) := by
            intro r
            induction r with
            | nil =>
              intro m m' acc _ hc _
              obtain rfl : m' = m := hc
              simp
            | cons k r ih =>
              intro m m' acc hm hc hF'
              obtain ⟨m1, c1, c2⟩ := hc
              have o1 := vis_ok n m k m1 hm c1
              have o2 := chain_ok (fun a b d e f => vis_ok n a b d e f) r m1 m' o1.nv c2
              obtain ⟨y2, g2, -⟩ := o2.g
              obtain ⟨zs', hz⟩ := hF'
              have hF1 : ∃ zs, F = m1 ++ zs := ⟨y2 ++ zs', by rw [hz, g2, List.append_assoc]⟩
              have hd := vis_dfs F n f m k m1 hm c1 hF1 (by omega) (by omega)
              obtain ⟨a1, a2, a3⟩ := o1.nd (by omega)
              rw [List.foldl_cons]
              have e : kidStep F f (stk F m.length, acc) k = (stk F m1.length, acc ++ [k]) := by
                unfold kidStep
                dsimp only
                rw [hd, stk_at (by obtain ⟨z, hz⟩ := hF1; rw [hz, List.length_append]; omega), if_pos a2]
                have : ((k.toNat + 1 : Nat) : Int) - 1 = k := by omega
                rw [this]
              rw [e, ih m1 m' (acc ++ [k]) o1.nv c2 ⟨zs', hz⟩, List.append_assoc]
              rfl
          have := key ks ns ns1 [] h hc ⟨_, by rw [hF, List.append_assoc]⟩
          simpa using this
      rw [show (let x := ndAt F ns1.length; let r := if 1 < x.1 then x.2.foldl (kidStep F f) (stk F ns.length, []) else (stk F ns.length, x.2); (r.1.1.set ns1.length (r.1.2.length + 1 : Nat), r.1.2 ++ [(x.1, r.2)])) = ((stk F ns1.length).1.set ns1.length (((stk F ns1.length).2.length + 1 : Nat) : Int), (stk F ns1.length).2 ++ [((ndAt F ns1.length).1, ks)]) from by dsimp only; rw [hk]]
      have hol : (stk F ns1.length).2.length = ns1.length := by simp only [stk, List.length_take]; omega
      rw [hol, hnd, List.length_append, List.length_singleton, stk_succ hlF, hnd]
/-- nothing is left to be reduced -/
theorem vis_can {q L : Nat} {v : Int} {M : List Nd} (hL : 1 ≤ L) (hL2 : L ≤ 100) (h : Vis q L [] v M) : Can q L M ∧ v = ((M.length - 1 : Nat) : Int) := by
  have o := vis_ok L [] v M (NV.nil q) h
  obtain ⟨ys, e, l⟩ := o.g
  obtain ⟨a1, a2, a3⟩ := o.nd hL
  have hv : v = ((M.length - 1 : Nat) : Int) := by
    cases L with
    | zero => omega
    | succ n =>
      rcases h with ⟨i, -, hi, -⟩ | ⟨ks, ns1, hc, hl, hn, rfl, rfl⟩
      · exact absurd hi (by simp)
      · simp
  have hvn : v.toNat = M.length - 1 := by rw [hv, Int.toNat_natCast]
  have hd := vis_dfs M L 100 [] v M (NV.nil q) h ⟨[], by simp⟩ hL hL2
  refine ⟨⟨o.nv.v, o.nv.dis, by omega, by rw [← hvn]; exact a3, fun i hi => ?_, ?_⟩, hv⟩
  · have := l (ndAt M i) (by have := nd_mem hi; rw [e, List.nil_append] at this; rw [e, List.nil_append]; exact this)
    exact this
  · unfold ord
    rw [hvn, List.length_nil, stk_zero] at hd
    rw [hd]
    simp [stk]
end Go.Proofs.YtmlhkbgifnifdaaGreatDoor
namespace Go.Proofs.YtmlhkbgifnifdaaGreatDoor
set_option linter.unusedVariables false
set_option linter.unusedSimpArgs false

theorem val_growB {q : Nat} {A : List Nd} (hA : Lev q A (· < A.length)) (ys : List Nd) {L : Nat} {k : Int} (h0 : 0 ≤ k) (h1 : 1 ≤ L → k.toNat < A.length ∧ (ndAt A k.toNat).1 = (L : Int)) {ins : List Nat} (hl : ins.length = L) (hq : ∀ t ∈ ins, t < q) : val (A ++ ys) k ins = val A k ins := by
  rcases Nat.eq_zero_or_pos L with hL | hL
  · have : ins = [] := List.eq_nil_of_length_eq_zero (by omega)
    subst this
    rfl
  · obtain ⟨h2, h3⟩ := h1 hL
    have := (Eqv.app hA ys (ndAt A k.toNat).1.toNat k.toNat (by rw [h3]; omega) h2).2 ins (by rw [ndAt_app_lt h2, h3, hl]) hq
    rw [toNat_cast h0] at this
    exact this
/-- steps: how many, how many states, a step from a state at a position, the end -/
structure Sys (S : Type) where
  L : Nat
  q : Nat
  step : S → Nat → Nat → S
  fin : S → Int
/-- the places that were seen, the nodes -/
abbrev BS (S : Type) := List ((Nat × S) × Nat) × List Nd
section
variable {S : Type}
def runS (Y : Sys S) : S → Nat → List Nat → S
  | s, _, [] => s
  | s, a, t :: r => runS Y (Y.step s a t) (a + 1) r
def kidsB (r : S → BS S → Int × BS S) (g : Nat → S) : Nat → BS S → List Int × BS S
  | 0, b => ([], b)
  | j + 1, b => ((kidsB r g j b).1 ++ [(r (g j) (kidsB r g j b).2).1], (r (g j) (kidsB r g j b).2).2)
/-- what holds of what was made -/
structure BI (Y : Sys S) (b : BS S) : Prop where
  nv : NV Y.q b.2
  seen : ∀ x k, (x, k) ∈ b.1 → ∃ n, x.1 + (n + 1) = Y.L ∧ k < b.2.length ∧ (ndAt b.2 k).1 = ((n + 1 : Nat) : Int) ∧ ∀ ins : List Nat, ins.length = n + 1 → (∀ t ∈ ins, t < Y.q) → val b.2 (k : Int) ins = Y.fin (runS Y x.2 x.1 ins)
theorem BI.nil (Y : Sys S) : BI Y ([], []) := ⟨NV.nil _, fun x k h => absurd h (by simp)⟩
/-- what a call gives -/
structure BOk (Y : Sys S) (n : Nat) (s : S) (b : BS S) (r : Int × BS S) : Prop where
  i : BI Y r.2
  vis : Vis Y.q n b.2 r.1 r.2.2
  new : ∃ ks, r.2.1 = b.1 ++ ks ∧ ∀ y ∈ ks, Y.L ≤ y.1.1 + n
  lead : ∀ ins : List Nat, ins.length = n → (∀ t ∈ ins, t < Y.q) → val r.2.2 r.1 ins = Y.fin (runS Y s (Y.L - n) ins)
  sz1 : r.2.1.length ≤ b.1.length + cap Y.q n
  sz2 : r.2.2.length ≤ b.2.length + cap Y.q n
/-- what the calls for the first j states give -/
structure KOk (Y : Sys S) (n : Nat) (g : Nat → S) (j : Nat) (b : BS S) (a : List Int × BS S) : Prop where
  i : BI Y a.2
  ch : Chain (Vis Y.q n) b.2 a.1 a.2.2
  len : a.1.length = j
  new : ∃ ks, a.2.1 = b.1 ++ ks ∧ ∀ y ∈ ks, Y.L ≤ y.1.1 + n
  lead : ∀ i, i < j → ∀ ins : List Nat, ins.length = n → (∀ t ∈ ins, t < Y.q) → val a.2.2 (a.1.getD i 0) ins = Y.fin (runS Y (g i) (Y.L - n) ins)
  sz1 : a.2.1.length ≤ b.1.length + j * cap Y.q n
  sz2 : a.2.2.length ≤ b.2.length + j * cap Y.q n
theorem KOk.zero (Y : Sys S) (n : Nat) (g : Nat → S) {b : BS S} (h : BI Y b) : KOk Y n g 0 b ([], b) :=
  ⟨h, rfl, rfl, ⟨[], by simp, fun y hy => absurd hy (by simp)⟩, fun i hi => absurd hi (by omega), by simp, by simp⟩
theorem KOk.succ {Y : Sys S} {n : Nat} {g : Nat → S} {j : Nat} {b : BS S} {a : List Int × BS S} (hb : BI Y b) (h : KOk Y n g j b a) {r : Int × BS S} (hr : BOk Y n (g j) a.2 r) : KOk Y n g (j + 1) b (a.1 ++ [r.1], r.2) := by
  obtain ⟨k1, e1, l1⟩ := h.new
  obtain ⟨k2, e2, l2⟩ := hr.new
  have hv := vis_ok n _ _ _ h.i.nv hr.vis
  obtain ⟨ys, ey, -⟩ := hv.g
  have hc := chain_ok (fun a b d e f => vis_ok n a b d e f) _ _ _ hb.nv h.ch
  refine ⟨hr.i, h.ch.snoc hr.vis, by simp [h.len], ⟨k1 ++ k2, by rw [e2, e1, List.append_assoc], fun y hy => ?_⟩, fun i hi ins hl hq => ?_, ?_, ?_⟩
  · rcases List.mem_append.1 hy with hy | hy
    · exact l1 y hy
    · exact l2 y hy
  · dsimp only
    rcases Nat.lt_or_ge i j with h1 | h1
    · have e : (a.1 ++ [r.1]).getD i 0 = a.1.getD i 0 := by rw [List.getD_eq_getElem?_getD, List.getElem?_append_left (by rw [h.len]; exact h1), ← List.getD_eq_getElem?_getD]
      have hm : a.1.getD i 0 ∈ a.1 := getD_mem (by rw [h.len]; exact h1)
      rw [e, ← h.lead i h1 ins hl hq, ey]
      by_cases hn : 1 ≤ n
      · obtain ⟨a1, a2, a3⟩ := hc.nd hn _ hm
        exact val_growB h.i.nv.v.lev ys (L := n) a1 (fun _ => ⟨a2, a3⟩) hl hq
      · have : ins = [] := List.eq_nil_of_length_eq_zero (by omega)
        subst this
        rfl
    · obtain rfl : i = j := by omega
      have e : (a.1 ++ [r.1]).getD i 0 = r.1 := by rw [List.getD_eq_getElem?_getD, List.getElem?_append_right (by rw [h.len]; exact Nat.le_refl _), h.len, Nat.sub_self]; rfl
      rw [e]
      exact hr.lead ins hl hq
  · have := h.sz1; have := hr.sz1
    rw [Nat.succ_mul]
    dsimp only
    omega
  · have := h.sz2; have := hr.sz2
    rw [Nat.succ_mul]
    dsimp only
    omega
/-- the node behind the kids -/
theorem KOk.fin {Y : Sys S} {n : Nat} {s : S} {b : BS S} {a : List Int × BS S} (hb : BI Y b) (hL : n + 1 ≤ Y.L) (h : KOk Y n (fun t => Y.step s (Y.L - (n + 1)) t) Y.q b a) :
    BOk Y (n + 1) s b (((addN a.2.2 (((n + 1 : Nat) : Int), a.1)).1 : Int), (a.2.1 ++ [((Y.L - (n + 1), s), (addN a.2.2 (((n + 1 : Nat) : Int), a.1)).1)], (addN a.2.2 (((n + 1 : Nat) : Int), a.1)).2)) := by
  have hc := chain_ok (fun a b d e f => vis_ok n a b d e f) _ _ _ hb.nv h.ch
  obtain ⟨k1, e1, l1⟩ := h.new
  have hvis : Vis Y.q (n + 1) b.2 (((addN a.2.2 (((n + 1 : Nat) : Int), a.1)).1 : Nat) : Int) (addN a.2.2 (((n + 1 : Nat) : Int), a.1)).2 := by
    rcases addN_cases a.2.2 (((n + 1 : Nat) : Int), a.1) with ⟨i, ha, hil, hin⟩ | ⟨ha, hnot⟩
    · rw [ha]
      exact chain_found hb.nv h.ch hil hin
    · rw [ha]
      exact .inr ⟨a.1, a.2.2, h.ch, h.len, hnot, rfl, rfl⟩
  have hv := vis_ok (n + 1) _ _ _ hb.nv hvis
  have hget : ndAt (addN a.2.2 (((n + 1 : Nat) : Int), a.1)).2 (addN a.2.2 (((n + 1 : Nat) : Int), a.1)).1 = (((n + 1 : Nat) : Int), a.1) := by
    rcases addN_cases a.2.2 (((n + 1 : Nat) : Int), a.1) with ⟨i, ha, hil, hin⟩ | ⟨ha, hnot⟩
    · rw [ha]; exact hin
    · rw [ha]; exact ndAt_app_len _ _
  have hg : ∃ ys, (addN a.2.2 (((n + 1 : Nat) : Int), a.1)).2 = a.2.2 ++ ys ∧ ys.length ≤ 1 := by
    rcases addN_cases a.2.2 (((n + 1 : Nat) : Int), a.1) with ⟨i, ha, hil, hin⟩ | ⟨ha, hnot⟩
    · rw [ha]; exact ⟨[], by simp, by simp⟩
    · rw [ha]; exact ⟨_, rfl, by simp⟩
  obtain ⟨ys, ey, ly⟩ := hg
  have hlead : ∀ ins : List Nat, ins.length = n + 1 → (∀ t ∈ ins, t < Y.q) → val (addN a.2.2 (((n + 1 : Nat) : Int), a.1)).2 (((addN a.2.2 (((n + 1 : Nat) : Int), a.1)).1 : Nat) : Int) ins = Y.fin (runS Y s (Y.L - (n + 1)) ins) := fun ins hl hq => by
    cases ins with
    | nil => simp at hl
    | cons t r =>
      have ht : t < Y.q := hq t (by simp)
      have hrl : r.length = n := by simpa using hl
      have hrq : ∀ x ∈ r, x < Y.q := fun x hx => hq x (by simp [hx])
      simp only [val, Int.toNat_natCast, hget, runS]
      rw [show Y.L - (n + 1) + 1 = Y.L - n by omega, ← h.lead t ht r hrl hrq, ey]
      have hm : a.1.getD t 0 ∈ a.1 := getD_mem (by rw [h.len]; exact ht)
      by_cases hn : 1 ≤ n
      · obtain ⟨a1, a2, a3⟩ := hc.nd hn _ hm
        exact val_growB h.i.nv.v.lev ys (L := n) a1 (fun _ => ⟨a2, a3⟩) hrl hrq
      · have : r = [] := List.eq_nil_of_length_eq_zero (by omega)
        subst this
        rfl
  obtain ⟨v1, v2, v3⟩ := hv.nd (by omega)
  rw [Int.toNat_natCast] at v2 v3
  refine ⟨⟨hv.nv, fun x k hx => ?_⟩, hvis, ⟨k1 ++ [((Y.L - (n + 1), s), (addN a.2.2 (((n + 1 : Nat) : Int), a.1)).1)], by dsimp only; rw [e1, List.append_assoc], fun y hy => ?_⟩, hlead, ?_, ?_⟩
  · dsimp only at hx ⊢
    rcases List.mem_append.1 hx with hx | hx
    · obtain ⟨m, m1, m2, m3, m4⟩ := h.i.seen x k hx
      refine ⟨m, m1, by rw [ey, List.length_append]; omega, by rw [ey, ndAt_app_lt m2]; exact m3, fun ins hl hq => ?_⟩
      rw [← m4 ins hl hq, ey]
      exact val_growB h.i.nv.v.lev ys (L := m + 1) (Int.natCast_nonneg _) (fun _ => ⟨by rw [Int.toNat_natCast]; exact m2, by rw [Int.toNat_natCast]; exact m3⟩) hl hq
    · rw [List.mem_singleton] at hx
      injection hx with hx1 hx2
      subst hx1 hx2
      exact ⟨n, by dsimp only; omega, v2, v3, hlead⟩
  · rcases List.mem_append.1 hy with hy | hy
    · have := l1 y hy; omega
    · rw [List.mem_singleton.1 hy]; dsimp only; omega
  · have := h.sz1
    simp only [List.length_append, List.length_singleton, cap]
    omega
  · have := h.sz2
    dsimp only
    rw [ey, List.length_append]
    simp only [cap]
    omega
theorem kids_rng {Y : Sys S} {n : Nat} {g : Nat → S} {j : Nat} {b : BS S} {r : List Int × BS S} (hb : BI Y b) (h : KOk Y n g j b r) (hq : Y.q ≤ 100) {N : Nat} (hN : r.2.2.length ≤ N) (h100 : 100 ≤ N) : ∀ z ∈ r.1, 0 ≤ z ∧ z ≤ (N : Int) := by
  intro z hz
  have c := chain_ok (fun a b d e f => vis_ok n a b d e f) _ _ _ hb.nv h.ch
  by_cases hn : 1 ≤ n
  · obtain ⟨a1, a2, a3⟩ := c.nd hn z hz
    omega
  · obtain ⟨a1, a2⟩ := (c.low (by omega)).2 z hz
    omega
end
section
variable {S : Type} [DecidableEq S]
def lookS : List ((Nat × S) × Nat) → Nat × S → Option Nat
  | [], _ => none
  | e :: r, p => if e.1 = p then some e.2 else lookS r p
theorem lookS_mem : ∀ {m : List ((Nat × S) × Nat)} {p : Nat × S} {k : Nat}, lookS m p = some k → (p, k) ∈ m
  | [], p, k, h => by cases h
  | e :: r, p, k, h => by
    unfold lookS at h
    split at h
    · rename_i he
      injection h with h
      subst h he
      exact List.mem_cons_self
    · exact List.mem_cons_of_mem _ (lookS_mem h)
theorem lookS_none : ∀ {m : List ((Nat × S) × Nat)} {p : Nat × S}, lookS m p = none → ∀ k, (p, k) ∉ m
  | [], p, h, k, hm => absurd hm (by simp)
  | e :: r, p, h, k, hm => by
    unfold lookS at h
    split at h
    · cases h
    · rename_i he
      rcases List.mem_cons.1 hm with hm | hm
      · exact he (by rw [← hm])
      · exact lookS_none h k hm
theorem lookS_snoc : ∀ (m : List ((Nat × S) × Nat)) (x : Nat × S) (k : Nat) (p : Nat × S), lookS (m ++ [(x, k)]) p = (lookS m p).or (if x = p then some k else none)
  | [], x, k, p => by
    show (if x = p then some k else none) = _
    rfl
  | e :: r, x, k, p => by
    show (if e.1 = p then some e.2 else lookS (r ++ [(x, k)]) p) = (if e.1 = p then some e.2 else lookS r p).or _
    by_cases h : e.1 = p
    · rw [if_pos h, if_pos h]; rfl
    · rw [if_neg h, if_neg h]; exact lookS_snoc r x k p
def bld (Y : Sys S) : Nat → S → BS S → Int × BS S
  | 0, s, b => (Y.fin s, b)
  | n + 1, s, b => match lookS b.1 (Y.L - (n + 1), s) with
    | some k => ((k : Int), b)
    | none => (((addN (kidsB (bld Y n) (fun t => Y.step s (Y.L - (n + 1)) t) Y.q b).2.2 (((n + 1 : Nat) : Int), (kidsB (bld Y n) (fun t => Y.step s (Y.L - (n + 1)) t) Y.q b).1)).1 : Int),
        ((kidsB (bld Y n) (fun t => Y.step s (Y.L - (n + 1)) t) Y.q b).2.1 ++ [((Y.L - (n + 1), s), (addN (kidsB (bld Y n) (fun t => Y.step s (Y.L - (n + 1)) t) Y.q b).2.2 (((n + 1 : Nat) : Int), (kidsB (bld Y n) (fun t => Y.step s (Y.L - (n + 1)) t) Y.q b).1)).1)],
          (addN (kidsB (bld Y n) (fun t => Y.step s (Y.L - (n + 1)) t) Y.q b).2.2 (((n + 1 : Nat) : Int), (kidsB (bld Y n) (fun t => Y.step s (Y.L - (n + 1)) t) Y.q b).1)).2))
variable {Y : Sys S} {R : Nat → S → Prop}
theorem bld_ok (hR : ∀ a s t, R a s → a < Y.L → t < Y.q → R (a + 1) (Y.step s a t)) (hF : ∀ s, R Y.L s → 0 ≤ Y.fin s ∧ Y.fin s < (Y.q : Int)) :
    ∀ (n : Nat), n ≤ Y.L → ∀ (s : S) (b : BS S), R (Y.L - n) s → BI Y b → BOk Y n s b (bld Y n s b)
  | 0, hn, s, b, hr, hb => by
    obtain ⟨f1, f2⟩ := hF s hr
    refine ⟨hb, ⟨rfl, f1, f2⟩, ⟨[], by simp [bld], fun y hy => absurd hy (by simp)⟩, fun ins hl hq => ?_, by simp [bld], by simp [bld]⟩
    have : ins = [] := List.eq_nil_of_length_eq_zero hl
    subst this
    rfl
  | n + 1, hn, s, b, hr, hb => by
    unfold bld
    cases hlk : lookS b.1 (Y.L - (n + 1), s) with
    | some k =>
      dsimp only
      obtain ⟨m, m1, m2, m3, m4⟩ := hb.seen _ _ (lookS_mem hlk)
      dsimp only at m1 m4
      obtain rfl : m = n := by omega
      exact ⟨hb, .inl ⟨k, rfl, m2, m3, rfl⟩, ⟨[], by simp, fun y hy => absurd hy (by simp)⟩, m4, by simp, by simp⟩
    | none =>
      dsimp only
      have key : ∀ j, j ≤ Y.q → KOk Y n (fun t => Y.step s (Y.L - (n + 1)) t) j b (kidsB (bld Y n) (fun t => Y.step s (Y.L - (n + 1)) t) j b) := by
        intro j
        induction j with
        | zero => intro _; exact KOk.zero _ _ _ hb
        | succ j ih =>
          intro hj
          have h := ih (by omega)
          refine h.succ hb (bld_ok hR hF n (by omega) _ _ ?_ h.i)
          have := hR _ s j hr (by omega) (by omega)
          rwa [show Y.L - (n + 1) + 1 = Y.L - n by omega] at this
      exact KOk.fin hb hn (key Y.q (Nat.le_refl _))
theorem kids_ok (hR : ∀ a s t, R a s → a < Y.L → t < Y.q → R (a + 1) (Y.step s a t)) (hF : ∀ s, R Y.L s → 0 ≤ Y.fin s ∧ Y.fin s < (Y.q : Int)) {n : Nat} (hn : n + 1 ≤ Y.L) {s : S} {b : BS S} (hr : R (Y.L - (n + 1)) s) (hb : BI Y b) : ∀ j, j ≤ Y.q → KOk Y n (fun t => Y.step s (Y.L - (n + 1)) t) j b (kidsB (bld Y n) (fun t => Y.step s (Y.L - (n + 1)) t) j b) := by
  intro j
  induction j with
  | zero => intro _; exact KOk.zero _ _ _ hb
  | succ j ih =>
    intro hj
    have h := ih (by omega)
    refine h.succ hb (bld_ok hR hF n (by omega) _ _ ?_ h.i)
    have := hR _ s j hr (by omega) (by omega)
    rwa [show Y.L - (n + 1) + 1 = Y.L - n by omega] at this
theorem kids_look {n a : Nat} {s : S} {g : Nat → S} {j : Nat} {b : BS S} {r : List Int × BS S} (h : KOk Y n g j b r) (ha : a + (n + 1) = Y.L) (hn : lookS b.1 (a, s) = none) : lookS r.2.1 (a, s) = none := by
  obtain ⟨ks, e, l⟩ := h.new
  cases h2 : lookS r.2.1 (a, s) with
  | none => rfl
  | some k =>
    have hm := lookS_mem h2
    rw [e] at hm
    rcases List.mem_append.1 hm with hm | hm
    · exact absurd hm (lookS_none hn k)
    · have := l _ hm
      dsimp only at this
      omega
/-- the whole tree -/
theorem bld_can (hR : ∀ a s t, R a s → a < Y.L → t < Y.q → R (a + 1) (Y.step s a t)) (hF : ∀ s, R Y.L s → 0 ≤ Y.fin s ∧ Y.fin s < (Y.q : Int)) (hL : 1 ≤ Y.L) (hL2 : Y.L ≤ 100) {s : S} (hr : R 0 s) :
    Can Y.q Y.L (bld Y Y.L s ([], [])).2.2 ∧ (∀ ins : List Nat, ins.length = Y.L → (∀ t ∈ ins, t < Y.q) → val (bld Y Y.L s ([], [])).2.2 (((bld Y Y.L s ([], [])).2.2.length - 1 : Nat) : Int) ins = Y.fin (runS Y s 0 ins)) := by
  have h := bld_ok hR hF Y.L (Nat.le_refl _) s ([], []) (by rw [Nat.sub_self]; exact hr) (BI.nil Y)
  obtain ⟨c1, c2⟩ := vis_can hL hL2 h.vis
  refine ⟨c1, fun ins hl hq => ?_⟩
  rw [← c2, h.lead ins hl hq, Nat.sub_self]
end
end Go.Proofs.YtmlhkbgifnifdaaGreatDoor
