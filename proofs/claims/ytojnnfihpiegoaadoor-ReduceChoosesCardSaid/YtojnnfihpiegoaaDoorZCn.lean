/-
  reduce.Turn in plain lists: what holds of a tree while its neighbourhood is sorted. No condition.
  reduce.Turn: the tree in memory while its neighbourhood is turned and sorted. No condition.
-/
import Derived.Test.YtojnnfihpiegoaaDoorZCm
namespace Go.Proofs.YtojnnfihpiegoaaDoor
set_option linter.unusedSimpArgs false
set_option linter.unusedVariables false

def swapG {α : Type} : Nat → List α → List α
  | 0, a :: b :: r => b :: a :: r
  | n + 1, a :: r => a :: swapG n r
  | _, r => r
theorem swapAt_G : ∀ (n : Nat) (l : List Nat), swapAt n l = swapG n l
  | 0, [] => rfl
  | 0, [_] => rfl
  | 0, _ :: _ :: _ => rfl
  | n + 1, [] => rfl
  | n + 1, a :: r => by simp [swapAt, swapG, swapAt_G n r]
section
variable {α β : Type}
theorem swapG_map (f : α → β) : ∀ (n : Nat) (l : List α), (swapG n l).map f = swapG n (l.map f)
  | 0, [] => rfl
  | 0, [_] => rfl
  | 0, _ :: _ :: _ => rfl
  | n + 1, [] => rfl
  | n + 1, a :: r => by simp [swapG, swapG_map f n r]
theorem swapG_swapG : ∀ (n : Nat) (l : List α), swapG n (swapG n l) = l
  | 0, [] => rfl
  | 0, [_] => rfl
  | 0, _ :: _ :: _ => rfl
  | n + 1, [] => rfl
  | n + 1, a :: r => by simp [swapG, swapG_swapG n r]
theorem swapG_perm : ∀ (n : Nat) (l : List α), (swapG n l).Perm l
  | 0, [] => .refl _
  | 0, [_] => .refl _
  | 0, a :: b :: r => List.Perm.swap a b r
  | n + 1, [] => .refl _
  | n + 1, a :: r => (swapG_perm n r).cons a
theorem swapG_set : ∀ (n : Nat) (l : List α) (h : n + 1 < l.length), (l.set n l[n + 1]).set (n + 1) (l[n]'(by omega)) = swapG n l
  | 0, [], h => absurd h (by simp)
  | 0, [_], h => absurd h (by simp)
  | 0, a :: b :: r, h => rfl
  | n + 1, [], h => absurd h (by simp)
  | n + 1, a :: r, h => by
    have ih := swapG_set n r (by simpa using h)
    simp only [swapG, List.set_cons_succ, List.getElem_cons_succ]
    rw [ih]
end
/-- a point that comes behind another one -/
def gtB (a b : Int × Int) : Bool := decide (0 < ordP a.1 a.2 b.1 b.2)
theorem gtB_iff (a b : Int × Int) : gtB a b = true ↔ b.2 < a.2 ∨ (b.2 = a.2 ∧ b.1 < a.1) := by
  unfold gtB ordP Lib.compareInt
  rw [decide_eq_true_iff]
  by_cases h1 : a.2 < b.2
  · simp [h1]; omega
  · by_cases h2 : b.2 < a.2
    · simp [h1, h2]
    · have h3 : b.2 = a.2 := by omega
      by_cases h4 : a.1 < b.1
      · simp [h3, h4]; omega
      · by_cases h5 : b.1 < a.1
        · simp [h3, h4, h5]
        · simp [h3, h4, h5]
theorem gtB_asymm {a b : Int × Int} (h : gtB a b = true) : gtB b a = false := by
  cases e : gtB b a with
  | false => rfl
  | true =>
    rw [gtB_iff] at h e
    omega
def leP (a b : Int × Int) : Prop := ¬ gtB a b = true
theorem leP_trans {a b c : Int × Int} (h : leP a b) (k : leP b c) : leP a c := by
  unfold leP at *
  rw [gtB_iff] at *
  omega
theorem leP_anti {a b : Int × Int} (h : leP a b) (k : leP b a) : a = b := by
  unfold leP at *
  rw [gtB_iff] at *
  exact Prod.ext (by omega) (by omega)
theorem adj_pairwise : ∀ (l : List (Int × Int)), (∀ i (h : i + 1 < l.length), leP (l[i]'(by omega)) l[i + 1]) → l.Pairwise leP
  | [], _ => .nil
  | [a], _ => by simp
  | a :: c :: r, h => by
    have ih := adj_pairwise (c :: r) (fun i hi => h (i + 1) (by simpa using hi))
    refine List.pairwise_cons.2 ⟨fun b hb => ?_, ih⟩
    have h0 : leP a c := h 0 (by simp)
    rcases List.mem_cons.1 hb with e | hb
    · subst e; exact h0
    · exact leP_trans h0 ((List.pairwise_cons.1 ih).1 b hb)
def inv : List (Int × Int) → Nat
  | [] => 0
  | a :: l => l.countP (gtB a) + inv l
theorem inv_swap : ∀ (n : Nat) (l : List (Int × Int)) (h : n + 1 < l.length), gtB (l[n]'(by omega)) l[n + 1] = true → inv (swapG n l) + 1 = inv l
  | 0, [], h, _ => absurd h (by simp)
  | 0, [_], h, _ => absurd h (by simp)
  | 0, a :: b :: r, h, hg => by
    have h1 : gtB a b = true := hg
    have h2 := gtB_asymm h1
    simp only [swapG, inv, List.countP_cons, h1, h2, if_true]
    simp
    omega
  | n + 1, [], h, _ => absurd h (by simp)
  | n + 1, a :: r, h, hg => by
    have ih := inv_swap n r (by simpa using h) (by simpa using hg)
    simp only [swapG, inv]
    rw [(swapG_perm n r).countP_eq]
    omega
/-- states at different points -/
theorem pick : ∀ (us : List (Int × Int)) (ins : List Nat), us.Nodup → us.length = ins.length → ∃ g : Int × Int → Nat, us.map g = ins ∧ ∀ p, g p = 0 ∨ g p ∈ ins
  | [], [], _, _ => ⟨fun _ => 0, rfl, fun _ => .inl rfl⟩
  | [], _ :: _, _, h => by simp at h
  | _ :: _, [], _, h => by simp at h
  | u :: us, i :: ins, hn, h => by
    rw [List.nodup_cons] at hn
    obtain ⟨g, h1, h2⟩ := pick us ins hn.2 (by simpa using h)
    refine ⟨fun p => if p = u then i else g p, ?_, fun p => ?_⟩
    · rw [List.map_cons, if_pos rfl]
      refine congrArg (i :: ·) ?_
      rw [← h1]
      refine List.map_congr_left fun p hp => if_neg fun (e : p = u) => hn.1 (by rw [← e]; exact hp)
    · dsimp only
      split
      · exact .inr List.mem_cons_self
      · rcases h2 p with e | e
        · exact .inl e
        · exact .inr (List.mem_cons_of_mem _ e)
/-- the symmetries keep points apart -/
theorem symP_inj (k : Int) {p q : Int × Int} (h : symP k p = symP k q) : p = q := by
  have hj := symJ_lt k
  unfold symP at h
  generalize symJ k = j at h hj
  obtain ⟨x, y⟩ := p
  obtain ⟨x', y'⟩ := q
  rw [Prod.mk.injEq] at h
  obtain ⟨h1, h2⟩ := h
  obtain rfl | rfl | rfl | rfl | rfl | rfl | rfl | rfl : j = 0 ∨ j = 1 ∨ j = 2 ∨ j = 3 ∨ j = 4 ∨ j = 5 ∨ j = 6 ∨ j = 7 := by omega
  all_goals
    simp [matL] at h1 h2
    exact Prod.ext (by dsimp only; omega) (by dsimp only; omega)
section
variable {q : Nat} {ns : List Nd} {P : Nat → Prop}
theorem Lev.cut (h : Lev q ns P) (L : Int) : Lev q ns (fun i => P i ∧ (ndAt ns i).1 ≤ L) :=
  ⟨fun i hi => h.lt i hi.1, fun i hi => h.len i hi.1, fun i hi => h.one i hi.1, fun i hi h1 k hk => by
    obtain ⟨a, b, c⟩ := h.kids i hi.1 h1 k hk
    exact ⟨a, ⟨b, by rw [c]; have := hi.2; omega⟩, c⟩⟩
/-- no node of a walk lies above the root -/
theorem ord_lv (hA : Lev q ns P) (dA : Dis ns P) {f root : Nat} (hf : (ndAt ns root).1 ≤ f) (hr : P root) : ∀ i, i < (ord ns f root).length → (ndAt (ord ns f root) i).1 ≤ (ndAt ns root).1 := fun i hi => by
  obtain ⟨-, -, -, -, -, h⟩ := ord_ok (hA.cut (ndAt ns root).1) (fun i j hi hj => dA i j hi.1 hj.1) hf ⟨hr, Int.le_refl _⟩
  obtain ⟨j, ⟨-, hj⟩, e⟩ := h i hi
  rw [e.1]
  exact hj
/-- a walk of a walk's nodes -/
theorem ord_self (hA : Lev q ns P) (dA : Dis ns P) {root : Nat} (hf : (ndAt ns root).1 ≤ (100 : Nat)) (hr : P root) : ord (ord ns 100 root) 100 ((ord ns 100 root).length - 1) = ord ns 100 root := by
  obtain ⟨o1, o2, o3, o4, o5, o6⟩ := ord_ok hA dA hf hr
  exact ord_eq o1 hA o2 dA (by rw [o5.1]; exact hf) (by rw [o5.1]; exact hf) (by omega) hr o5
def cap (q : Nat) : Nat → Nat
  | 0 => 0
  | n + 1 => q * cap q n + 1
theorem cap_mono {q q' : Nat} (h : q ≤ q') : ∀ (n m : Nat), n ≤ m → cap q n ≤ cap q' m
  | 0, m, _ => by simp [cap]
  | n + 1, 0, h => absurd h (by omega)
  | n + 1, m + 1, h2 => by
    have := Nat.mul_le_mul h (cap_mono h n m (by omega))
    simp only [cap]
    omega
/-- how many nodes a walk lists -/
theorem dfs_size (hA : Lev q ns P) : ∀ (n f k : Nat) (s : St), (ndAt ns k).1 = (n : Int) → P k → (dfs ns f k s).2.length ≤ s.2.length + cap q n
  | n, 0, k, s, _, _ => Nat.le_add_right _ _
  | 0, f + 1, k, s, h, hk => by have := hA.one k hk; omega
  | n + 1, f + 1, k, s, h, hk => by
    rw [dfs_succ]
    split
    · exact Nat.le_add_right _ _
    · dsimp only
      have hfold : ∀ (ks : List Int) (a : St × List Int), (∀ z ∈ ks, P z.toNat ∧ (ndAt ns z.toNat).1 = (n : Int)) → (ks.foldl (kidStep ns f) a).1.2.length ≤ a.1.2.length + ks.length * cap q n := by
        intro ks
        induction ks with
        | nil => intro a _; simp
        | cons z ks ih =>
          intro a hz
          rw [List.foldl_cons]
          have h1 := ih (kidStep ns f a z) (fun y hy => hz y (List.mem_cons_of_mem _ hy))
          obtain ⟨p1, p2⟩ := hz z List.mem_cons_self
          have h2 := dfs_size hA n f z.toNat a.1 p2 p1
          have h3 : (kidStep ns f a z).1 = dfs ns f z.toNat a.1 := rfl
          rw [h3] at h1
          rw [List.length_cons, Nat.succ_mul]
          omega
      rw [List.length_append]
      by_cases h1 : 1 < (ndAt ns k).1
      · rw [if_pos h1]
        have := hfold (ndAt ns k).2 (s, []) (fun z hz => by
          obtain ⟨a, b, c⟩ := hA.kids k hk h1 z hz
          exact ⟨b, by rw [c, h]; omega⟩)
        rw [hA.len k hk] at this
        simp only [cap, List.length_singleton]
        dsimp only at this
        omega
      · rw [if_neg h1]
        simp only [cap, List.length_singleton]
        omega
theorem ord_size (hA : Lev q ns P) {n f root : Nat} (h : (ndAt ns root).1 = (n : Int)) (hr : P root) : (ord ns f root).length ≤ cap q n := by
  have := dfs_size hA n f root (List.replicate ns.length 0, []) h hr
  simpa [ord] using this
end
/-- a tree of which nothing is left to be reduced -/
structure Can (q : Nat) (L : Nat) (ns : List Nd) : Prop where
  v : VNd q ns
  dis : Dis ns (· < ns.length)
  pos : 0 < ns.length
  root : (ndAt ns (ns.length - 1)).1 = (L : Int)
  lv : ∀ i, i < ns.length → (ndAt ns i).1 ≤ (L : Int)
  can : ord ns 100 (ns.length - 1) = ns
section
variable {q L : Nat} {ns ns' : List Nd}
theorem Can.size (h : Can q L ns) : ns.length ≤ cap q L := by
  have := ord_size (f := 100) h.v.lev h.root (by have := h.pos; omega)
  rwa [h.can] at this
theorem Can.uniq (h : Can q L ns) (h' : Can q L ns') (hL : L ≤ 100) (he : ∀ ins : List Nat, ins.length = L → (∀ s ∈ ins, s < q) → val ns ((ns.length - 1 : Nat) : Int) ins = val ns' ((ns'.length - 1 : Nat) : Int) ins) : ns = ns' := by
  rw [← h.can, ← h'.can]
  exact ord_eq h.v.lev h'.v.lev h.dis h'.dis (by rw [h.root]; omega) (by rw [h.root]; omega) (by have := h.pos; omega) (by have := h'.pos; omega) ⟨by rw [h.root, h'.root], fun ins hl hq => he ins (by rw [h.root] at hl; omega) hq⟩
/-- a walk over such nodes -/
theorem ord_can {P : Nat → Prop} {root : Nat} (hA : Lev q ns P) (dA : Dis ns P) (hlow : ∀ i, P i → (ndAt ns i).1 = 1 → ∀ k ∈ (ndAt ns i).2, 0 ≤ k ∧ k < (q : Int)) (hL : L ≤ 100) (hl : (ndAt ns root).1 = (L : Int)) (hr : P root) : Can q L (ord ns 100 root) := by
  have hf : (ndAt ns root).1 ≤ (100 : Nat) := by rw [hl]; omega
  obtain ⟨o1, o2, o3, o4, o5, o6⟩ := ord_ok hA dA hf hr
  refine ⟨⟨o1, o3, fun i hi hl1 z hz => ?_⟩, o2, o4, by rw [o5.1, hl], fun i hi => by rw [← hl]; exact ord_lv hA dA hf hr i hi, ord_self hA dA hf hr⟩
  obtain ⟨j, pj, ej⟩ := o6 i hi
  obtain ⟨s, hs, rfl⟩ := List.getElem_of_mem hz
  have hq : s < q := by rw [← o1.len i hi]; exact hs
  have hv := ej.2 [s] (by rw [hl1]; rfl) (by simpa using hq)
  simp only [val, Int.toNat_natCast] at hv
  have hjl := hA.len j pj
  have g : (ndAt (ord ns 100 root) i).2.getD s 0 = (ndAt (ord ns 100 root) i).2[s] := by rw [List.getD_eq_getElem?_getD, List.getElem?_eq_getElem hs]; rfl
  rw [g] at hv
  rw [hv]
  exact hlow j pj (by rw [← ej.1]; exact hl1) _ (getD_mem (by rw [hjl]; exact hq))
theorem red_can {ch : Int → List Int → List Int} (h : VNd q ns) (hc : Chg q ch) (hp : 0 < ns.length) (hL : L ≤ 100) (hl : (ndAt ns (ns.length - 1)).1 = (L : Int)) : Can q L (redN ch ns) := by
  have hR := RbI.all h hc _ (Nat.le_refl _)
  obtain ⟨g1, g2, g3⟩ := hR.eqv (ns.length - 1) (by omega)
  have hlv : (ndAt (chgL ch ns) (ns.length - 1)).1 = (ndAt ns (ns.length - 1)).1 := by rw [chg_at ch (by omega)]
  exact ord_can hR.v.lev hR.dis hR.v.low hL (by rw [g3.1, hlv, hl]) g2
theorem swp_can {up : Nat} (h : VNd q ns) (hup : 2 ≤ up) (hp : 0 < ns.length) (hL : L ≤ 100) (hl : (ndAt ns (ns.length - 1)).1 = (L : Int)) (hu : up ≤ L) : Can q L (swpN ns up) := by
  have hR := SwI.all h hup _ (Nat.le_refl _)
  obtain ⟨g1, g2, g3, g4⟩ := hR.eqv (ns.length - 1) (by omega) (by omega)
  exact ord_can hR.v.lev hR.dis hR.v.low hL (by rw [g3, hl]) g2
end
/-- what holds of the tree u while the turned neighbourhood of the tree t is sorted -/
structure TI (k : Int) (t u : PT) : Prop where
  st : u.st = t.st
  pm : u.ps.Perm (t.ps.map (symP k))
  can : Can t.st.toNat t.ps.length u.ns
  lead : ∀ g : Int × Int → Nat, (∀ p, g p < t.st.toNat) → val u.ns ((u.ns.length - 1 : Nat) : Int) (u.ps.map g) = val t.ns ((t.ns.length - 1 : Nat) : Int) (t.ps.map fun p => g (symP k p))
section
variable {k : Int} {t u u' : PT}
theorem TI.len (h : TI k t u) : u.ps.length = t.ps.length := by rw [h.pm.length_eq, List.length_map]
theorem TI.start (k : Int) {t : PT} (h : t.right = true) : TI k t ⟨t.st, t.ps.map (symP k), (redT t).ns⟩ := by
  obtain ⟨a1, a2, a3, a4, a5, a6, a7, a8, a9⟩ := rightN_parts h
  obtain ⟨r1, r2, r3, r4, r5, r6, r7⟩ := redT_ok h
  have e : (redT t).ns = redN chR t.ns := by unfold redT; rw [if_pos h]
  refine ⟨rfl, .refl _, by rw [show (PT.mk t.st (t.ps.map (symP k)) (redT t).ns).ns = _ from e]; exact red_can a8 (chR_chg _) (by omega) (by omega) a6, fun g hg => ?_⟩
  show val (redT t).ns (((redT t).ns.length - 1 : Nat) : Int) ((t.ps.map (symP k)).map g) = _
  rw [List.map_map]
  exact r4.2 _ (by rw [r4.1, a6, List.length_map]) (fun s hs => by
    obtain ⟨p, -, rfl⟩ := List.mem_map.1 hs
    exact hg _)
theorem TI.swap (h : TI k t u) (hL : t.ps.length ≤ 25) {j : Nat} (hj : j + 1 < u.ps.length) : TI k t ⟨u.st, swapG j u.ps, swpN u.ns (u.ps.length - j)⟩ := by
  have hl := h.len
  have hr := h.can.root
  obtain ⟨s1, s2, s3, s4, s5⟩ := swpN_ok (up := u.ps.length - j) h.can.v (by omega) h.can.pos (by rw [hr]; omega) (by rw [hr]; omega)
  refine ⟨h.st, (swapG_perm _ _).trans h.pm, swp_can h.can.v (by omega) h.can.pos (by omega) hr (by omega), fun g hg => ?_⟩
  show val (swpN u.ns (u.ps.length - j)) (((swpN u.ns (u.ps.length - j)).length - 1 : Nat) : Int) ((swapG j u.ps).map g) = _
  rw [s5 _ (by rw [hr, List.length_map, (swapG_perm j u.ps).length_eq, hl]) (fun s hs => by
    obtain ⟨p, -, rfl⟩ := List.mem_map.1 hs
    exact hg _)]
  rw [hr, show ((t.ps.length : Int) - ((u.ps.length - j : Nat) : Int)).toNat = j from by omega, swapAt_G, ← swapG_map, swapG_swapG]
  exact h.lead g hg
theorem chainH_pw : ∀ (l : List (Int × Int)) (q : Option (Int × Int)), chainH q l = true → l.Pairwise (fun a b => gtB b a = true) ∧ ∀ a, q = some a → ∀ b ∈ l, gtB b a = true
  | [], _, _ => ⟨.nil, fun _ _ _ h => absurd h (by simp)⟩
  | p :: l, q, h => by
    simp only [chainH, Bool.and_eq_true] at h
    obtain ⟨h1, h2⟩ := chainH_pw l (some p) h.2
    have h3 := h2 p rfl
    refine ⟨List.pairwise_cons.2 ⟨h3, h1⟩, fun a e b hb => ?_⟩
    subst e
    have h4 : gtB p a = true := by
      have := h.1
      simp only [okH, Bool.and_eq_true, decide_eq_true_eq] at this
      have := this.2
      rw [gtB_iff]
      unfold ordP Lib.compareInt at this
      by_cases c1 : a.2 < p.2
      · exact .inl c1
      · by_cases c2 : p.2 < a.2
        · simp [c1, c2] at this
        · have c3 : a.2 = p.2 := by omega
          by_cases c4 : a.1 < p.1
          · exact .inr ⟨c3, c4⟩
          · exfalso
            by_cases c5 : p.1 < a.1
            · simp [c3, c4, c5] at this
            · simp [c3, c4, c5] at this
    rcases List.mem_cons.1 hb with e | hb
    · subst e; exact h4
    · have := h3 b hb
      rw [gtB_iff] at *
      omega
theorem hood_nodup {ps : List (Int × Int)} (h : hoodB ps = true) : ps.Nodup := by
  unfold hoodB at h
  rw [Bool.and_eq_true] at h
  have := (chainH_pw ps none h.2).1
  refine this.imp fun {a b} h e => ?_
  subst e
  rw [gtB_iff] at h
  omega
theorem TI.nodup (h : TI k t u) (ht : t.right = true) : u.ps.Nodup := by
  refine h.pm.symm.nodup ?_
  refine List.pairwise_map.2 ((hood_nodup (rightN_parts ht).2.2.1).imp fun {a b} hne e => hne (symP_inj k e))
/-- the sorted tree is told by the given one -/
theorem TI.uniq (h : TI k t u) (h' : TI k t u') (ht : t.right = true) (hs : u.ps.Pairwise leP) (hs' : u'.ps.Pairwise leP) : u = u' := by
  obtain ⟨a1, a2, a3, a4, a5, a6, a7, a8, a9⟩ := rightN_parts ht
  have e1 : u.ps = u'.ps := List.Perm.eq_of_pairwise (fun a b _ _ => leP_anti) hs hs' (h.pm.trans h'.pm.symm)
  have e2 : u.ns = u'.ns := h.can.uniq h'.can (by omega) (fun ins hl hq => by
    obtain ⟨g, g1, g2⟩ := pick u.ps ins (h.nodup ht) (by rw [h.len, hl])
    have hg : ∀ p, g p < t.st.toNat := fun p => by
      rcases g2 p with e | e
      · rw [e]; omega
      · exact hq _ e
    have v1 := h.lead g hg
    have v2 := h'.lead g hg
    rw [g1] at v1
    rw [← e1, g1] at v2
    rw [v1, v2])
  obtain ⟨st, ps, ns⟩ := u
  obtain ⟨st', ps', ns'⟩ := u'
  have e3 := h.st.trans h'.st.symm
  dsimp only at e1 e2 e3
  subst e1 e2 e3
  rfl
end
end Go.Proofs.YtojnnfihpiegoaaDoor
namespace Go.Proofs.YtojnnfihpiegoaaDoor
set_option linter.unusedSimpArgs false
open Go.RowKit Go.Maps
set_option maxRecDepth 100000
set_option linter.unusedVariables false

theorem pt_set : ∀ (ps : List (Int × Int)) (j : Nat) (p : Int × Int), j < ps.length → ((ps.flatMap ptCells).set (j * 2) (.int .i64 p.1)).set (j * 2 + 1) (.int .i64 p.2) = (ps.set j p).flatMap ptCells
  | [], j, p, h => absurd h (by simp)
  | q :: ps, 0, p, _ => rfl
  | q :: ps, j + 1, p, h => by
    have ih := pt_set ps j p (by simpa using h)
    rw [List.flatMap_cons, List.set_cons_succ, List.flatMap_cons, ← ih, show (j + 1) * 2 = j * 2 + 1 + 1 by omega]
    rfl
theorem OwnP.setP {I : TypeId} {w : World} {base g n c : Nat} {ps : List (Int × Int)} (h : OwnP I w base (.slice (some ⟨g, 0, none⟩) n c) ps) (hn : n = ps.length) {j : Nat} (hj : j < ps.length) (x y : Int) :
    OwnP I ((w.setCell ⟨g, j * 2, none⟩ (.int .i64 x)).setCell ⟨g, j * 2 + 1, none⟩ (.int .i64 y)) base (.slice (some ⟨g, 0, none⟩) n c) (ps.set j (x, y)) := by
  subst hn
  have h1 := (World.ownsRow.stored h (j * 2) (.int .i64 x)).1
  have h2 := (World.ownsRow.stored h1 (j * 2 + 1) (.int .i64 y)).1
  unfold OwnP
  rw [List.length_set, ← pt_set ps j (x, y) hj]
  exact h2
theorem OwnP.cellk {I : TypeId} {w : World} {base g n c : Nat} {ps : List (Int × Int)} (h : OwnP I w base (.slice (some ⟨g, 0, none⟩) n c) ps) {k : Nat} (hk : k < ps.length) :
    w.cell? ⟨g, k * 2, none⟩ = some (.int .i64 ps[k].1) ∧ w.cell? ⟨g, k * 2 + 1, none⟩ = some (.int .i64 ps[k].2) ∧ w.frozen? ⟨g, k * 2, none⟩ = false ∧ w.frozen? ⟨g, k * 2 + 1, none⟩ = false := by
  obtain ⟨A, c', e, hi, -⟩ := h.pts
  injection e with e1 e2 e3
  subst e1 e2 e3
  obtain ⟨b, o, e, -, h0, h1⟩ := hi.at_ hk
  injection e with e
  injection e with e1 e2
  subst e1 e2
  rw [Nat.zero_add] at h0 h1
  exact ⟨h0, h1, World.ownsRow.frozenAt h (k * 2), World.ownsRow.frozenAt h (k * 2 + 1)⟩
theorem OwnP.some_ {I : TypeId} {w : World} {base : Nat} {v : Value} {ps : List (Int × Int)} (h : OwnP I w base v ps) (hp : 0 < ps.length) : ∃ g c, v = .slice (some ⟨g, 0, none⟩) ps.length c ∧ base ≤ g ∧ g < w.heap.size := by
  rcases h.2 with ⟨_, h0⟩ | ⟨g, cap, cur, hv, hb, hh, _⟩
  · omega
  · refine ⟨g, cap, hv, hb, ?_⟩
    rcases Nat.lt_or_ge g w.heap.size with hlt | hge
    · exact hlt
    · rw [Array.getElem?_eq_none hge] at hh; cases hh
/-- the points that lie in a block -/
def numAt (w : World) (a : Addr) : Int := match w.cell? a with | some (.int _ z) => z | _ => 0
def rowP (w : World) (g n : Nat) : List (Int × Int) := (List.range n).map fun i => (numAt w ⟨g, i * 2, none⟩, numAt w ⟨g, i * 2 + 1, none⟩)
theorem rowP_own {I : TypeId} {w : World} {base g n c : Nat} {ps : List (Int × Int)} (h : OwnP I w base (.slice (some ⟨g, 0, none⟩) n c) ps) (hn : ps.length = n) : rowP w g n = ps := by
  subst hn
  refine List.ext_getElem (by unfold rowP; simp) fun i h1 h2 => ?_
  obtain ⟨h3, h4, -⟩ := h.cellk h2
  have e : (rowP w g ps.length)[i] = (numAt w ⟨g, i * 2, none⟩, numAt w ⟨g, i * 2 + 1, none⟩) := by simp [rowP]
  rw [e]
  unfold numAt
  rw [h3, h4]
def flagM : Value → Nat
  | .bool false => 1
  | _ => 0
def turnM (v : Value) (w : World) (g n : Nat) : Nat := 2 * inv (rowP w g n) + flagM v
/-- the tree, its neighbourhood and its nodes -/
structure TuW (B U gh : Nat) (st : Int) (n c : Nat) (ps : List (Int × Int)) (An : Option Addr) (cn : Nat) (os : List Hd) (ns : List Nd) (w : World) : Prop where
  blk : Blk w U 25 #[.int .i64 st, .slice (some ⟨gh, 0, none⟩) n c, .slice An os.length cn]
  hood : OwnP 49 w B (.slice (some ⟨gh, 0, none⟩) n c) ps
  len : ps.length = n
  nds : OwnNA w B (.slice An os.length cn) os
  eq : os.map Hd.nd = ns
section
variable {B U gh : Nat} {st : Int} {n c : Nat} {ps : List (Int × Int)} {An : Option Addr} {cn : Nat} {os : List Hd} {ns : List Nd} {w w' : World}
theorem TuW.ext (h : TuW B U gh st n c ps An cn os ns w) (hb : Below w.heap.size w w') : TuW B U gh st n c ps An cn os ns w' := ⟨h.blk.below hb h.blk.lt, h.hood.ext hb, h.len, h.nds.ext hb, h.eq⟩
theorem TuW.gh_lt (h : TuW B U gh st n c ps An cn os ns w) : B ≤ gh ∧ gh < w.heap.size := by
  have := own_lt' h.hood (g := gh) rfl
  exact ⟨this.2, this.1⟩
/-- a point is stored -/
theorem TuW.setP (h : TuW B U gh st n c ps An cn os ns w) {j : Nat} (hj : j < n) (x y : Int) :
    TuW B U gh st n c (ps.set j (x, y)) An cn os ns ((w.setCell ⟨gh, j * 2, none⟩ (.int .i64 x)).setCell ⟨gh, j * 2 + 1, none⟩ (.int .i64 y)) := by
  have hk : Kept (fun g => g = gh) w ((w.setCell ⟨gh, j * 2, none⟩ (.int .i64 x)).setCell ⟨gh, j * 2 + 1, none⟩ (.int .i64 y)) := ((Kept.refl (fun g => g = gh) w).setCell (p := ⟨gh, j * 2, none⟩) (Or.inl rfl) _).setCell (p := ⟨gh, j * 2 + 1, none⟩) (Or.inl rfl) _
  exact ⟨hk.blk h.blk (fun e => own_blk_ne' h.hood h.blk (by decide) (by rw [e]; rfl)), h.hood.setP h.len.symm (by rw [h.len]; exact hj) x y, by rw [List.length_set]; exact h.len,
    h.nds.kept hk (fun g e1 e2 => by subst e2; exact own_ne h.hood h.nds.1 (by decide) rfl e1) (fun z hz g e1 e2 => by subst e2; exact own_ne h.hood (h.nds.2 z hz) (by decide) rfl e1), h.eq⟩
/-- the tree is stored, with other nodes -/
theorem TuW.setT (h : TuW B U gh st n c ps An cn os ns w) {An' : Option Addr} {cn' : Nat} {os' : List Hd} (ho : OwnNA w B (.slice An' os'.length cn') os') :
    TuW B U gh st n c ps An' cn' os' (os'.map Hd.nd) (((w.setCell ⟨U, 0, none⟩ (.int .i64 st)).setCell ⟨U, 1, none⟩ (.slice (some ⟨gh, 0, none⟩) n c)).setCell ⟨U, 2, none⟩ (.slice An' os'.length cn')) := by
  have hk : Kept (fun g => g = U) w (((w.setCell ⟨U, 0, none⟩ (.int .i64 st)).setCell ⟨U, 1, none⟩ (.slice (some ⟨gh, 0, none⟩) n c)).setCell ⟨U, 2, none⟩ (.slice An' os'.length cn')) :=
    (((Kept.refl (fun g => g = U) w).setCell (p := ⟨U, 0, none⟩) (Or.inl rfl) _).setCell (p := ⟨U, 1, none⟩) (Or.inl rfl) _).setCell (p := ⟨U, 2, none⟩) (Or.inl rfl) _
  exact ⟨((h.blk.set_ 0 (.int .i64 st)).set_ 1 (.slice (some ⟨gh, 0, none⟩) n c)).set_ 2 (.slice An' os'.length cn'), hk.own h.hood (fun g e1 e2 => by subst e2; exact own_blk_ne' h.hood h.blk (by decide) e1), h.len,
    ho.kept hk (fun g e1 e2 => by subst e2; exact own_blk_ne' ho.1 h.blk (by decide) e1) (fun z hz g e1 e2 => by subst e2; exact own_blk_ne' (ho.2 z hz) h.blk (by decide) e1), rfl⟩
end
/-- the images, behind m points -/
def imgTo (k : Int) (ps : List (Int × Int)) (m : Nat) : List (Int × Int) := (ps.take m).map (symP k) ++ ps.drop m
section
variable {k : Int} {ps : List (Int × Int)} {m : Nat}
theorem imgTo_zero : imgTo k ps 0 = ps := by simp [imgTo]
theorem imgTo_full : imgTo k ps ps.length = ps.map (symP k) := by simp [imgTo]
theorem imgTo_len : (imgTo k ps m).length = ps.length := by unfold imgTo; simp; omega
theorem imgTo_at (h : m < ps.length) : (imgTo k ps m)[m]'(by rw [imgTo_len]; exact h) = ps[m] := by
  unfold imgTo
  rw [List.getElem_append_right (by simp; omega)]
  simp [Nat.min_eq_left (Nat.le_of_lt h)]
theorem imgTo_set (h : m < ps.length) : (imgTo k ps m).set m (symP k ps[m]) = imgTo k ps (m + 1) := by
  unfold imgTo
  rw [List.set_append_right _ _ (by simp; omega)]
  have e : m - ((ps.take m).map (symP k)).length = 0 := by simp; omega
  rw [e, List.drop_eq_getElem_cons h, List.set_cons_zero, List.take_succ_eq_append_getElem h, List.map_append, List.append_assoc]
  rfl
end
theorem hood_rng {ps : List (Int × Int)} (h : hoodB ps = true) : ∀ p ∈ ps, (-2 ≤ p.1 ∧ p.1 ≤ 2) ∧ (-2 ≤ p.2 ∧ p.2 ≤ 2) := by
  have key : ∀ (l : List (Int × Int)) (q : Option (Int × Int)), chainH q l = true → ∀ p ∈ l, rngB p = true := by
    intro l
    induction l with
    | nil => intro q _ p hp; cases hp
    | cons a l ih =>
      intro q h p hp
      simp only [chainH, okH, Bool.and_eq_true] at h
      rcases List.mem_cons.1 hp with e | hp
      · subst e; exact h.1.1
      · exact ih _ h.2 p hp
  unfold hoodB at h
  rw [Bool.and_eq_true] at h
  intro p hp
  have := key ps none h.2 p hp
  simp only [rngB, Bool.and_eq_true, decide_eq_true_eq] at this
  omega
/-- what Turn hands back -/
def TurnOk (k : Int) (t : PT) (te : PT × Int) : Prop :=
  (t.right = false ∧ te = (PT.zero, 11)) ∨ (t.right = true ∧ ∃ u, TI k t u ∧ u.ps.Pairwise leP ∧ te = if 4096 < u.ns.length then (PT.zero, 6) else (u, 0))
theorem TurnOk.uniq {k : Int} {t : PT} {te te' : PT × Int} (h : TurnOk k t te) (h' : TurnOk k t te') : te = te' := by
  rcases h with ⟨h1, h2⟩ | ⟨h1, u, h2, h3, h4⟩
  · rcases h' with ⟨h5, h6⟩ | ⟨h5, -⟩
    · rw [h2, h6]
    · rw [h1] at h5; cases h5
  · rcases h' with ⟨h5, -⟩ | ⟨h5, u', h6, h7, h8⟩
    · rw [h1] at h5; cases h5
    · have := h2.uniq h6 h1 h3 h7
      subst this
      rw [h4, h8]
end Go.Proofs.YtojnnfihpiegoaaDoor
