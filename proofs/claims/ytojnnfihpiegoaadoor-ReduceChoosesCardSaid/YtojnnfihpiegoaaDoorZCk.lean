/-
  The product of trees, the first of which selects one of the others: what chooser.product computes, in plain lists. No condition.
  Trees in a slice; what chooser.product holds in memory. No condition.
-/
import Derived.Test.YtojnnfihpiegoaaDoorZCj
namespace Go.Proofs.YtojnnfihpiegoaaDoor
set_option linter.unusedSimpArgs false
set_option linter.unusedVariables false

/-- the nodes, and the numbers of what was made -/
abbrev CS := List Nd × List (Nd × Nat)
def look : List (Nd × Nat) → Nd → Option Nat
  | [], _ => none
  | (y, k) :: r, x => if y = x then some k else look r x
theorem look_snoc : ∀ (m : List (Nd × Nat)) (x y : Nd) (k : Nat), look (m ++ [(y, k)]) x = (look m x).or (if y = x then some k else none)
  | [], x, y, k => by simp [look]
  | (z, j) :: r, x, y, k => by
    simp only [List.cons_append, look, look_snoc r x y k]
    split
    · rfl
    · rfl
theorem look_mem : ∀ {m : List (Nd × Nat)} {x : Nd} {k : Nat}, look m x = some k → (x, k) ∈ m
  | (y, j) :: r, x, k, h => by
    unfold look at h
    split at h
    · rename_i e
      injection h with h
      rw [e, h]
      simp
    · exact List.mem_cons_of_mem _ (look_mem h)
theorem look_none : ∀ {m : List (Nd × Nat)} {x : Nd}, look m x = none → ∀ k, (x, k) ∉ m
  | [], x, _, k => by simp
  | (y, j) :: r, x, h, k => by
    unfold look at h
    split at h
    · cases h
    · rename_i e
      simp only [List.mem_cons, not_or]
      exact ⟨fun he => e (by injection he with h1 h2; exact h1.symm), look_none h k⟩
def kidsC (T : List (List Nd)) (ids : List Int) (j : Nat) : List Int := (T.zip ids).map fun p => (ndAt p.1 p.2.toNat).2.getD j 0
def pickC (ids : List Int) : Int := ids.getD (1 + ids.getD 0 0).toNat 0
def kidsF (r : List Int → CS → Option (Int × CS)) (T : List (List Nd)) (ids : List Int) : Nat → CS → Option (List Int × CS)
  | 0, s => some ([], s)
  | j + 1, s => match kidsF r T ids j s with
    | none => none
    | some (nx, s') => match r (kidsC T ids j) s' with
      | none => none
      | some (v, s'') => some (nx ++ [v], s'')
def prodC (T : List (List Nd)) (q : Nat) : Nat → List Int → CS → Option (Int × CS)
  | 0, ids, s => some (pickC ids, s)
  | L + 1, ids, s => match look s.2 (((L + 1 : Nat) : Int), ids) with
    | some k => some ((k : Int), s)
    | none => match kidsF (prodC T q L) T ids q s with
      | none => none
      | some (nx, s') => if (addN s'.1 (((L + 1 : Nat) : Int), nx)).2.length ≤ 4096 then some (((addN s'.1 (((L + 1 : Nat) : Int), nx)).1 : Int), ((addN s'.1 (((L + 1 : Nat) : Int), nx)).2, s'.2 ++ [((((L + 1 : Nat) : Int), ids), (addN s'.1 (((L + 1 : Nat) : Int), nx)).1)])) else none
/-- the trees -/
def TV (q : Nat) (T : List (List Nd)) : Prop := T.length = q + 1 ∧ ∀ i, i < T.length → VNd q (T.getD i [])
/-- a node of each tree, of one level -/
def okC (T : List (List Nd)) (q L : Nat) (ids : List Int) : Prop :=
  ids.length = T.length ∧ ∀ i, i < T.length → 0 ≤ ids.getD i 0 ∧ (L = 0 → ids.getD i 0 < (q : Int)) ∧ (1 ≤ L → (ids.getD i 0).toNat < (T.getD i []).length ∧ (ndAt (T.getD i []) (ids.getD i 0).toNat).1 = (L : Int))
def valC (T : List (List Nd)) (ids : List Int) (ins : List Nat) : Int := pickC ((T.zip ids).map fun p => val p.1 p.2 ins)
theorem kidsC_len (T : List (List Nd)) (ids : List Int) (j : Nat) (h : ids.length = T.length) : (kidsC T ids j).length = T.length := by
  unfold kidsC
  rw [List.length_map, List.length_zip, h, Nat.min_self]
theorem kidsC_at {T : List (List Nd)} {ids : List Int} (h : ids.length = T.length) (j : Nat) {i : Nat} (hi : i < T.length) : (kidsC T ids j).getD i 0 = (ndAt (T.getD i []) (ids.getD i 0).toNat).2.getD j 0 := by
  unfold kidsC
  rw [List.getD_eq_getElem?_getD, List.getElem?_map, List.getElem?_eq_getElem (by rw [List.length_zip]; omega), List.getElem_zip]
  rw [List.getD_eq_getElem?_getD (l := T), List.getElem?_eq_getElem hi, List.getD_eq_getElem?_getD (l := ids), List.getElem?_eq_getElem (by omega)]
  rfl
theorem okC.kids {T : List (List Nd)} {q L : Nat} {ids : List Int} (hT : TV q T) (h : okC T q (L + 1) ids) {j : Nat} (hj : j < q) : okC T q L (kidsC T ids j) := by
  refine ⟨kidsC_len T ids j h.1, fun i hi => ?_⟩
  rw [kidsC_at h.1 j hi]
  obtain ⟨h1, -, h3⟩ := h.2 i hi
  obtain ⟨h4, h5⟩ := h3 (by omega)
  have hv := hT.2 i hi
  have hl := hv.lev.len _ h4
  have hm : (ndAt (T.getD i []) (ids.getD i 0).toNat).2.getD j 0 ∈ (ndAt (T.getD i []) (ids.getD i 0).toNat).2 := getD_mem (by omega)
  rcases Nat.eq_zero_or_pos L with hL | hL
  · subst hL
    obtain ⟨p1, p2⟩ := hv.low _ h4 (by rw [h5]; rfl) _ hm
    exact ⟨p1, fun _ => p2, fun h => absurd h (by omega)⟩
  · obtain ⟨p1, p2, p3⟩ := hv.lev.kids _ h4 (by rw [h5]; omega) _ hm
    exact ⟨p1, fun h => absurd h (by omega), fun _ => ⟨p2, by rw [p3, h5]; omega⟩⟩
theorem valC_cons (T : List (List Nd)) (ids : List Int) (s : Nat) (r : List Nat) : valC T ids (s :: r) = valC T (kidsC T ids s) r := by
  have : ∀ (T : List (List Nd)) (ids : List Int), (T.zip ids).map (fun p => val p.1 p.2 (s :: r)) = (T.zip (kidsC T ids s)).map (fun p => val p.1 p.2 r) := by
    intro T
    induction T with
    | nil => intro ids; rfl
    | cons t T ih =>
      intro ids
      cases ids with
      | nil => rfl
      | cons k ids =>
        have e : kidsC (t :: T) (k :: ids) s = (ndAt t k.toNat).2.getD s 0 :: kidsC T ids s := rfl
        rw [e, List.zip_cons_cons, List.zip_cons_cons, List.map_cons, List.map_cons, ih ids]
        rfl
  unfold valC
  rw [this]
theorem valC_nil {T : List (List Nd)} {ids : List Int} (h : ids.length = T.length) : valC T ids [] = pickC ids := by
  have : ∀ (T : List (List Nd)) (ids : List Int), ids.length = T.length → (T.zip ids).map (fun p => val p.1 p.2 []) = ids := by
    intro T
    induction T with
    | nil => intro ids h; rw [List.eq_nil_of_length_eq_zero h]; rfl
    | cons t T ih =>
      intro ids h
      cases ids with
      | nil => simp at h
      | cons k ids =>
        rw [List.zip_cons_cons, List.map_cons, ih ids (by simpa using h)]
        rfl
  unfold valC
  rw [this T ids h]
theorem pickC_ok {T : List (List Nd)} {q : Nat} {ids : List Int} (hT : TV q T) (h : okC T q 0 ids) : 0 ≤ pickC ids ∧ pickC ids < (q : Int) ∧ 0 ≤ ids.getD 0 0 ∧ ids.getD 0 0 < (q : Int) := by
  have hl := hT.1
  obtain ⟨h1, h2, -⟩ := h.2 0 (by omega)
  have h2 := h2 rfl
  obtain ⟨h3, h4, -⟩ := h.2 (1 + ids.getD 0 0).toNat (by omega)
  exact ⟨h3, h4 rfl, h1, h2⟩
/-- what holds of what was made; R: what may come up -/
structure CInv (T : List (List Nd)) (q : Nat) (R : Nat → List Int → Prop) (s : CS) : Prop where
  v : VNd q s.1
  dis : Dis s.1 (· < s.1.length)
  le : s.1.length ≤ 4096
  memo : ∀ x k, look s.2 x = some k → k < s.1.length ∧ (ndAt s.1 k).1 = x.1 ∧ ∀ ins : List Nat, (ins.length : Int) = x.1 → (∀ t ∈ ins, t < q) → val s.1 (k : Int) ins = valC T x.2 ins
  all : ∀ i, i < s.1.length → ∃ ids, R (ndAt s.1 i).1.toNat ids ∧ ∀ ins : List Nat, (ins.length : Int) = (ndAt s.1 i).1 → (∀ t ∈ ins, t < q) → val s.1 (i : Int) ins = valC T ids ins
  keys : ∀ x k, (x, k) ∈ s.2 → 1 ≤ x.1 ∧ okC T q x.1.toNat x.2
  nod : (s.2.map Prod.fst).Nodup
theorem CInv.start (T : List (List Nd)) (q : Nat) (R : Nat → List Int → Prop) : CInv T q R ([], []) := by
  refine ⟨⟨⟨fun i h => h, ?_, ?_, ?_⟩, ?_, ?_⟩, ?_, by simp, fun x k h => (by cases h), fun i h => absurd h (Nat.not_lt_zero _), fun x k h => absurd h (by simp), by simp⟩
  all_goals intro i h
  all_goals first | exact absurd h (Nat.not_lt_zero _) | (intro h2; exact absurd h2 (Nat.not_lt_zero _))
/-- too many different nodes, each of which comes up -/
def Many (T : List (List Nd)) (q : Nat) (R : Nat → List Int → Prop) : Prop :=
  ∃ ns : List Nd, 4096 < ns.length ∧ VNd q ns ∧ Dis ns (· < ns.length) ∧ ∀ i, i < ns.length → ∃ ids, R (ndAt ns i).1.toNat ids ∧ ∀ ins : List Nat, (ins.length : Int) = (ndAt ns i).1 → (∀ t ∈ ins, t < q) → val ns (i : Int) ins = valC T ids ins
/-- a node more, if it is not there -/
theorem addN_ok {q : Nat} {ns : List Nd} {lv : Int} {nx : List Int} (hv : VNd q ns) (hd : Dis ns (· < ns.length)) (hlv : 1 ≤ lv) (hl : nx.length = q) (h1 : lv = 1 → ∀ z ∈ nx, 0 ≤ z ∧ z < (q : Int))
    (h2 : 1 < lv → ∀ z ∈ nx, 0 ≤ z ∧ z.toNat < ns.length ∧ (ndAt ns z.toNat).1 = lv - 1) :
    VNd q (addN ns (lv, nx)).2 ∧ Dis (addN ns (lv, nx)).2 (· < (addN ns (lv, nx)).2.length) ∧ (addN ns (lv, nx)).1 < (addN ns (lv, nx)).2.length ∧ ndAt (addN ns (lv, nx)).2 (addN ns (lv, nx)).1 = (lv, nx) ∧ (∃ ys, (addN ns (lv, nx)).2 = ns ++ ys) ∧
      (addN ns (lv, nx)).2.length ≤ ns.length + 1 ∧ (∀ i, i < (addN ns (lv, nx)).2.length → i < ns.length ∨ i = (addN ns (lv, nx)).1) := by
  rcases addN_cases ns (lv, nx) with ⟨i, ha, hil, hin⟩ | ⟨ha, hnot⟩
  · rw [ha]
    exact ⟨hv, hd, hil, hin, ⟨[], by simp⟩, by dsimp only; omega, fun i hi => .inl hi⟩
  · rw [ha]
    have hlen : (ns ++ [(lv, nx)]).length = ns.length + 1 := by simp
    have hcase : ∀ i, i < (ns ++ [(lv, nx)]).length → (i < ns.length ∧ ndAt (ns ++ [(lv, nx)]) i = ndAt ns i) ∨ (i = ns.length ∧ ndAt (ns ++ [(lv, nx)]) i = (lv, nx)) := by
      intro i hi'
      rcases Nat.lt_or_ge i ns.length with h1 | h1
      · exact .inl ⟨h1, ndAt_app_lt h1 _⟩
      · obtain rfl : i = ns.length := by omega
        exact .inr ⟨rfl, ndAt_app_len _ _⟩
    refine ⟨⟨⟨fun i h => h, fun i hi' => ?_, fun i hi' => ?_, fun i hi' hl z hz => ?_⟩, fun i hi' hl z hz => ?_, fun i hi' hl z hz => ?_⟩, fun i j hi' hj' he => ?_, by dsimp only; omega, ndAt_app_len _ _, ⟨_, rfl⟩, by dsimp only; omega, fun i hi => ?_⟩
    · rcases hcase i hi' with ⟨h1, e⟩ | ⟨h1, e⟩ <;> dsimp only at * <;> rw [e]
      · exact hv.lev.len i h1
      · exact hl
    · rcases hcase i hi' with ⟨h1, e⟩ | ⟨h1, e⟩ <;> dsimp only at * <;> rw [e]
      · exact hv.lev.one i h1
      · exact hlv
    · rcases hcase i hi' with ⟨h3, e⟩ | ⟨h3, e⟩ <;> dsimp only at * <;> rw [e] at hl hz ⊢
      · obtain ⟨p1, p2, p3⟩ := hv.lev.kids i h3 hl z hz
        exact ⟨p1, by omega, by rw [ndAt_app_lt p2]; exact p3⟩
      · obtain ⟨p1, p2, p3⟩ := h2 hl z hz
        exact ⟨p1, by omega, by rw [ndAt_app_lt p2]; exact p3⟩
    · rcases hcase i hi' with ⟨h3, e⟩ | ⟨h3, e⟩ <;> dsimp only at * <;> rw [e] at hl hz
      · exact hv.ordk i h3 hl z hz
      · obtain ⟨p1, p2, p3⟩ := h2 hl z hz
        omega
    · rcases hcase i hi' with ⟨h3, e⟩ | ⟨h3, e⟩ <;> dsimp only at * <;> rw [e] at hl hz
      · exact hv.low i h3 hl z hz
      · exact h1 hl z hz
    · dsimp only at *
      rcases hcase i hi' with ⟨h1, e⟩ | ⟨h1, e⟩ <;> rcases hcase j hj' with ⟨h2, e2⟩ | ⟨h2, e2⟩ <;> rw [e, e2] at he
      · exact hd i j h1 h2 he
      · exact absurd (by rw [← he]; exact mem_of_ndAt h1) hnot
      · exact absurd (by rw [he]; exact mem_of_ndAt h2) hnot
      · omega
    · rcases hcase i hi with ⟨h1, -⟩ | ⟨h1, -⟩
      · exact .inl h1
      · exact .inr h1
/-- what a call yields -/
def CPost (T : List (List Nd)) (q : Nat) (R : Nat → List Int → Prop) (L : Nat) (ids : List Int) (s : CS) : Option (Int × CS) → Prop
  | none => Many T q R
  | some (k, s') => CInv T q R s' ∧ (∃ ys, s'.1 = s.1 ++ ys) ∧ 0 ≤ k ∧ (L = 0 → k < (q : Int)) ∧ (1 ≤ L → k.toNat < s'.1.length ∧ (ndAt s'.1 k.toNat).1 = (L : Int)) ∧ (∀ ins : List Nat, ins.length = L → (∀ t ∈ ins, t < q) → val s'.1 k ins = valC T ids ins) ∧ ∀ x j, (x, j) ∈ s'.2 → (x, j) ∈ s.2 ∨ x.1 ≤ (L : Int)
def KPost (T : List (List Nd)) (q : Nat) (R : Nat → List Int → Prop) (L : Nat) (ids : List Int) (s : CS) (m : Nat) : Option (List Int × CS) → Prop
  | none => Many T q R
  | some (nx, s') => CInv T q R s' ∧ (∃ ys, s'.1 = s.1 ++ ys) ∧ nx.length = m ∧ (∀ x j, (x, j) ∈ s'.2 → (x, j) ∈ s.2 ∨ x.1 ≤ (L : Int)) ∧ ∀ j, j < m → 0 ≤ nx.getD j 0 ∧ (L = 0 → nx.getD j 0 < (q : Int)) ∧ (1 ≤ L → (nx.getD j 0).toNat < s'.1.length ∧ (ndAt s'.1 (nx.getD j 0).toNat).1 = (L : Int)) ∧
      ∀ ins : List Nat, ins.length = L → (∀ t ∈ ins, t < q) → val s'.1 (nx.getD j 0) ins = valC T (kidsC T ids j) ins
theorem val_grow {q : Nat} {A : List Nd} (hA : Lev q A (· < A.length)) (ys : List Nd) {L : Nat} {k : Int} (h0 : 0 ≤ k) (h1 : 1 ≤ L → k.toNat < A.length ∧ (ndAt A k.toNat).1 = (L : Int)) {ins : List Nat} (hl : ins.length = L) (hq : ∀ t ∈ ins, t < q) : val (A ++ ys) k ins = val A k ins := by
  rcases Nat.eq_zero_or_pos L with hL | hL
  · have : ins = [] := List.eq_nil_of_length_eq_zero (by omega)
    subst this
    rfl
  · obtain ⟨h2, h3⟩ := h1 hL
    have := (Eqv.app hA ys (ndAt A k.toNat).1.toNat k.toNat (by rw [h3]; omega) h2).2 ins (by rw [ndAt_app_lt h2, h3, hl]) hq
    rw [toNat_cast h0] at this
    exact this
theorem kidsF_ok {T : List (List Nd)} {q : Nat} {R : Nat → List Int → Prop} (hT : TV q T) (hR : ∀ L ids j, R (L + 1) ids → j < q → R L (kidsC T ids j)) {L : Nat}
    (ih : ∀ ids s, CInv T q R s → okC T q L ids → R L ids → CPost T q R L ids s (prodC T q L ids s)) {ids : List Int} (hi : okC T q (L + 1) ids) (hr : R (L + 1) ids) {s : CS} (hs : CInv T q R s) :
    ∀ m, m ≤ q → KPost T q R L ids s m (kidsF (prodC T q L) T ids m s)
  | 0, _ => ⟨hs, ⟨[], by simp⟩, rfl, fun x j h => .inl h, fun j hj => absurd hj (by omega)⟩
  | m + 1, hm => by
    have h1 := kidsF_ok hT hR ih hi hr hs m (by omega)
    unfold kidsF
    cases hk : kidsF (prodC T q L) T ids m s with
    | none => rw [hk] at h1; exact h1
    | some p =>
      obtain ⟨nx, s1⟩ := p
      rw [hk] at h1
      obtain ⟨a1, ⟨ys, a2⟩, a3, a5, a4⟩ := h1
      dsimp only
      have h2 := ih (kidsC T ids m) s1 a1 (hi.kids hT (by omega)) (hR _ _ _ hr (by omega))
      cases hp : prodC T q L (kidsC T ids m) s1 with
      | none => rw [hp] at h2; exact h2
      | some p =>
        obtain ⟨v, s2⟩ := p
        rw [hp] at h2
        obtain ⟨b1, ⟨zs, b2⟩, b3, b4, b5, b6, b7⟩ := h2
        dsimp only
        refine ⟨b1, ⟨ys ++ zs, by rw [b2, a2, List.append_assoc]⟩, by simp [a3], fun x j h => (b7 x j h).elim (fun h => a5 x j h) (fun h => .inr h), fun j hj => ?_⟩
        rcases Nat.lt_or_ge j m with h3 | h3
        · have e : (nx ++ [v]).getD j 0 = nx.getD j 0 := by
            rw [List.getD_eq_getElem?_getD, List.getElem?_append_left (by omega), ← List.getD_eq_getElem?_getD]
          rw [e]
          obtain ⟨c1, c2, c3, c4⟩ := a4 j h3
          refine ⟨c1, c2, fun h => ?_, fun ins hl hq => ?_⟩
          · obtain ⟨d1, d2⟩ := c3 h
            rw [b2]
            exact ⟨by rw [List.length_append]; omega, by rw [ndAt_app_lt d1]; exact d2⟩
          · rw [b2, val_grow a1.v.lev zs c1 c3 hl hq]
            exact c4 ins hl hq
        · obtain rfl : j = m := by omega
          have e : (nx ++ [v]).getD j 0 = v := by
            rw [List.getD_eq_getElem?_getD, List.getElem?_append_right (by omega), a3, Nat.sub_self]
            rfl
          rw [e]
          exact ⟨b3, b4, b5, b6⟩
theorem prodC_ok {T : List (List Nd)} {q : Nat} {R : Nat → List Int → Prop} (hT : TV q T) (hR : ∀ L ids j, R (L + 1) ids → j < q → R L (kidsC T ids j)) :
    ∀ L ids s, CInv T q R s → okC T q L ids → R L ids → CPost T q R L ids s (prodC T q L ids s)
  | 0, ids, s, hs, hi, hr => by
    obtain ⟨p1, p2, -, -⟩ := pickC_ok hT hi
    refine ⟨hs, ⟨[], by simp⟩, p1, fun _ => p2, fun h => absurd h (by omega), fun ins hl _ => ?_, fun x j h => .inl h⟩
    have : ins = [] := List.eq_nil_of_length_eq_zero hl
    subst this
    rw [valC_nil hi.1]
    rfl
  | L + 1, ids, s, hs, hi, hr => by
    unfold prodC
    cases hlk : look s.2 (((L + 1 : Nat) : Int), ids) with
    | some k =>
      dsimp only
      obtain ⟨m1, m2, m3⟩ := hs.memo _ _ hlk
      refine ⟨hs, ⟨[], by simp⟩, by omega, fun h => absurd h (by omega), fun _ => ⟨by simpa using m1, by rw [Int.toNat_natCast]; exact m2⟩, fun ins hl hq => m3 ins (by dsimp only; omega) hq, fun x j h => .inl h⟩
    | none =>
      dsimp only
      have h1 := kidsF_ok hT hR (prodC_ok hT hR L) hi hr hs q (Nat.le_refl _)
      cases hk : kidsF (prodC T q L) T ids q s with
      | none => rw [hk] at h1; exact h1
      | some p =>
        obtain ⟨nx, s1⟩ := p
        rw [hk] at h1
        obtain ⟨a1, ⟨ys, a2⟩, a3, a5, a4⟩ := h1
        dsimp only
        have hmem : ∀ z ∈ nx, ∃ j, j < q ∧ z = nx.getD j 0 := by
          intro z hz
          obtain ⟨j, hj, e⟩ := List.getElem_of_mem hz
          exact ⟨j, by omega, by rw [List.getD_eq_getElem?_getD, List.getElem?_eq_getElem hj, ← e]; rfl⟩
        obtain ⟨n1, n2, n3, n4, ⟨zs, n5⟩, n6, n7⟩ := addN_ok (lv := ((L + 1 : Nat) : Int)) (nx := nx) a1.v a1.dis (by omega) a3
          (fun h z hz => by
            obtain ⟨j, hj, rfl⟩ := hmem z hz
            obtain ⟨c1, c2, -⟩ := a4 j hj
            exact ⟨c1, c2 (by omega)⟩)
          (fun h z hz => by
            obtain ⟨j, hj, rfl⟩ := hmem z hz
            obtain ⟨c1, -, c3, -⟩ := a4 j hj
            obtain ⟨d1, d2⟩ := c3 (by omega)
            exact ⟨c1, d1, by rw [d2]; omega⟩)
        obtain ⟨ad, had⟩ : ∃ ad, ad = addN s1.1 (((L + 1 : Nat) : Int), nx) := ⟨_, rfl⟩
        rw [← had] at n1 n2 n3 n4 n5 n6 n7 ⊢
        -- the new node's value
        have hval : ∀ ins : List Nat, (ins.length : Int) = ((L + 1 : Nat) : Int) → (∀ t ∈ ins, t < q) → val ad.2 (ad.1 : Int) ins = valC T ids ins := by
          intro ins hl hq
          cases ins with
          | nil => simp at hl; omega
          | cons t r =>
            have ht : t < q := hq t (by simp)
            simp only [val, Int.toNat_natCast, n4]
            obtain ⟨c1, c2, c3, c4⟩ := a4 t ht
            have hrl : r.length = L := by simp at hl; omega
            rw [n5, val_grow a1.v.lev zs c1 c3 hrl (fun u hu => hq u (by simp [hu])), c4 r hrl (fun u hu => hq u (by simp [hu])), valC_cons]
        have hall : ∀ i, i < ad.2.length → ∃ ids, R (ndAt ad.2 i).1.toNat ids ∧ ∀ ins : List Nat, (ins.length : Int) = (ndAt ad.2 i).1 → (∀ t ∈ ins, t < q) → val ad.2 (i : Int) ins = valC T ids ins := by
          intro i hi'
          rcases n7 i hi' with h | h
          · obtain ⟨ids', r1, r2⟩ := a1.all i h
            refine ⟨ids', by rw [n5, ndAt_app_lt h]; exact r1, fun ins hl hq => ?_⟩
            have := (Eqv.app a1.v.lev zs (ndAt s1.1 i).1.toNat i (by have := a1.v.lev.one i h; omega) h).2 ins (by rw [← n5]; exact hl) hq
            rw [n5, this]
            exact r2 ins (by rw [hl, n5, ndAt_app_lt h]) hq
          · subst h
            exact ⟨ids, by rw [n4, Int.toNat_natCast]; exact hr, fun ins hl hq => hval ins (by rw [hl, n4]) hq⟩
        by_cases hle : ad.2.length ≤ 4096
        · rw [if_pos hle]
          refine ⟨⟨n1, n2, hle, fun x k h => ?_, hall, fun x k h => ?_, ?_⟩, ⟨ys ++ zs, by dsimp only; rw [n5, a2, List.append_assoc]⟩, by omega, fun h => absurd h (by omega), fun _ => ⟨by simpa using n3, by rw [Int.toNat_natCast]; dsimp only; rw [n4]⟩, fun ins hl hq => hval ins (by omega) hq, fun x j h => ?_⟩
          · dsimp only at h ⊢
            rw [look_snoc] at h
            cases hx : look s1.2 x with
            | some k' =>
              rw [hx] at h
              injection h with h
              subst h
              obtain ⟨m1, m2, m3⟩ := a1.memo x k' hx
              refine ⟨by rw [n5, List.length_append]; omega, by rw [n5, ndAt_app_lt m1]; exact m2, fun ins hl hq => ?_⟩
              have := (Eqv.app a1.v.lev zs (ndAt s1.1 k').1.toNat k' (by have := a1.v.lev.one k' m1; omega) m1).2 ins (by rw [ndAt_app_lt m1, m2]; exact hl) hq
              rw [n5, this]
              exact m3 ins hl hq
            | none =>
              rw [hx] at h
              simp only [Option.none_or] at h
              split at h
              · rename_i e
                injection h with h
                subst h
                subst e
                exact ⟨n3, by rw [n4], fun ins hl hq => hval ins hl hq⟩
              · cases h
          · dsimp only at h
            rcases List.mem_append.1 h with h | h
            · exact a1.keys x k h
            · rw [List.mem_singleton] at h
              injection h with h1 h2
              subst h1
              exact ⟨by dsimp only; omega, by dsimp only; rw [Int.toNat_natCast]; exact hi⟩
          · dsimp only
            rw [List.map_append, List.map_cons, List.map_nil]
            refine List.nodup_append.2 ⟨a1.nod, by simp, fun x hx y hy => ?_⟩
            rw [List.mem_singleton] at hy
            subst hy
            rintro rfl
            obtain ⟨⟨x', k'⟩, hx1, hx2⟩ := List.mem_map.1 hx
            dsimp only at hx2
            subst hx2
            rcases a5 _ _ hx1 with h | h
            · exact look_none hlk k' h
            · dsimp only at h
              omega
          · dsimp only at h
            rcases List.mem_append.1 h with h | h
            · rcases a5 x j h with h | h
              · exact .inl h
              · exact .inr (by omega)
            · rw [List.mem_singleton] at h
              injection h with h1 h2
              subst h1
              exact .inr (Int.le_refl _)
        · rw [if_neg hle]
          exact ⟨ad.2, by omega, n1, n2, hall⟩
/-- different numbers below N are at most N -/
theorem pigeon : ∀ (N : Nat) (l : List Nat), l.Nodup → (∀ x ∈ l, x < N) → l.length ≤ N
  | 0, l, _, h => by
    cases l with
    | nil => simp
    | cons x r => exact absurd (h x (by simp)) (by omega)
  | N + 1, l, hn, h => by
    have h1 := pigeon N (l.erase N) (hn.erase N) (fun x hx => by
      have h2 := h x (List.mem_of_mem_erase hx)
      have : x ≠ N := by
        rintro rfl
        exact (List.Nodup.not_mem_erase hn) hx
      omega)
    have h3 : l.length ≤ (l.erase N).length + 1 := by
      rw [List.length_erase]
      split <;> omega
    omega
theorem nodup_map {α β : Type} {f : α → β} : ∀ {l : List α}, l.Nodup → (∀ x ∈ l, ∀ y ∈ l, f x = f y → x = y) → (l.map f).Nodup
  | [], _, _ => by simp
  | x :: r, hn, h => by
    rw [List.nodup_cons] at hn
    rw [List.map_cons, List.nodup_cons]
    refine ⟨fun hm => ?_, nodup_map hn.2 fun a ha b hb => h a (by simp [ha]) b (by simp [hb])⟩
    obtain ⟨y, hy, e⟩ := List.mem_map.1 hm
    have := h y (by simp [hy]) x (by simp) e
    subst this
    exact hn.1 hy
/-- a number for a row of digits -/
def mixN (b : Nat) : List Int → Nat
  | [] => 0
  | z :: r => z.toNat + b * mixN b r
theorem mixN_lt (b : Nat) : ∀ (l : List Int), (∀ z ∈ l, z.toNat < b) → mixN b l < b ^ l.length
  | [], _ => by simp [mixN]
  | z :: r, h => by
    have h1 := mixN_lt b r (fun x hx => h x (by simp [hx]))
    have h2 := h z (by simp)
    simp only [mixN, List.length_cons, Nat.pow_succ]
    calc z.toNat + b * mixN b r < b + b * mixN b r := by omega
      _ = b * (mixN b r + 1) := by rw [Nat.mul_add, Nat.mul_one, Nat.add_comm]
      _ ≤ b * b ^ r.length := Nat.mul_le_mul_left _ h1
      _ = b ^ r.length * b := Nat.mul_comm _ _
theorem mixN_inj (b : Nat) : ∀ (l m : List Int), l.length = m.length → (∀ z ∈ l, 0 ≤ z ∧ z.toNat < b) → (∀ z ∈ m, 0 ≤ z ∧ z.toNat < b) → mixN b l = mixN b m → l = m
  | [], [], _, _, _, _ => rfl
  | z :: r, y :: t, hl, h1, h2, he => by
    have a1 := h1 z (by simp)
    have a2 := h2 y (by simp)
    simp only [mixN] at he
    have e1 : z.toNat = y.toNat := by
      have h3 := congrArg (· % b) he
      simp only [Nat.add_mul_mod_self_left, Nat.mod_eq_of_lt a1.2, Nat.mod_eq_of_lt a2.2] at h3
      exact h3
    have e2 : mixN b r = mixN b t := by
      have hb : 0 < b := by omega
      have h4 : b * mixN b r = b * mixN b t := by omega
      exact Nat.eq_of_mul_eq_mul_left hb h4
    have e3 := mixN_inj b r t (by simpa using hl) (fun x hx => h1 x (by simp [hx])) (fun x hx => h2 x (by simp [hx])) e2
    have e4 : z = y := by omega
    rw [e3, e4]
/-- what was made is not more than there are rows of nodes -/
theorem CInv.memo_le {T : List (List Nd)} {q : Nat} {R : Nat → List Int → Prop} {s : CS} (h : CInv T q R s) (hT : TV q T) {b : Nat} (hb : ∀ i, i < T.length → (T.getD i []).length ≤ b) : s.2.length ≤ b ^ T.length := by
  have hz : ∀ x k, (x, k) ∈ s.2 → x.2.length = T.length ∧ ∀ z ∈ x.2, 0 ≤ z ∧ z.toNat < b := by
    intro x k hx
    obtain ⟨h1, h2, h3⟩ := h.keys x k hx
    refine ⟨h2, fun z hz => ?_⟩
    obtain ⟨i, hi, rfl⟩ := List.getElem_of_mem hz
    obtain ⟨p1, -, p3⟩ := h3 i (by omega)
    have := (p3 (by omega)).1
    have e : x.2.getD i 0 = x.2[i] := by rw [List.getD_eq_getElem?_getD, List.getElem?_eq_getElem hi]; rfl
    rw [e] at p1 this
    have := hb i (by omega)
    omega
  have hin : ∀ x ∈ s.2.map Prod.fst, ∃ k, (x, k) ∈ s.2 := by
    intro x hx
    obtain ⟨⟨x', k⟩, h1, h2⟩ := List.mem_map.1 hx
    subst h2
    exact ⟨k, h1⟩
  have hnd : ((s.2.map Prod.fst).map (fun x => mixN b x.2)).Nodup := by
    refine nodup_map h.nod fun x hx y hy he => ?_
    obtain ⟨kx, hx⟩ := hin x hx
    obtain ⟨ky, hy⟩ := hin y hy
    obtain ⟨x1, x2⟩ := hz x kx hx
    obtain ⟨y1, y2⟩ := hz y ky hy
    have e2 : x.2 = y.2 := mixN_inj b _ _ (by rw [x1, y1]) x2 y2 he
    obtain ⟨l1, l2, l3⟩ := h.keys x kx hx
    obtain ⟨m1, m2, m3⟩ := h.keys y ky hy
    have hp : 0 < T.length := by rw [hT.1]; omega
    have c1 := ((l3 0 hp).2.2 (by omega)).2
    have c2 := ((m3 0 hp).2.2 (by omega)).2
    rw [e2] at c1
    exact Prod.ext (by rw [c1] at c2; omega) e2
  have := pigeon (b ^ T.length) _ hnd (fun n hn => by
    obtain ⟨x, hx, rfl⟩ := List.mem_map.1 hn
    obtain ⟨kx, hx⟩ := hin x hx
    obtain ⟨x1, x2⟩ := hz x kx hx
    rw [← x1]
    exact mixN_lt b x.2 fun z hz => (x2 z hz).2)
  simpa using this
end Go.Proofs.YtojnnfihpiegoaaDoor
namespace Go.Proofs.YtojnnfihpiegoaaDoor
set_option linter.unusedSimpArgs false
open Go.RowKit Go.Maps
set_option maxRecDepth 100000
set_option linter.unusedVariables false

/-- a tree as it lies -/
structure TrH where
  st : Int
  hA : Option Addr
  ps : List (Int × Int)
  hc : Nat
  nA : Option Addr
  hs : List Hd
  nc : Nat
def TrH.cells (t : TrH) : List Value := [.int .i64 t.st, .slice t.hA t.ps.length t.hc, .slice t.nA t.hs.length t.nc]
def TrH.val (t : TrH) : Value := .agg #[.int .i64 t.st, .slice t.hA t.ps.length t.hc, .slice t.nA t.hs.length t.nc]
def TrH.nds (t : TrH) : List Nd := t.hs.map Hd.nd
def TrH.pt (t : TrH) : PT := ⟨t.st, t.ps, t.hs.map Hd.nd⟩
theorem tr3 : ∀ (ts : List TrH) (k : Nat) (hk : k < ts.length), (ts.flatMap TrH.cells)[3 * k]? = some (.int .i64 ts[k].st) ∧ (ts.flatMap TrH.cells)[3 * k + 1]? = some (.slice ts[k].hA ts[k].ps.length ts[k].hc) ∧
    (ts.flatMap TrH.cells)[3 * k + 2]? = some (.slice ts[k].nA ts[k].hs.length ts[k].nc)
  | p :: ps, 0, _ => by simp [TrH.cells]
  | p :: ps, k + 1, hk => by
    have h := tr3 ps k (by simpa using hk)
    have e0 : 3 * (k + 1) = (3 * k) + 1 + 1 + 1 := by omega
    have e1 : 3 * (k + 1) + 1 = (3 * k + 1) + 1 + 1 + 1 := by omega
    have e2 : 3 * (k + 1) + 2 = (3 * k + 2) + 1 + 1 + 1 := by omega
    simp only [List.flatMap_cons, TrH.cells, List.cons_append, List.nil_append, e0, e1, e2, List.getElem?_cons_succ, List.getElem_cons_succ]
    exact h
theorem tr_len : ∀ ts : List TrH, (ts.flatMap TrH.cells).length = ts.length * 3
  | [] => rfl
  | p :: r => by rw [List.flatMap_cons, List.length_append, tr_len r]; simp [TrH.cells]; omega
/-- the slice at A reads as the trees ts -/
def Trs (w : World) (A : Option Addr) (ts : List TrH) : Prop := Reads w w.heap.size 3 A ts.length (ts.flatMap TrH.cells) ∧ ts.length ≤ 9223372036854775807 ∧ ∀ t ∈ ts, Pts w t.hA t.ps ∧ Nds w t.nA t.hs
section
variable {w w' : World} {A : Option Addr} {ts : List TrH}
theorem Trs.at_ {k : Nat} (h : Trs w A ts) (hk : k < ts.length) : ∃ b o, A = some ⟨b, o, none⟩ ∧ b < w.heap.size ∧ w.cell? ⟨b, o + k * 3, none⟩ = some (.int .i64 ts[k].st) ∧ w.cell? ⟨b, o + k * 3 + 1, none⟩ = some (.slice ts[k].hA ts[k].ps.length ts[k].hc) ∧
    w.cell? ⟨b, o + k * 3 + 2, none⟩ = some (.slice ts[k].nA ts[k].hs.length ts[k].nc) ∧ Pts w ts[k].hA ts[k].ps ∧ Nds w ts[k].nA ts[k].hs := by
  obtain ⟨ad, e, hb, hc⟩ := h.1.2 (by omega)
  obtain ⟨f0, f1, f2⟩ := tr3 ts k hk
  obtain ⟨g0, -⟩ := tr3 ts 0 (by omega)
  have h0 := hc _ _ g0
  obtain ⟨b, o, sp⟩ := ad
  obtain rfl := spot_none h0
  have hx := h.2.2 _ (List.getElem_mem hk)
  refine ⟨b, o, e, hb, ?_, ?_, ?_, hx.1, hx.2⟩
  · rw [Nat.mul_comm]; have := hc _ _ f0; rwa [addr_add] at this
  · rw [Nat.mul_comm]; have := hc _ _ f1; rwa [addr_add] at this
  · rw [Nat.mul_comm]; have := hc _ _ f2; rwa [addr_add] at this
theorem Trs.le (h : Trs w A ts) : ts.length ≤ 9223372036854775807 := h.2.1
theorem Trs.ext (h : Trs w A ts) (hb : Below w.heap.size w w') : Trs w' A ts := ⟨(Reads.below h.1 hb).more hb.size, h.2.1, fun x hx => ⟨(h.2.2 x hx).1.ext hb, (h.2.2 x hx).2.ext hb⟩⟩
theorem Trs.nil : Trs w A [] := ⟨Reads.none_, by simp, fun _ h => absurd h (by simp)⟩
end
/-- the map knows what was made -/
def KnownM (D : DataW Unit) (m : List (Nd × Nat)) : Prop := IsMap D ∧ ∀ x : Nd, Maps.has D (.string (keyB x)) = (look m x).isSome ∧ ∀ i, look m x = some i → D.atKey (.string (keyB x)) (.lit (.int .i64 0)) = .lit (.int .i64 i)
theorem KnownM.nil : KnownM (.map []) [] := ⟨isMap_empty, fun x => ⟨rfl, fun i h => by cases h⟩⟩
theorem KnownM.push {D : DataW Unit} {m : List (Nd × Nat)} (h : KnownM D m) {x : Nd} (k : Nat) (hx : look m x = none) : KnownM (D.put (.string (keyB x)) (.lit (.int .i64 k))) (m ++ [(x, k)]) := by
  have hk : WideAt.IsKeyLit (.string (keyB x)) := trivial
  refine ⟨h.1.put _ _, fun y => ?_⟩
  rw [look_snoc]
  by_cases e : x = y
  · subst e
    rw [hx, if_pos rfl]
    refine ⟨has_put_same h.1 hk _, fun i hi => ?_⟩
    simp at hi
    subst hi
    exact atKey_put_same h.1 hk _ _
  · have hne : (Lit.string (keyB y)) ≠ .string (keyB x) := by
      intro he
      injection he with he
      exact e (key_inj he).symm
    rw [if_neg e, Option.or_none, has_put_other hne]
    refine ⟨(h.2 y).1, fun i hi => ?_⟩
    rw [atKey_put_other hne]
    exact (h.2 y).2 i hi
/-- a chooser's blocks -/
def ChsS (p M M2 : Nat) (nv : Value) : Nat → Prop := fun g => g = p ∨ g = M ∨ g = M2 ∨ nv.ownBlock = some g
/-- a chooser: w1 is the world in which product was called from outside -/
structure Chs (w1 : World) (B p M M2 : Nat) (tA : Option Addr) (tc : Nat) (ts : List TrH) (cs : Array Value) (nv : Value) (hs : List Hd) (D D2 : DataW Unit) (s : CS) (w : World) : Prop where
  bld : Bld B p M 66 cs nv hs D w
  eq : hs.map Hd.nd = s.1
  c2 : cs[2]? = some (.slice tA ts.length tc)
  c3 : cs[3]? = some (.map (some M2))
  map2 : MapA w M2 s.2.length D2
  known2 : KnownM D2 s.2
  ne : M ≠ M2
  kp : Kept (fun g => g = p ∨ g = M ∨ g = M2) w1 w
  nvB : ∀ g, nv.ownBlock = some g → w1.heap.size ≤ g
  lt : p < w1.heap.size ∧ M < w1.heap.size ∧ M2 < w1.heap.size
section
variable {w1 : World} {B p M M2 : Nat} {tA : Option Addr} {tc : Nat} {ts : List TrH} {cs cs' : Array Value} {nv nv' nv'' : Value} {hs hs' hs'' : List Hd} {D D' D2 D2' : DataW Unit} {s s' : CS} {w w' w'' Wa : World}
theorem Chs.kept (h : Chs w1 B p M M2 tA tc ts cs nv hs D D2 s w) {S : Nat → Prop} (hk : Kept S w w') (h1 : ∀ g, S g → w1.heap.size ≤ g) (h3 : ∀ g, nv.ownBlock = some g → ¬ S g) (h4 : ∀ x ∈ hs, ∀ g, x.val.ownBlock = some g → ¬ S g) : Chs w1 B p M M2 tA tc ts cs nv hs D D2 s w' := by
  have n1 : ¬ S p := fun e => by have := h1 p e; have := h.lt.1; omega
  have n2 : ¬ S M := fun e => by have := h1 M e; have := h.lt.2.1; omega
  have n3 : ¬ S M2 := fun e => by have := h1 M2 e; have := h.lt.2.2; omega
  exact ⟨h.bld.kept hk n1 n2 h3 h4, h.eq, h.c2, h.c3, hk.map h.map2 n3, h.known2, h.ne, h.kp.over hk h1, h.nvB, h.lt⟩
theorem Chs.ext (h : Chs w1 B p M M2 tA tc ts cs nv hs D D2 s w) (hb : Below w.heap.size w w') : Chs w1 B p M M2 tA tc ts cs nv hs D D2 s w' :=
  h.kept (S := fun g => w.heap.size ≤ g) (Kept.of_below hb) (fun g hg => Nat.le_trans h.kp.below.size hg) (fun g e h2 => by have := (own_lt' h.bld.own.1 e).1; omega) (fun x hx g e h2 => by have := (own_lt' (h.bld.own.2 x hx) e).1; omega)
theorem Chs.trs (h : Chs w1 B p M M2 tA tc ts cs nv hs D D2 s w) (ht : ∀ w', Kept (fun g => g = p ∨ g = M ∨ g = M2) w1 w' → Trs w' tA ts) : Trs w tA ts := ht _ h.kp
/-- a row that is not of the chooser stands -/
theorem Kept.chs_row {B0 n c : Nat} {g0 : Nat} {e : TypeId} {xs : List Value} (hk : Kept (ChsS p M M2 nv) w w') (h : Chs w1 B p M M2 tA tc ts cs nv hs D D2 s w) {v : Value} (hr : w.ownsRow B0 e 1 v n xs) (hne : e ≠ 53) (hg : ∀ g, v.ownBlock = some g → w1.heap.size ≤ g) : w'.ownsRow B0 e 1 v n xs :=
  hk.own hr fun g e1 e2 => by
    have := hg g e1
    rcases e2 with e2 | e2 | e2 | e2
    · have := h.lt.1; omega
    · have := h.lt.2.1; omega
    · have := h.lt.2.2; omega
    · exact own_ne hr h.bld.own.1 hne e1 e2
theorem Kept.chsT {W wr w : World} (h1 : Kept (ChsS p M M2 nv) W wr) (hm : Moved nv nv' W) (h2 : Kept (ChsS p M M2 nv') wr w) : Kept (ChsS p M M2 nv) W w := by
  refine ⟨h1.below.trans h2.below, fun g hg hs => ?_⟩
  refine (h2.block g (Nat.lt_of_lt_of_le hg h1.below.size) ?_).trans (h1.block g hg hs)
  rintro (e | e | e | e)
  · exact hs (.inl e)
  · exact hs (.inr (.inl e))
  · exact hs (.inr (.inr (.inl e)))
  · rcases hm with hm | ⟨g', hm, hg'⟩
    · exact hs (.inr (.inr (.inr (by rw [← hm]; exact e))))
    · rw [hm] at e
      injection e with e
      omega
end
theorem Chs.node {w1 : World} {B p M M2 : Nat} {tA : Option Addr} {tc : Nat} {ts : List TrH} {cs cs' : Array Value} {nv nv' : Value} {hs hs' : List Hd} {D D' D2 : DataW Unit} {s : CS} {w w' : World} (h : Chs w1 B p M M2 tA tc ts cs nv hs D D2 s w) {ns : List Nd}
    (hb : Bld B p M 66 cs' nv' hs' D' w') (he : hs'.map Hd.nd = ns) (hk : Kept (BldS p M nv) w w') (hm : Moved nv nv' w) (hcs : ∀ i, 1 ≤ i → cs'[i]? = cs[i]?) :
    Chs w1 B p M M2 tA tc ts cs' nv' hs' D' D2 (ns, s.2) w' ∧ Kept (ChsS p M M2 nv) w w' := by
  have n2 : ¬ BldS p M nv M2 := by
    rintro (e | e | e)
    · exact blk_map_ne h.bld.blk h.map2 e.symm
    · exact h.ne e.symm
    · exact own_map_ne h.bld.own.1 h.map2 e
  refine ⟨⟨hb, he, by rw [hcs 2 (by omega)]; exact h.c2, by rw [hcs 3 (by omega)]; exact h.c3, hk.map h.map2 n2, h.known2, h.ne, ?_, fun g e => ?_, h.lt⟩, hk.mono fun g _ e => ?_⟩
  · refine ⟨h.kp.below.trans hk.below, fun g hg hs => (hk.block g (Nat.lt_of_lt_of_le hg h.kp.below.size) ?_).trans (h.kp.block g hg hs)⟩
    rintro (e | e | e)
    · exact hs (.inl e)
    · exact hs (.inr (.inl e))
    · have := h.nvB g e; omega
  · rcases hm with hm | ⟨g', hm, hg'⟩
    · exact h.nvB g (by rw [← hm]; exact e)
    · rw [hm] at e
      injection e with e
      have := h.kp.below.size
      omega
  · rcases e with e | e | e
    · exact .inl e
    · exact .inr (.inl e)
    · exact .inr (.inr (.inr e))
theorem Chs.put {w1 : World} {B p M M2 : Nat} {tA : Option Addr} {tc : Nat} {ts : List TrH} {cs : Array Value} {nv : Value} {hs : List Hd} {D D2 : DataW Unit} {s : CS} {w w7 : World} (h : Chs w1 B p M M2 tA tc ts cs nv hs D D2 s w) {x : Nd} {k : Nat} (hx : look s.2 x = none)
    (hM : MapA w7 M2 (s.2.length + 1) (D2.put (.string (keyB x)) (.lit (.int .i64 k)))) (hg : w.drew.grownBy w7 (some M2)) :
    Chs w1 B p M M2 tA tc ts cs nv hs D (D2.put (.string (keyB x)) (.lit (.int .i64 k))) (s.1, s.2 ++ [(x, k)]) w7 ∧ Kept (ChsS p M M2 nv) w w7 := by
  have hk : Kept (fun g => g = M2) w.drew w7 := (Kept.refl _ w.drew).grown hg (fun g hg => Or.inl (by injection hg with hg; exact hg.symm))
  have hk2 : Kept (fun g => g = M2) w w7 := (Kept.refl (fun g => g = M2) w).drew.trans hk
  refine ⟨⟨h.bld.kept hk2 (fun e => blk_map_ne h.bld.blk h.map2 e) (fun e => h.ne e) (fun g e1 e2 => by subst e2; exact own_map_ne h.bld.own.1 h.map2 e1) (fun y hy g e1 e2 => by subst e2; exact own_map_ne (h.bld.own.2 y hy) h.map2 e1), h.eq, h.c2, h.c3, by rw [List.length_append]; exact hM, h.known2.push k hx, h.ne, ?_, h.nvB, h.lt⟩, hk2.mono fun g _ e => .inr (.inr (.inl e))⟩
  exact h.kp.trans (hk2.mono fun g _ e => .inr (.inr e))
/-- the loop over the states: nx are the new elements -/
structure PrL (w1 : World) (B p M M2 : Nat) (tA : Option Addr) (tc : Nat) (ts : List TrH) (q : Nat) (nv : Value) (hs : List Hd) (Wa : World) (gN : Nat) (nx : List Int) (cs' : Array Value) (nv' : Value) (hs' : List Hd) (D' D2' : DataW Unit) (s' : CS) (wr : World) : Prop where
  ch : Chs w1 B p M M2 tA tc ts cs' nv' hs' D' D2' s' wr
  kp : Kept (ChsS p M M2 nv) Wa wr
  mv : Moved nv nv' Wa
  new : NewIn hs hs' Wa
  row : OwnIA wr B (.slice (some ⟨gN, 0, none⟩) q q) (nx ++ List.replicate (q - nx.length) 0)
  len : nx.length ≤ q
  gn : Wa.heap.size ≤ gN
  w1a : w1.heap.size ≤ Wa.heap.size
  ne : ∀ x ∈ hs', x.val.ownBlock ≠ some gN
section
variable {w1 : World} {B p M M2 : Nat} {tA : Option Addr} {tc : Nat} {ts : List TrH} {q : Nat} {nv : Value} {hs : List Hd} {Wa : World} {gN : Nat} {nx : List Int} {cs' cs'' : Array Value} {nv' nv'' : Value} {hs' hs'' : List Hd} {D' D2' D'' D2'' : DataW Unit} {s' s'' : CS} {wr w w5 : World}
theorem PrL.rowlen (h : PrL w1 B p M M2 tA tc ts q nv hs Wa gN nx cs' nv' hs' D' D2' s' wr) : (nx ++ List.replicate (q - nx.length) 0).length = q := by
  rw [List.length_append, List.length_replicate]; have := h.len; omega
theorem PrL.gnlt (h : PrL w1 B p M M2 tA tc ts q nv hs Wa gN nx cs' nv' hs' D' D2' s' wr) : gN < wr.heap.size := (own_lt' h.row (g := gN) rfl).1
theorem PrL.ext (h : PrL w1 B p M M2 tA tc ts q nv hs Wa gN nx cs' nv' hs' D' D2' s' wr) (hb : Below wr.heap.size wr w) : PrL w1 B p M M2 tA tc ts q nv hs Wa gN nx cs' nv' hs' D' D2' s' w :=
  ⟨h.ch.ext hb, h.kp.over (Kept.of_below hb) (fun g hg => Nat.le_trans h.kp.below.size hg), h.mv, h.new, h.row.ext hb, h.len, h.gn, h.w1a, h.ne⟩
theorem PrL.call (h : PrL w1 B p M M2 tA tc ts q nv hs Wa gN nx cs' nv' hs' D' D2' s' wr) (hk : Kept (ChsS p M M2 nv') wr w5) (hc : Chs w1 B p M M2 tA tc ts cs'' nv'' hs'' D'' D2'' s'' w5) (hm : Moved nv' nv'' wr) (hn : NewIn hs' hs'' wr) :
    PrL w1 B p M M2 tA tc ts q nv hs Wa gN nx cs'' nv'' hs'' D'' D2'' s'' w5 := by
  refine ⟨hc, h.kp.chsT h.mv hk, h.mv.trans hm h.kp.below.size, h.new.trans hn h.kp.below.size, ?_, h.len, h.gn, h.w1a, fun x hx => ?_⟩
  · exact Kept.chs_row (B0 := B) (c := q) (g0 := gN) hk h.ch h.row (by decide) (fun g e => by injection e with e; subst e; exact Nat.le_trans h.w1a h.gn)
  · rcases hn x hx with hx | ⟨g, e, hg⟩
    · exact h.ne x hx
    · rw [e]
      intro e2
      injection e2 with e2
      have := h.gnlt
      omega
theorem PrL.store (h : PrL w1 B p M M2 tA tc ts q nv hs Wa gN nx cs' nv' hs' D' D2' s' wr) (hl : nx.length < q) (v : Int) : PrL w1 B p M M2 tA tc ts q nv hs Wa gN (nx ++ [v]) cs' nv' hs' D' D2' s' (wr.setCell ⟨gN, nx.length, none⟩ (.int .i64 v)) := by
  have hk : Kept (fun g => g = gN) wr (wr.setCell ⟨gN, nx.length, none⟩ (.int .i64 v)) := (Kept.refl (fun g => g = gN) wr).setCell (p := ⟨gN, nx.length, none⟩) (Or.inl rfl) _
  refine ⟨h.ch.kept hk (fun g e => by subst e; exact Nat.le_trans h.w1a h.gn) (fun g e1 e2 => by subst e2; exact own_ne h.row h.ch.bld.own.1 (by decide) rfl e1) (fun x hx g e1 e2 => by subst e2; exact h.ne x hx e1), h.kp.over hk (fun g e => by subst e; exact h.gn), h.mv, h.new, ?_, by simp; omega, h.gn, h.w1a, h.ne⟩
  have := OwnI.set h.row h.rowlen.symm nx.length v
  have e : (nx ++ List.replicate (q - nx.length) (0 : Int)).set nx.length v = (nx ++ [v]) ++ List.replicate (q - (nx ++ [v]).length) 0 := by
    rw [List.set_append_right _ _ (Nat.le_refl _), Nat.sub_self]
    obtain ⟨m, hm⟩ : ∃ m, q - nx.length = m + 1 := ⟨q - nx.length - 1, by omega⟩
    have hm2 : q - (nx ++ [v]).length = m := by simp; omega
    rw [hm, hm2, List.replicate_succ, List.set_cons_zero, List.append_assoc]
    rfl
  rw [e] at this
  exact this
end
end Go.Proofs.YtojnnfihpiegoaaDoor
