/-
  cellularref14.Sums = totaltree.Sums. No condition but that numbers are those of Go.
  cellularref14.Elementary = totaltree.Elementary. No condition.
  How many nodes totaltree.build makes: at most as many as there are places. No condition.
  The tree of a rule by counts in plain lists: valid, nothing left to be reduced, it leads to what the counts define. No condition.
  The order of the neighbours does not count. No condition.
  Back restores a rule by counts. No condition.
  The trees of rows lead to the digits. No condition.
  The chapter's examples, in plain lists. No condition.
-/
import Derived.Test.YtmlhkbgifnifdaaGreatDoorZG22
import Derived.Test.YtmlhkbgifnifdaaGreatDoorZG5
import Derived.Test.YtmlhkbgifnifdaaGreatDoorZBack
import Derived.Test.YtmlhkbgifnifdaaGreatDoorZG21
import Derived.Test.YtmlhkbgifnifdaaGreatDoorZG14
namespace Go.Proofs.YtmlhkbgifnifdaaGreatDoor
open Go.RowKit Go.Maps
set_option maxRecDepth 100000
set_option linter.unusedVariables false
set_option linter.unusedSimpArgs false

theorem get_eq {l : List Int} {k k' : Nat} (e : k = k') (h : k' < l.length) : ∃ h2 : k < l.length, l[k]'h2 = l.getD k' 0 := by
  subst e
  exact ⟨h, by rw [List.getD_eq_getElem?_getD, List.getElem?_eq_getElem h]; rfl⟩
def fE (n : Int) (x y z : Nat) : Int := (elemL n).getD (4 * x + 2 * y + z) 0
theorem fE_rng (n : Int) : ∀ x y z, x < 2 → y < 2 → z < 2 → 0 ≤ fE n x y z ∧ fE n x y z < ((2 : Nat) : Int) := fun x y z hx hy hz =>
  elemL_rng n _ (getD_mem (by rw [elemL_len]; omega))
theorem elem_can (n : Int) : Can 2 3 (bld (sysE n) 3 0 ([], [])).2.2 ∧ ∀ a b c, a < 2 → b < 2 → c < 2 → val (bld (sysE n) 3 0 ([], [])).2.2 (((bld (sysE n) 3 0 ([], [])).2.2.length - 1 : Nat) : Int) [a, b, c] = fE n a b c := by
  obtain ⟨h1, h2⟩ := bld_can (Y := sysE n) (R := rngE) (rngE_step n) (rngE_fin n) (show 1 ≤ 3 by decide) (show 3 ≤ 100 by decide) (s := (0 : Int)) ⟨by decide, by decide, by decide⟩
  refine ⟨h1, fun a b c ha hb hc => ?_⟩
  rw [show (bld (sysE n) 3 0 ([], [])) = (bld (sysE n) (sysE n).L 0 ([], [])) from rfl, h2 [a, b, c] rfl (fun t ht => by
    simp at ht
    show t < 2
    rcases ht with rfl | rfl | rfl <;> assumption)]
  show (elemL n).getD (2 * (2 * (2 * (0 : Int) + (a : Int)) + (b : Int)) + (c : Int)).toNat 0 = (elemL n).getD (4 * a + 2 * b + c) 0
  congr 1
  omega
theorem elem_red (n : Int) : redT ⟨2, rowP, rowN 2 (fE n)⟩ = ⟨2, rowP, (bld (sysE n) 3 0 ([], [])).2.2⟩ :=
  row_red (q := 2) (by decide) (by decide) (fE_rng n) (elem_can n).1 (elem_can n).2
def fS (q n : Int) (x y z : Nat) : Int := (digsT q n).1.getD (x + y + z) 0
theorem fS_rng {q n : Int} (hk : okS q n) : ∀ x y z, x < q.toNat → y < q.toNat → z < q.toNat → 0 ≤ fS q n x y z ∧ fS q n x y z < ((q.toNat : Nat) : Int) := fun x y z hx hy hz => by
  have h := hk.2.2.2 _ (getD_mem (s := x + y + z) (by rw [hk.2.2.1]; have := hk.1; omega))
  have := hk.1
  unfold fS
  omega
theorem sums_can {q n : Int} (hk : okS q n) : Can q.toNat 3 (bld (sysS q n) 3 0 ([], [])).2.2 ∧ ∀ a b c, a < q.toNat → b < q.toNat → c < q.toNat → val (bld (sysS q n) 3 0 ([], [])).2.2 (((bld (sysS q n) 3 0 ([], [])).2.2.length - 1 : Nat) : Int) [a, b, c] = fS q n a b c := by
  obtain ⟨h1, h2⟩ := bld_can (Y := sysS q n) (R := rngS q) (rngS_step hk) (rngS_fin hk) (show 1 ≤ 3 by decide) (show 3 ≤ 100 by decide) (s := (0 : Int)) ⟨by decide, by have := hk.1; omega, by decide⟩
  refine ⟨h1, fun a b c ha hb hc => ?_⟩
  rw [show (bld (sysS q n) 3 0 ([], [])) = (bld (sysS q n) (sysS q n).L 0 ([], [])) from rfl, h2 [a, b, c] rfl (fun t ht => by
    simp at ht
    show t < q.toNat
    rcases ht with rfl | rfl | rfl <;> assumption)]
  show (digsT q n).1.getD ((0 : Int) + (a : Int) + (b : Int) + (c : Int)).toNat 0 = (digsT q n).1.getD (a + b + c) 0
  congr 1
  omega
theorem sums_red {q n : Int} (hk : okS q n) : redT ⟨q, rowP, rowN q.toNat (fS q n)⟩ = ⟨q, rowP, (bld (sysS q n) 3 0 ([], [])).2.2⟩ := by
  have h := row_red (q := q.toNat) (by have := hk.1; omega) (by have := hk.2.1; omega) (fS_rng hk) (sums_can hk).1 (sums_can hk).2
  rwa [show ((q.toNat : Nat) : Int) = q by have := hk.1; omega] at h
end Go.Proofs.YtmlhkbgifnifdaaGreatDoor
namespace Go.Proofs.YtmlhkbgifnifdaaGreatDoor
open Go.RowKit Go.Maps
set_option maxRecDepth 100000
set_option linter.unusedVariables false
set_option linter.unusedSimpArgs false

end Go.Proofs.YtmlhkbgifnifdaaGreatDoor
namespace Go.Proofs.YtmlhkbgifnifdaaGreatDoor
set_option linter.unusedVariables false
set_option linter.unusedSimpArgs false

/-- different numbers below N are at most N -/
theorem pigeon : ∀ (N : Nat) (l : List Nat), l.Nodup → (∀ x ∈ l, x < N) → l.length ≤ N
  | 0, l, _, h => by
    cases l with
    | nil => simp
    | cons x r => exact absurd (h x (by simp)) (by omega)
  | N + 1, l, hn, h => by
    have h1 := pigeon N (l.erase N) (hn.erase N) (fun x hx => by
      have h2 := h x (List.mem_of_mem_erase hx)
      have : x ≠ N := by
        rintro rfl
        exact (List.Nodup.not_mem_erase hn) hx
      omega)
    have h3 : l.length ≤ (l.erase N).length + 1 := by
      rw [List.length_erase]
      split <;> omega
    omega
theorem nodup_map {α β : Type} {f : α → β} : ∀ {l : List α}, l.Nodup → (∀ x ∈ l, ∀ y ∈ l, f x = f y → x = y) → (l.map f).Nodup
  | [], _, _ => by simp
  | x :: r, hn, h => by
    rw [List.nodup_cons] at hn
    rw [List.map_cons, List.nodup_cons]
    refine ⟨fun hm => ?_, nodup_map hn.2 fun a ha b hb => h a (by simp [ha]) b (by simp [hb])⟩
    obtain ⟨y, hy, e⟩ := List.mem_map.1 hm
    have := h y (by simp [hy]) x (by simp) e
    subst this
    exact hn.1 hy
section
variable {S : Type} [DecidableEq S] {Y : Sys S} {R : Nat → S → Prop}
structure BN (Y : Sys S) (R : Nat → S → Prop) (b : BS S) : Prop where
  nd : (b.1.map Prod.fst).Nodup
  rg : ∀ y ∈ b.1, R y.1.1 y.1.2 ∧ y.1.1 < Y.L
  le : b.2.length ≤ b.1.length
omit [DecidableEq S] in
theorem BN.nil : BN Y R ([], []) := ⟨by simp, fun y h => absurd h (by simp), Nat.le_refl _⟩
theorem bld_n (hR : ∀ a s t, R a s → a < Y.L → t < Y.q → R (a + 1) (Y.step s a t)) (hF : ∀ s, R Y.L s → 0 ≤ Y.fin s ∧ Y.fin s < (Y.q : Int)) :
    ∀ (n : Nat), n ≤ Y.L → ∀ (s : S) (b : BS S), R (Y.L - n) s → BI Y b → BN Y R b → BN Y R (bld Y n s b).2
  | 0, hn, s, b, hr, hb, h => h
  | n + 1, hn, s, b, hr, hb, h => by
    unfold bld
    cases hlk : lookS b.1 (Y.L - (n + 1), s) with
    | some k => exact h
    | none =>
      dsimp only
      have key : ∀ j, j ≤ Y.q → BN Y R (kidsB (bld Y n) (fun t => Y.step s (Y.L - (n + 1)) t) j b).2 := by
        intro j
        induction j with
        | zero => intro _; exact h
        | succ j ih =>
          intro hj
          have hk := kids_ok hR hF hn hr hb j (by omega)
          refine bld_n hR hF n (by omega) _ _ ?_ hk.i (ih (by omega))
          have := hR _ s j hr (by omega) (by omega)
          rwa [show Y.L - (n + 1) + 1 = Y.L - n by omega] at this
      have hk := kids_ok hR hF hn hr hb Y.q (Nat.le_refl _)
      have hN := key Y.q (Nat.le_refl _)
      have hl := kids_look (a := Y.L - (n + 1)) hk (by omega) hlk
      refine ⟨?_, fun y hy => ?_, ?_⟩
      · dsimp only
        rw [List.map_append, List.nodup_append]
        refine ⟨hN.nd, by simp, fun x hx y hy => ?_⟩
        obtain ⟨e, he, rfl⟩ := List.mem_map.1 hx
        simp only [List.map_cons, List.map_nil, List.mem_singleton] at hy
        subst hy
        intro e2
        obtain ⟨p, k⟩ := e
        dsimp only at e2
        subst e2
        exact lookS_none hl k he
      · dsimp only at hy
        rcases List.mem_append.1 hy with hy | hy
        · exact hN.rg y hy
        · rw [List.mem_singleton.1 hy]
          exact ⟨hr, by dsimp only; omega⟩
      · dsimp only
        rw [List.length_append, List.length_singleton]
        have := hN.le
        rcases addN_cases (kidsB (bld Y n) (fun t => Y.step s (Y.L - (n + 1)) t) Y.q b).2.2 (((n + 1 : Nat) : Int), (kidsB (bld Y n) (fun t => Y.step s (Y.L - (n + 1)) t) Y.q b).1) with ⟨i, ha, -, -⟩ | ⟨ha, -⟩
        · rw [ha]; dsimp only; omega
        · rw [ha]; dsimp only; rw [List.length_append, List.length_singleton]; omega
/-- places that are told apart by numbers below N -/
theorem bld_size (hR : ∀ a s t, R a s → a < Y.L → t < Y.q → R (a + 1) (Y.step s a t)) (hF : ∀ s, R Y.L s → 0 ≤ Y.fin s ∧ Y.fin s < (Y.q : Int)) {s : S} (hr : R 0 s) (N : Nat) (code : Nat × S → Nat)
    (hc : ∀ a s, R a s → a < Y.L → code (a, s) < N) (hi : ∀ a s a' s', R a s → a < Y.L → R a' s' → a' < Y.L → code (a, s) = code (a', s') → a = a' ∧ s = s') : (bld Y Y.L s ([], [])).2.2.length ≤ N := by
  have h := bld_n hR hF Y.L (Nat.le_refl _) s ([], []) (by rw [Nat.sub_self]; exact hr) (BI.nil Y) BN.nil
  refine Nat.le_trans h.le ?_
  have h1 : (((bld Y Y.L s ([], [])).2.1.map Prod.fst).map code).Nodup := nodup_map h.nd (fun x hx y hy e => by
    obtain ⟨u, hu, rfl⟩ := List.mem_map.1 hx
    obtain ⟨v, hv, rfl⟩ := List.mem_map.1 hy
    obtain ⟨u1, u2⟩ := h.rg u hu
    obtain ⟨v1, v2⟩ := h.rg v hv
    obtain ⟨e1, e2⟩ := hi _ _ _ _ u1 u2 v1 v2 e
    exact Prod.ext e1 e2)
  have h2 := pigeon N _ h1 (fun x hx => by
    obtain ⟨p, hp, rfl⟩ := List.mem_map.1 hx
    obtain ⟨u, hu, rfl⟩ := List.mem_map.1 hp
    obtain ⟨u1, u2⟩ := h.rg u hu
    exact hc _ _ u1 u2)
  simpa using h2
end
end Go.Proofs.YtmlhkbgifnifdaaGreatDoor
namespace Go.Proofs.YtmlhkbgifnifdaaGreatDoor
set_option linter.unusedVariables false
set_option linter.unusedSimpArgs false

theorem known_hood {ps : List (Int × Int)} (h : knownB ps = true) : hoodB ps = true := by
  unfold knownB at h
  simp only [Bool.or_eq_true, decide_eq_true_eq] at h
  rcases h with (h | h) | h <;> subst h <;> decide
/-- the nodes of the tree of a rule by counts -/
def totN (x : TotL) : List Nd := (bld (sysT x) x.hood.length (0, 0) ([], [])).2.2
theorem totT_eq {x : TotL} (h : rightT x = true) : totT x = (⟨x.states, x.hood, totN x⟩, 0) := by unfold totT totN; rw [if_pos h]
/-- the state of the steps ahead of place i -/
def stAt (c : Nat) (zs : List Int) (i : Nat) : Int × Int := ((cntTo c zs i : Nat), if c < i then zs.getD c 0 else 0)
theorem run_st {x : TotL} {c : Nat} (hc : ctrP x.hood = c) (ins : List Nat) : ∀ m i, i + m = ins.length → runS (sysT x) (stAt c (ins.map fun (t : Nat) => (t : Int)) i) i (ins.drop i) = stAt c (ins.map fun (t : Nat) => (t : Int)) ins.length
  | 0, i, h => by
    obtain rfl : i = ins.length := by omega
    rw [List.drop_length]; rfl
  | m + 1, i, h => by
    have hi : i < ins.length := by omega
    rw [List.drop_eq_getElem_cons hi]
    show runS (sysT x) (stepT (ctrP x.hood) (stAt c _ i) i ins[i]) (i + 1) (ins.drop (i + 1)) = _
    rw [← run_st hc ins m (i + 1) (by omega)]
    congr 1
    have hz : (ins.map fun (t : Nat) => (t : Int)).getD i 0 = (ins[i] : Int) := by
      rw [List.getD_eq_getElem?_getD, List.getElem?_map, List.getElem?_eq_getElem hi]; rfl
    obtain ⟨zs, hzs⟩ : ∃ zs, zs = ins.map fun (t : Nat) => (t : Int) := ⟨_, rfl⟩
    rw [← hzs] at hz ⊢
    unfold stepT stAt
    rw [hc]
    by_cases hic : i = c
    · subst hic
      have e1 : cntTo i zs (i + 1) = cntTo i zs i := if_neg (fun h => h.1 rfl)
      rw [if_pos rfl]
      refine Prod.ext ?_ ?_
      · show ((cntTo i zs i : Nat) : Int) = ((cntTo i zs (i + 1) : Nat) : Int)
        rw [e1]
      · show ((ins[i] : Nat) : Int) = if i < i + 1 then zs.getD i 0 else 0
        rw [if_pos (Nat.lt_succ_self i), hz]
    · have hne : ¬ (i : Int) = (c : Int) := by omega
      rw [if_neg hne]
      have e2 : (if c < i then zs.getD c 0 else 0) = if c < i + 1 then zs.getD c 0 else 0 := by
        by_cases h1 : c < i
        · have h2 : c < i + 1 := by omega
          rw [if_pos h1, if_pos h2]
        · have h2 : ¬ c < i + 1 := by omega
          rw [if_neg h1, if_neg h2]
      by_cases ht : ins[i] = 1
      · have e1 : cntTo c zs (i + 1) = cntTo c zs i + 1 := if_pos ⟨hic, by rw [hz, ht]; rfl⟩
        rw [if_pos ht]
        refine Prod.ext ?_ e2
        show ((cntTo c zs i : Nat) : Int) + 1 = ((cntTo c zs (i + 1) : Nat) : Int)
        rw [e1]
        omega
      · have e1 : cntTo c zs (i + 1) = cntTo c zs i := if_neg (fun hh => ht (by
          have h3 := hh.2
          rw [hz] at h3
          omega))
        rw [if_neg ht]
        refine Prod.ext ?_ e2
        show ((cntTo c zs i : Nat) : Int) = ((cntTo c zs (i + 1) : Nat) : Int)
        rw [e1]
theorem tot_parts {x : TotL} (h : rightT x = true) : Can x.states.toNat x.hood.length (totN x) ∧ (∀ ins : List Nat, ins.length = x.hood.length → (∀ t ∈ ins, t < x.states.toNat) → val (totN x) (((totN x).length - 1 : Nat) : Int) ins = valP x (ins.map fun (t : Nat) => (t : Int))) ∧ rightN x.states x.hood (totN x) = true := by
  obtain ⟨k1, k2, k3⟩ := rightT_parts h
  obtain ⟨l1, l9⟩ := known_len k1
  obtain ⟨c, c1, c2, -⟩ := known_ctr k1
  have h0 : rngT x 0 (0, 0) := ⟨by decide, by decide, by omega, by decide, by show (0 : Int) < _; omega⟩
  obtain ⟨b1, b2⟩ := bld_can (Y := sysT x) (R := rngT x) (rngT_step x k2) (rngT_fin x k2) (show 1 ≤ x.hood.length from l1) (show x.hood.length ≤ 100 by omega) h0
  have hsz : (totN x).length ≤ 4096 := bld_size (Y := sysT x) (R := rngT x) (rngT_step x k2) (rngT_fin x k2) h0 4096 (fun p => p.1 * 128 + p.2.1.toNat * 8 + p.2.2.toNat)
    (fun a s hr ha => by
      obtain ⟨r1, r2, r3, r4, r5⟩ := hr
      change a < x.hood.length at ha
      dsimp only
      omega)
    (fun a s a' s' hr ha hr' ha' e => by
      obtain ⟨r1, r2, r3, r4, r5⟩ := hr
      obtain ⟨q1, q2, q3, q4, q5⟩ := hr'
      change a < x.hood.length at ha
      change a' < x.hood.length at ha'
      dsimp only at e
      exact ⟨by omega, Prod.ext (by omega) (by omega)⟩)
  have hcan : Can x.states.toNat x.hood.length (totN x) := b1
  refine ⟨hcan, fun ins hl hq => ?_, rightN_of k2 k3 (known_hood k1) hcan.pos hsz hcan.root hcan.v hcan.lv⟩
  have hv := b2 ins hl hq
  refine Eq.trans hv ?_
  have hrun := run_st c1 ins ins.length 0 (by omega)
  rw [List.drop_zero] at hrun
  have e0 : stAt c (ins.map fun (t : Nat) => (t : Int)) 0 = (0, 0) := by unfold stAt; rw [if_neg (by omega)]; rfl
  rw [e0] at hrun
  rw [hrun]
  show nextT x _ = valP x _
  unfold valP stAt
  rw [c1, if_pos (by omega), List.length_map, Int.toNat_natCast]
theorem tot_eval {x : TotL} (h : rightT x = true) {zs : List Int} (hl : zs.length = x.hood.length) (hz : ∀ z ∈ zs, 0 ≤ z ∧ z < x.states) : evalP (totT x).1 zs = (valP x zs, 0) := by
  obtain ⟨t1, t2, t3⟩ := tot_parts h
  have hb : zs.any (badS x.states) = false := by
    rw [List.any_eq_false]
    intro z hzm
    have := hz z hzm
    simp only [badS, Bool.or_eq_true, decide_eq_true_eq]
    omega
  obtain ⟨u1, u2⟩ := toNat_back hb
  have hr : PT.right ⟨x.states, x.hood, totN x⟩ = true := t3
  rw [totT_eq h]
  unfold evalP
  rw [if_pos hr]
  dsimp only
  rw [if_pos hl, hb, if_neg (by simp), t2 (zs.map Int.toNat) (by rw [List.length_map]; exact hl) u2, u1]
end Go.Proofs.YtmlhkbgifnifdaaGreatDoor
namespace Go.Proofs.YtmlhkbgifnifdaaGreatDoor
set_option linter.unusedVariables false
set_option linter.unusedSimpArgs false

theorem cnt_take (c : Nat) (zs : List Int) : ∀ i, i ≤ zs.length → cntTo c zs i + (if c < i ∧ zs.getD c 0 = 1 then 1 else 0) = (zs.take i).count 1
  | 0, _ => by rw [if_neg (fun h => absurd h.1 (Nat.not_lt_zero _))]; rfl
  | i + 1, h => by
    have hi : i < zs.length := by omega
    have ih := cnt_take c zs i (by omega)
    have hz : zs.getD i 0 = zs[i] := by rw [List.getD_eq_getElem?_getD, List.getElem?_eq_getElem hi]; rfl
    rw [List.take_succ_eq_append_getElem hi, List.count_append, ← ih]
    by_cases h1 : zs[i] = 1
    · have e1 : List.count 1 [zs[i]] = 1 := by rw [h1]; rfl
      rw [e1]
      by_cases hic : i = c
      · subst hic
        have e2 : cntTo i zs (i + 1) = cntTo i zs i := if_neg (fun h => h.1 rfl)
        rw [e2, if_pos ⟨Nat.lt_succ_self i, by rw [hz, h1]⟩, if_neg (fun hh => absurd hh.1 (Nat.lt_irrefl i))]
      · have e2 : cntTo c zs (i + 1) = cntTo c zs i + 1 := if_pos ⟨hic, by rw [hz, h1]⟩
        have e3 : (c < i + 1 ∧ zs.getD c 0 = 1) ↔ (c < i ∧ zs.getD c 0 = 1) := ⟨fun hh => ⟨by omega, hh.2⟩, fun hh => ⟨by omega, hh.2⟩⟩
        rw [e2]; simp only [e3]
        omega
    · have e1 : List.count 1 [zs[i]] = 0 := by
        rw [List.count_eq_zero]
        intro hm
        exact h1 (List.mem_singleton.1 hm).symm
      have e2 : cntTo c zs (i + 1) = cntTo c zs i := if_neg (fun h => h1 (by rw [← hz]; exact h.2))
      have e3 : (c < i + 1 ∧ zs.getD c 0 = 1) ↔ (c < i ∧ zs.getD c 0 = 1) := ⟨fun hh => ⟨by
        rcases Nat.lt_or_ge c i with h4 | h4
        · exact h4
        · have h5 : i = c := by omega
          subst h5
          exact absurd (hz ▸ hh.2) h1, hh.2⟩, fun hh => ⟨by omega, hh.2⟩⟩
      rw [e1, e2]; simp only [e3]
      omega
theorem cnt_all (c : Nat) (zs : List Int) (hc : c < zs.length) : cntTo c zs zs.length + (if zs.getD c 0 = 1 then 1 else 0) = zs.count 1 := by
  have h := cnt_take c zs zs.length (Nat.le_refl _)
  rw [List.take_length] at h
  rw [← h]
  congr 1
  by_cases h1 : zs.getD c 0 = 1
  · rw [if_pos h1, if_pos ⟨hc, h1⟩]
  · rw [if_neg h1, if_neg (fun hh => h1 hh.2)]
def swapL (zs : List Int) (i k : Nat) : List Int := (zs.set i (zs.getD k 0)).set k (zs.getD i 0)
theorem swapL_len (zs : List Int) (i k : Nat) : (swapL zs i k).length = zs.length := by unfold swapL; rw [List.length_set, List.length_set]
theorem swapL_mem {zs : List Int} {i k : Nat} (hi : i < zs.length) (hk : k < zs.length) {z : Int} (h : z ∈ swapL zs i k) : z ∈ zs := by
  unfold swapL at h
  rcases List.mem_or_eq_of_mem_set h with h | h
  · rcases List.mem_or_eq_of_mem_set h with h | h
    · exact h
    · rw [h]; exact getD_mem hk
  · rw [h]; exact getD_mem hi
theorem swapL_get {zs : List Int} {i k c : Nat} (hic : i ≠ c) (hkc : k ≠ c) : (swapL zs i k).getD c 0 = zs.getD c 0 := by
  unfold swapL
  rw [List.getD_eq_getElem?_getD, List.getElem?_set_ne hkc, List.getElem?_set_ne hic, ← List.getD_eq_getElem?_getD]
theorem swapL_count {zs : List Int} {i k : Nat} (hi : i < zs.length) (hk : k < zs.length) : (swapL zs i k).count 1 = zs.count 1 := by
  have g : ∀ {j} (hj : j < zs.length), zs.getD j 0 = zs[j] := fun hj => by rw [List.getD_eq_getElem?_getD, List.getElem?_eq_getElem hj]; rfl
  unfold swapL
  rw [g hi, g hk]
  have hk2 : k < (zs.set i zs[k]).length := by rw [List.length_set]; exact hk
  rw [List.count_set hk2, List.count_set hi]
  have p1 : ∀ {j} (hj : j < zs.length), zs[j] = 1 → 1 ≤ zs.count 1 := fun hj e => by
    have : (1 : Int) ∈ zs := by rw [← e]; exact List.getElem_mem _
    exact List.one_le_count_iff.2 this
  by_cases hik : i = k
  · subst hik
    rw [List.getElem_set_self]
    by_cases h1 : zs[i] = 1
    · have := p1 hi h1
      simp [h1]
      omega
    · simp [h1]
  · rw [List.getElem_set_ne hik]
    by_cases h1 : zs[i] = 1 <;> by_cases h2 : zs[k] = 1
    · have := p1 hi h1
      simp [h1, h2]
      omega
    · have := p1 hi h1
      simp [h1, h2]
      omega
    · have := p1 hk h2
      simp [h1, h2]
    · simp [h1, h2]
theorem val_swap {x : TotL} {c : Nat} (hc : ctrP x.hood = c) {zs : List Int} (hcl : c < zs.length) {i k : Nat} (hi : i < zs.length) (hk : k < zs.length) (hic : i ≠ c) (hkc : k ≠ c) : valP x (swapL zs i k) = valP x zs := by
  unfold valP
  rw [hc, Int.toNat_natCast, swapL_get hic hkc]
  have h1 := cnt_all c (swapL zs i k) (by rw [swapL_len]; exact hcl)
  have h2 := cnt_all c zs hcl
  rw [swapL_get hic hkc, swapL_count hi hk] at h1
  have e : cntTo c (swapL zs i k) (swapL zs i k).length = cntTo c zs zs.length := by omega
  rw [e]
end Go.Proofs.YtmlhkbgifnifdaaGreatDoor
namespace Go.Proofs.YtmlhkbgifnifdaaGreatDoor
set_option linter.unusedVariables false
set_option linter.unusedSimpArgs false

theorem asc_gt {n : Int} : ∀ {l : List Int} {last : Int}, asc last n l = true → ∀ z ∈ l, last < z ∧ z ≤ n
  | [], last, _, z, hz => absurd hz (by simp)
  | k :: r, last, h, z, hz => by
    unfold asc at h
    simp only [Bool.and_eq_true, decide_eq_true_eq] at h
    rcases List.mem_cons.1 hz with e | e
    · rw [e]; exact h.1
    · have := asc_gt h.2 z e
      omega
theorem asc_all (n : Int) : ∀ (m a : Nat) (l : List Int), (a : Int) + m - 1 = n → asc ((a : Int) - 1) n l = true → ((List.range' a m).filter (fun (k : Nat) => decide ((k : Int) ∈ l))).map (fun (k : Nat) => (k : Int)) = l
  | 0, a, [], h, _ => rfl
  | 0, a, k :: r, h, hl => by
    have := asc_gt hl k (by simp)
    omega
  | m + 1, a, [], h, _ => by simp
  | m + 1, a, k :: r, h, hl => by
    have h0 := asc_gt hl k (by simp)
    unfold asc at hl
    simp only [Bool.and_eq_true, decide_eq_true_eq] at hl
    rw [List.range'_succ, List.filter_cons]
    by_cases hk : k = (a : Int)
    · subst hk
      rw [if_pos (by simp), List.map_cons]
      congr 1
      have ih := asc_all n m (a + 1) r (by omega) (by rw [show ((a + 1 : Nat) : Int) - 1 = (a : Int) by omega]; exact hl.2)
      rw [← ih]
      congr 1
      refine List.filter_congr (fun z hz => ?_)
      have hz2 := (List.mem_range'_1.1 hz).1
      rw [ih]
      refine decide_eq_decide.2 ⟨fun hm => ?_, fun hm => List.mem_cons_of_mem _ hm⟩
      rcases List.mem_cons.1 hm with e | e
      · omega
      · exact e
    · have hna : ¬ (a : Int) ∈ k :: r := fun hm => by
        rcases List.mem_cons.1 hm with e | e
        · exact hk e.symm
        · have := asc_gt hl.2 _ e
          omega
      rw [if_neg (by simpa using hna)]
      refine asc_all n m (a + 1) (k :: r) (by omega) ?_
      unfold asc
      rw [hl.2, decide_eq_true hl.1.2, decide_eq_true (by omega)]
      rfl
theorem fill_ok {ps : List (Int × Int)} (h : knownB ps = true) : ∀ n, n < ps.length → ∀ s : Int, s = 0 ∨ s = 1 → cntTo (ctrP ps).toNat ((fillTo (ctrP ps).toNat ps.length n ps.length).1.set (ctrP ps).toNat s) ps.length = n := by
  have key : ∀ c L, (c = 4 ∧ L = 9) ∨ (c = 2 ∧ L = 5) ∨ (c = 3 ∧ L = 7) → ∀ n, n < L → ∀ s : Int, s = 0 ∨ s = 1 → cntTo c ((fillTo c L n L).1.set c s) L = n := by
    rintro c L (⟨rfl, rfl⟩ | ⟨rfl, rfl⟩ | ⟨rfl, rfl⟩) n hn s (rfl | rfl) <;> revert n <;> decide
  unfold knownB at h
  simp only [Bool.or_eq_true, decide_eq_true_eq] at h
  rcases h with (h | h) | h <;> subst h
  · exact key _ _ (.inl ⟨by decide, by decide⟩)
  · exact key _ _ (.inr (.inl ⟨by decide, by decide⟩))
  · exact key _ _ (.inr (.inr ⟨by decide, by decide⟩))
theorem rightT_asc {x : TotL} (h : rightT x = true) : asc (-1) ((x.hood.length : Int) - 1) x.birth = true ∧ asc (-1) ((x.hood.length : Int) - 1) x.survive = true := by
  unfold rightT at h
  simp only [Bool.and_eq_true, decide_eq_true_eq] at h
  exact ⟨h.1.2, h.2⟩
theorem inN_rng {t : PT} {n : Nat} {s q : Int} (hs : 0 ≤ s ∧ s < q) (hq : 2 ≤ q) : ∀ z ∈ inN t n s, 0 ≤ z ∧ z < q := fun z hz => by
  have key : ∀ c L i, ∀ z ∈ (fillTo c L n i).1, 0 ≤ z ∧ z < q := fun c L i => by
    induction i with
    | zero => intro z hz; rw [List.eq_of_mem_replicate hz]; omega
    | succ i ih =>
      intro z hz
      unfold fillTo at hz
      split at hz
      · rcases List.mem_or_eq_of_mem_set hz with h | h
        · exact ih z h
        · rw [h]; omega
      · exact ih z hz
  unfold inN at hz
  rcases List.mem_or_eq_of_mem_set hz with h | h
  · exact key _ _ _ z h
  · rw [h]; exact hs
theorem val_inN {x : TotL} (h : rightT x = true) {t : PT} (ht : t.ps = x.hood) {n : Nat} (hn : n < x.hood.length) {s : Int} (hs : s = 0 ∨ s = 1) : valP x (inN t n s) = nextT x ((n : Int), s) := by
  obtain ⟨k1, k2, k3⟩ := rightT_parts h
  obtain ⟨c, c1, c2, -⟩ := known_ctr k1
  unfold valP
  rw [inN_len, ht]
  have e1 := fill_ok k1 n hn s hs
  have e2 : inN t n s = (fillTo (ctrP x.hood).toNat x.hood.length n x.hood.length).1.set (ctrP x.hood).toNat s := by unfold inN; rw [ht]
  have e3 : (inN t n s).getD (ctrP x.hood).toNat 0 = s := by
    rw [e2, List.getD_eq_getElem?_getD, List.getElem?_set_self (by rw [fillTo_len, c1]; omega)]
    rfl
  rw [e3, e2, e1]
theorem next_hit {x : TotL} (hq : 2 ≤ x.states) (n : Int) : (nextT x (n, 0) = 1 ↔ n ∈ x.birth) ∧ (nextT x (n, 1) = 1 ↔ n ∈ x.survive) := by
  constructor
  · show (if (0 : Int) = 0 then (if n ∈ x.birth then (1 : Int) else 0) else _) = 1 ↔ _
    rw [if_pos rfl]
    by_cases h : n ∈ x.birth
    · simp [h]
    · simp [h]
  · show (if (1 : Int) = 0 then _ else if (1 : Int) = 1 ∧ n ∈ x.survive then (1 : Int) else ((1 : Int) + 1).tmod x.states) = 1 ↔ _
    rw [if_neg (by decide)]
    by_cases h : n ∈ x.survive
    · rw [if_pos ⟨rfl, h⟩]; simp [h]
    · rw [if_neg (fun hh => h hh.2)]
      refine ⟨fun e => ?_, fun hh => absurd hh h⟩
      exfalso
      by_cases h2 : x.states = 2
      · rw [h2] at e; exact absurd e (by decide)
      · rw [Int.tmod_eq_of_lt (by decide) (by omega)] at e
        exact absurd e (by decide)
theorem nums_eq {x : TotL} (h : rightT x = true) : numsP (totT x).1 0 = x.birth ∧ numsP (totT x).1 1 = x.survive := by
  obtain ⟨k1, k2, k3⟩ := rightT_parts h
  obtain ⟨a1, a2⟩ := rightT_asc h
  have hps : (totT x).1.ps = x.hood := by rw [totT_eq h]
  have hit : ∀ n, n < x.hood.length → ∀ s : Int, s = 0 ∨ s = 1 → hitP (totT x).1 s n = decide (nextT x ((n : Int), s) = 1) := fun n hn s hs => by
    unfold hitP
    rw [tot_eval h (by rw [inN_len, hps]) (inN_rng (by rcases hs with e | e <;> rw [e] <;> omega) k2), val_inN h hps hn hs]
    simp
  constructor
  · unfold numsP numsTo
    rw [hps, List.range_eq_range']
    refine Eq.trans ?_ (asc_all ((x.hood.length : Int) - 1) x.hood.length 0 x.birth (by omega) a1)
    congr 1
    refine List.filter_congr (fun n hn => ?_)
    have hn2 := (List.mem_range'_1.1 hn).2
    rw [hit n (by omega) 0 (.inl rfl)]
    exact decide_eq_decide.2 (next_hit k2 _).1
  · unfold numsP numsTo
    rw [hps, List.range_eq_range']
    refine Eq.trans ?_ (asc_all ((x.hood.length : Int) - 1) x.hood.length 0 x.survive (by omega) a2)
    congr 1
    refine List.filter_congr (fun n hn => ?_)
    have hn2 := (List.mem_range'_1.1 hn).2
    rw [hit n (by omega) 1 (.inr rfl)]
    exact decide_eq_decide.2 (next_hit k2 _).2
/-- Back restores a rule by counts -/
theorem back_tot {x : TotL} (h : rightT x = true) : backP (totT x).1 = (x, true) := by
  obtain ⟨t1, t2, t3⟩ := tot_parts h
  obtain ⟨n1, n2⟩ := nums_eq h
  have hto : totOf (totT x).1 = x := by
    unfold totOf
    rw [n1, n2, totT_eq h]
  have hred : redT (totT x).1 = (totT x).1 := by
    rw [totT_eq h]
    exact red_uniq t3 rfl rfl t1 (fun _ _ _ => rfl)
  have hb : backB (totT x).1 = true := by
    unfold backB
    have h1 : PT.right (totT x).1 = true := by rw [totT_eq h]; exact t3
    rw [h1, totT_eq h]
    unfold rightT at h ⊢
    simp only [Bool.and_eq_true, decide_eq_true_eq] at h ⊢
    exact ⟨trivial, ⟨⟨h.1.1, rfl⟩, rfl⟩⟩
  have hs : sameP (totT x).1 (totT x).1 = true := by unfold sameP; simp
  unfold backP
  rw [if_pos hb, hto, hred, if_pos hs]
end Go.Proofs.YtmlhkbgifnifdaaGreatDoor
namespace Go.Proofs.YtmlhkbgifnifdaaGreatDoor
set_option linter.unusedVariables false
set_option linter.unusedSimpArgs false

def elemN (n : Int) : List Nd := (bld (sysE n) 3 0 ([], [])).2.2
def sumN (q n : Int) : List Nd := (bld (sysS q n) 3 0 ([], [])).2.2
theorem elemT_eq {n : Int} (h : okE n = true) : elemT n = (⟨2, rowP, elemN n⟩, 0) := by unfold elemT elemN; rw [if_pos h]
theorem elem_right (n : Int) : rightN 2 rowP (elemN n) = true := by
  have hcan : Can 2 3 (elemN n) := (elem_can n).1
  have hsz : (elemN n).length ≤ 4096 := bld_size (Y := sysE n) (R := rngE) (rngE_step n) (rngE_fin n) (s := (0 : Int)) ⟨by decide, by decide, by decide⟩ 4096 (fun p => p.1 * 8 + p.2.toNat)
    (fun a s hr ha => by
      obtain ⟨r1, r2, r3⟩ := hr
      change a < 3 at ha
      have h4 : 2 ^ a ≤ 2 ^ 3 := Nat.pow_le_pow_right (by decide) r3
      dsimp only
      omega)
    (fun a s a' s' hr ha hr' ha' e => by
      obtain ⟨r1, r2, r3⟩ := hr
      obtain ⟨q1, q2, q3⟩ := hr'
      change a < 3 at ha
      change a' < 3 at ha'
      have h4 : 2 ^ a ≤ 2 ^ 2 := Nat.pow_le_pow_right (by decide) (by omega)
      have h5 : 2 ^ a' ≤ 2 ^ 2 := Nat.pow_le_pow_right (by decide) (by omega)
      dsimp only at e
      exact ⟨by omega, by omega⟩)
  exact rightN_of (by decide) (by decide) (by decide) hcan.pos hsz hcan.root hcan.v hcan.lv
theorem sum_right {q n : Int} (hk : okS q n) : rightN q rowP (sumN q n) = true := by
  have hcan : Can q.toNat 3 (sumN q n) := (sums_can hk).1
  have k1 := hk.1
  have k2 := hk.2.1
  have hsz : (sumN q n).length ≤ 4096 := bld_size (Y := sysS q n) (R := rngS q) (rngS_step hk) (rngS_fin hk) (s := (0 : Int)) ⟨by decide, by omega, by decide⟩ 4096 (fun p => p.1 * 128 + p.2.toNat)
    (fun a s hr ha => by
      have h4 := rngS_le hk hr
      change a < 3 at ha
      dsimp only
      omega)
    (fun a s a' s' hr ha hr' ha' e => by
      have h4 := rngS_le hk hr
      have h5 := rngS_le hk hr'
      obtain ⟨r1, -, -⟩ := hr
      obtain ⟨q1, -, -⟩ := hr'
      dsimp only at e
      exact ⟨by omega, by omega⟩)
  exact rightN_of k1 k2 (by decide) hcan.pos hsz hcan.root hcan.v hcan.lv
theorem row_eval {q : Int} {ns : List Nd} {g : Nat → Nat → Nat → Int} (hr : rightN q rowP ns = true) (hv : ∀ a b c, a < q.toNat → b < q.toNat → c < q.toNat → val ns ((ns.length - 1 : Nat) : Int) [a, b, c] = g a b c) {a b c : Nat} (ha : a < q.toNat) (hb : b < q.toNat) (hc : c < q.toNat) : evalP ⟨q, rowP, ns⟩ [(a : Int), (b : Int), (c : Int)] = (g a b c, 0) := by
  have hr' : PT.right ⟨q, rowP, ns⟩ = true := hr
  have hbad : [(a : Int), (b : Int), (c : Int)].any (badS q) = false := by
    rw [List.any_eq_false]
    intro z hz
    simp only [badS, Bool.or_eq_true, decide_eq_true_eq]
    simp at hz
    rcases hz with e | e | e <;> rw [e] <;> omega
  unfold evalP
  rw [if_pos hr']
  dsimp only
  rw [if_pos (by rfl), hbad, if_neg (by simp)]
  rw [← hv a b c ha hb hc]
  rfl
theorem elem_eval {n : Int} (h : okE n = true) {a b c : Nat} (ha : a < 2) (hb : b < 2) (hc : c < 2) : evalP (elemT n).1 [(a : Int), (b : Int), (c : Int)] = (fE n a b c, 0) := by
  rw [elemT_eq h]
  have hv : ∀ a b c, a < (2 : Int).toNat → b < (2 : Int).toNat → c < (2 : Int).toNat → val (elemN n) (((elemN n).length - 1 : Nat) : Int) [a, b, c] = fE n a b c := (elem_can n).2
  exact row_eval (q := 2) (ns := elemN n) (g := fE n) (elem_right n) hv (a := a) (b := b) (c := c) ha hb hc
theorem sum_eval {q n : Int} (h : (digsT q n).2 = 0) {a b c : Nat} (ha : a < q.toNat) (hb : b < q.toNat) (hc : c < q.toNat) : evalP (sumT q n).1 [(a : Int), (b : Int), (c : Int)] = (fS q n a b c, 0) := by
  have e : sumT q n = (⟨q, rowP, sumN q n⟩, 0) := by unfold sumT sumN; rw [if_pos h]
  rw [e]
  have hv : ∀ a b c, a < q.toNat → b < q.toNat → c < q.toNat → val (sumN q n) (((sumN q n).length - 1 : Nat) : Int) [a, b, c] = fS q n a b c := (sums_can (sums_ok h)).2
  exact row_eval (q := q) (ns := sumN q n) (g := fS q n) (sum_right (sums_ok h)) hv (a := a) (b := b) (c := c) ha hb hc
theorem fE_low {n : Int} (h : okE n = true) : fE n 0 0 0 = n % 2 := by
  unfold fE elemL
  rw [if_pos h]
  rfl
theorem elem_quiet {n : Int} (h : okE n = true) : quietP (elemT n).1 = decide (fE n 0 0 0 = 0) := by
  rw [elemT_eq h]
  unfold quietP
  have h0 : val (elemN n) (((elemN n).length - 1 : Nat) : Int) [0, 0, 0] = fE n 0 0 0 := (elem_can n).2 0 0 0 (by decide) (by decide) (by decide)
  have hr : rightN 2 rowP (elemN n) = true := elem_right n
  unfold PT.right
  dsimp only
  rw [hr]
  rw [show List.replicate rowP.length 0 = [0, 0, 0] from rfl, h0]
  rw [Bool.true_and]
  by_cases h1 : fE n 0 0 0 = 0
  · rw [h1]; rfl
  · rw [decide_eq_false h1]
    exact beq_false_of_ne h1
end Go.Proofs.YtmlhkbgifnifdaaGreatDoor
namespace Go.Proofs.YtmlhkbgifnifdaaGreatDoor
set_option linter.unusedSimpArgs false
set_option linter.unusedVariables false
set_option maxRecDepth 100000

def lifeT : TotL := ⟨mooreL 1, 2, [3], [2, 3]⟩
def wantT : PT := ⟨2, rowP, [(1, [0, 0]), (2, [0, 0]), (3, [1, 1])]⟩
theorem life_right : rightT lifeT = true := by decide
theorem life_1 : evalP (totT lifeT).1 [1, 1, 1, 0, 0, 0, 0, 0, 0] = (1, 0) := by
  rw [tot_eval life_right (by decide) (by decide)]
  decide
theorem life_2 : evalP (totT lifeT).1 [1, 1, 1, 0, 1, 1, 1, 0, 0] = (0, 0) := by
  rw [tot_eval life_right (by decide) (by decide)]
  decide
theorem life_back : backP (totT lifeT).1 = (lifeT, true) := back_tot life_right
theorem life_same : sameTot lifeT lifeT = true := by decide
theorem zero_want : sameP (elemT 0).1 wantT = true := by decide
theorem zero_ok : (elemT 0).2 = 0 := by decide
theorem sums_want : sameP (sumT 2 0).1 wantT = true := by decide
theorem sums_ok0 : (sumT 2 0).2 = 0 := by decide
theorem zero_back : (backP (elemT 0).1).2 = false := by
  have h : backB (elemT 0).1 = false := by
    unfold backB
    have h1 : rightT ⟨(elemT 0).1.ps, (elemT 0).1.st, [], []⟩ = false := by
      rw [elemT_eq (by decide)]
      decide
    rw [h1, Bool.and_false]
  unfold backP
  rw [h]
  rfl
theorem none_tot : totT TotL.zero = (PT.zero, 2) := by
  have h : rightT TotL.zero = false := by decide
  unfold totT
  rw [h]
  rfl
end Go.Proofs.YtmlhkbgifnifdaaGreatDoor
