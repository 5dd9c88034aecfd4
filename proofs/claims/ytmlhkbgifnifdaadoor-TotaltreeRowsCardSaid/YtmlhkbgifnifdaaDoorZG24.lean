/-
  Back restores a rule by counts. No condition.
  The trees of rows lead to the digits. No condition.
  The chapter's examples, in plain lists. No condition.
  A variable of api.Totals in memory, and the literals of the chapter's examples. No condition.
-/
import Derived.Test.YtmlhkbgifnifdaaDoorZG23
import Derived.Test.YtmlhkbgifnifdaaDoorZG14
import Derived.Test.YtmlhkbgifnifdaaDoorZG22
import Derived.Test.YtmlhkbgifnifdaaDoorZG16
import Derived.Test.YtmlhkbgifnifdaaDoorZRRow
import Derived.Test.YtmlhkbgifnifdaaDoorZG11
namespace Go.Proofs.YtmlhkbgifnifdaaDoor
set_option linter.unusedVariables false
set_option linter.unusedSimpArgs false

theorem asc_gt {n : Int} : ∀ {l : List Int} {last : Int}, asc last n l = true → ∀ z ∈ l, last < z ∧ z ≤ n
  | [], last, _, z, hz => absurd hz (by simp)
  | k :: r, last, h, z, hz => by
    unfold asc at h
    simp only [Bool.and_eq_true, decide_eq_true_eq] at h
    rcases List.mem_cons.1 hz with e | e
    · rw [e]; exact h.1
    · have := asc_gt h.2 z e
      omega
theorem asc_all (n : Int) : ∀ (m a : Nat) (l : List Int), (a : Int) + m - 1 = n → asc ((a : Int) - 1) n l = true → ((List.range' a m).filter (fun (k : Nat) => decide ((k : Int) ∈ l))).map (fun (k : Nat) => (k : Int)) = l
  | 0, a, [], h, _ => rfl
  | 0, a, k :: r, h, hl => by
    have := asc_gt hl k (by simp)
    omega
  | m + 1, a, [], h, _ => by simp
  | m + 1, a, k :: r, h, hl => by
    have h0 := asc_gt hl k (by simp)
    unfold asc at hl
    simp only [Bool.and_eq_true, decide_eq_true_eq] at hl
    rw [List.range'_succ, List.filter_cons]
    by_cases hk : k = (a : Int)
    · subst hk
      rw [if_pos (by simp), List.map_cons]
      congr 1
      have ih := asc_all n m (a + 1) r (by omega) (by rw [show ((a + 1 : Nat) : Int) - 1 = (a : Int) by omega]; exact hl.2)
      rw [← ih]
      congr 1
      refine List.filter_congr (fun z hz => ?_)
      have hz2 := (List.mem_range'_1.1 hz).1
      rw [ih]
      refine decide_eq_decide.2 ⟨fun hm => ?_, fun hm => List.mem_cons_of_mem _ hm⟩
      rcases List.mem_cons.1 hm with e | e
      · omega
      · exact e
    · have hna : ¬ (a : Int) ∈ k :: r := fun hm => by
        rcases List.mem_cons.1 hm with e | e
        · exact hk e.symm
        · have := asc_gt hl.2 _ e
          omega
      rw [if_neg (by simpa using hna)]
      refine asc_all n m (a + 1) (k :: r) (by omega) ?_
      unfold asc
      rw [hl.2, decide_eq_true hl.1.2, decide_eq_true (by omega)]
      rfl
theorem fill_ok {ps : List (Int × Int)} (h : knownB ps = true) : ∀ n, n < ps.length → ∀ s : Int, s = 0 ∨ s = 1 → cntTo (ctrP ps).toNat ((fillTo (ctrP ps).toNat ps.length n ps.length).1.set (ctrP ps).toNat s) ps.length = n := by
  have key : ∀ c L, (c = 4 ∧ L = 9) ∨ (c = 2 ∧ L = 5) ∨ (c = 3 ∧ L = 7) → ∀ n, n < L → ∀ s : Int, s = 0 ∨ s = 1 → cntTo c ((fillTo c L n L).1.set c s) L = n := by
    rintro c L (⟨rfl, rfl⟩ | ⟨rfl, rfl⟩ | ⟨rfl, rfl⟩) n hn s (rfl | rfl) <;> revert n <;> decide
  unfold knownB at h
  simp only [Bool.or_eq_true, decide_eq_true_eq] at h
  rcases h with (h | h) | h <;> subst h
  · exact key _ _ (.inl ⟨by decide, by decide⟩)
  · exact key _ _ (.inr (.inl ⟨by decide, by decide⟩))
  · exact key _ _ (.inr (.inr ⟨by decide, by decide⟩))
theorem rightT_asc {x : TotL} (h : rightT x = true) : asc (-1) ((x.hood.length : Int) - 1) x.birth = true ∧ asc (-1) ((x.hood.length : Int) - 1) x.survive = true := by
  unfold rightT at h
  simp only [Bool.and_eq_true, decide_eq_true_eq] at h
  exact ⟨h.1.2, h.2⟩
theorem inN_rng {t : PT} {n : Nat} {s q : Int} (hs : 0 ≤ s ∧ s < q) (hq : 2 ≤ q) : ∀ z ∈ inN t n s, 0 ≤ z ∧ z < q := fun z hz => by
  have key : ∀ c L i, ∀ z ∈ (fillTo c L n i).1, 0 ≤ z ∧ z < q := fun c L i => by
    induction i with
    | zero => intro z hz; rw [List.eq_of_mem_replicate hz]; omega
    | succ i ih =>
      intro z hz
      unfold fillTo at hz
      split at hz
      · rcases List.mem_or_eq_of_mem_set hz with h | h
        · exact ih z h
        · rw [h]; omega
      · exact ih z hz
  unfold inN at hz
  rcases List.mem_or_eq_of_mem_set hz with h | h
  · exact key _ _ _ z h
  · rw [h]; exact hs
theorem val_inN {x : TotL} (h : rightT x = true) {t : PT} (ht : t.ps = x.hood) {n : Nat} (hn : n < x.hood.length) {s : Int} (hs : s = 0 ∨ s = 1) : valP x (inN t n s) = nextT x ((n : Int), s) := by
  obtain ⟨k1, k2, k3⟩ := rightT_parts h
  obtain ⟨c, c1, c2, -⟩ := known_ctr k1
  unfold valP
  rw [inN_len, ht]
  have e1 := fill_ok k1 n hn s hs
  have e2 : inN t n s = (fillTo (ctrP x.hood).toNat x.hood.length n x.hood.length).1.set (ctrP x.hood).toNat s := by unfold inN; rw [ht]
  have e3 : (inN t n s).getD (ctrP x.hood).toNat 0 = s := by
    rw [e2, List.getD_eq_getElem?_getD, List.getElem?_set_self (by rw [fillTo_len, c1]; omega)]
    rfl
  rw [e3, e2, e1]
theorem next_hit {x : TotL} (hq : 2 ≤ x.states) (n : Int) : (nextT x (n, 0) = 1 ↔ n ∈ x.birth) ∧ (nextT x (n, 1) = 1 ↔ n ∈ x.survive) := by
  constructor
  · show (if (0 : Int) = 0 then (if n ∈ x.birth then (1 : Int) else 0) else _) = 1 ↔ _
    rw [if_pos rfl]
    by_cases h : n ∈ x.birth
    · simp [h]
    · simp [h]
  · show (if (1 : Int) = 0 then _ else if (1 : Int) = 1 ∧ n ∈ x.survive then (1 : Int) else ((1 : Int) + 1).tmod x.states) = 1 ↔ _
    rw [if_neg (by decide)]
    by_cases h : n ∈ x.survive
    · rw [if_pos ⟨rfl, h⟩]; simp [h]
    · rw [if_neg (fun hh => h hh.2)]
      refine ⟨fun e => ?_, fun hh => absurd hh h⟩
      exfalso
      by_cases h2 : x.states = 2
      · rw [h2] at e; exact absurd e (by decide)
      · rw [Int.tmod_eq_of_lt (by decide) (by omega)] at e
        exact absurd e (by decide)
theorem nums_eq {x : TotL} (h : rightT x = true) : numsP (totT x).1 0 = x.birth ∧ numsP (totT x).1 1 = x.survive := by
  obtain ⟨k1, k2, k3⟩ := rightT_parts h
  obtain ⟨a1, a2⟩ := rightT_asc h
  have hps : (totT x).1.ps = x.hood := by rw [totT_eq h]
  have hit : ∀ n, n < x.hood.length → ∀ s : Int, s = 0 ∨ s = 1 → hitP (totT x).1 s n = decide (nextT x ((n : Int), s) = 1) := fun n hn s hs => by
    unfold hitP
    rw [tot_eval h (by rw [inN_len, hps]) (inN_rng (by rcases hs with e | e <;> rw [e] <;> omega) k2), val_inN h hps hn hs]
    simp
  constructor
  · unfold numsP numsTo
    rw [hps, List.range_eq_range']
    refine Eq.trans ?_ (asc_all ((x.hood.length : Int) - 1) x.hood.length 0 x.birth (by omega) a1)
    congr 1
    refine List.filter_congr (fun n hn => ?_)
    have hn2 := (List.mem_range'_1.1 hn).2
    rw [hit n (by omega) 0 (.inl rfl)]
    exact decide_eq_decide.2 (next_hit k2 _).1
  · unfold numsP numsTo
    rw [hps, List.range_eq_range']
    refine Eq.trans ?_ (asc_all ((x.hood.length : Int) - 1) x.hood.length 0 x.survive (by omega) a2)
    congr 1
    refine List.filter_congr (fun n hn => ?_)
    have hn2 := (List.mem_range'_1.1 hn).2
    rw [hit n (by omega) 1 (.inr rfl)]
    exact decide_eq_decide.2 (next_hit k2 _).2
/-- Back restores a rule by counts -/
theorem back_tot {x : TotL} (h : rightT x = true) : backP (totT x).1 = (x, true) := by
  obtain ⟨t1, t2, t3⟩ := tot_parts h
  obtain ⟨n1, n2⟩ := nums_eq h
  have hto : totOf (totT x).1 = x := by
    unfold totOf
    rw [n1, n2, totT_eq h]
  have hred : redT (totT x).1 = (totT x).1 := by
    rw [totT_eq h]
    exact red_uniq t3 rfl rfl t1 (fun _ _ _ => rfl)
  have hb : backB (totT x).1 = true := by
    unfold backB
    have h1 : PT.right (totT x).1 = true := by rw [totT_eq h]; exact t3
    rw [h1, totT_eq h]
    unfold rightT at h ⊢
    simp only [Bool.and_eq_true, decide_eq_true_eq] at h ⊢
    exact ⟨trivial, ⟨⟨h.1.1, rfl⟩, rfl⟩⟩
  have hs : sameP (totT x).1 (totT x).1 = true := by unfold sameP; simp
  unfold backP
  rw [if_pos hb, hto, hred, if_pos hs]
end Go.Proofs.YtmlhkbgifnifdaaDoor
namespace Go.Proofs.YtmlhkbgifnifdaaDoor
set_option linter.unusedVariables false
set_option linter.unusedSimpArgs false

def elemN (n : Int) : List Nd := (bld (sysE n) 3 0 ([], [])).2.2
def sumN (q n : Int) : List Nd := (bld (sysS q n) 3 0 ([], [])).2.2
theorem elemT_eq {n : Int} (h : okE n = true) : elemT n = (⟨2, rowP, elemN n⟩, 0) := by unfold elemT elemN; rw [if_pos h]
theorem elem_right (n : Int) : rightN 2 rowP (elemN n) = true := by
  have hcan : Can 2 3 (elemN n) := (elem_can n).1
  have hsz : (elemN n).length ≤ 4096 := bld_size (Y := sysE n) (R := rngE) (rngE_step n) (rngE_fin n) (s := (0 : Int)) ⟨by decide, by decide, by decide⟩ 4096 (fun p => p.1 * 8 + p.2.toNat)
    (fun a s hr ha => by
      obtain ⟨r1, r2, r3⟩ := hr
      change a < 3 at ha
      have h4 : 2 ^ a ≤ 2 ^ 3 := Nat.pow_le_pow_right (by decide) r3
      dsimp only
      omega)
    (fun a s a' s' hr ha hr' ha' e => by
      obtain ⟨r1, r2, r3⟩ := hr
      obtain ⟨q1, q2, q3⟩ := hr'
      change a < 3 at ha
      change a' < 3 at ha'
      have h4 : 2 ^ a ≤ 2 ^ 2 := Nat.pow_le_pow_right (by decide) (by omega)
      have h5 : 2 ^ a' ≤ 2 ^ 2 := Nat.pow_le_pow_right (by decide) (by omega)
      dsimp only at e
      exact ⟨by omega, by omega⟩)
  exact rightN_of (by decide) (by decide) (by decide) hcan.pos hsz hcan.root hcan.v hcan.lv
theorem sum_right {q n : Int} (hk : okS q n) : rightN q rowP (sumN q n) = true := by
  have hcan : Can q.toNat 3 (sumN q n) := (sums_can hk).1
  have k1 := hk.1
  have k2 := hk.2.1
  have hsz : (sumN q n).length ≤ 4096 := bld_size (Y := sysS q n) (R := rngS q) (rngS_step hk) (rngS_fin hk) (s := (0 : Int)) ⟨by decide, by omega, by decide⟩ 4096 (fun p => p.1 * 128 + p.2.toNat)
    (fun a s hr ha => by
      have h4 := rngS_le hk hr
      change a < 3 at ha
      dsimp only
      omega)
    (fun a s a' s' hr ha hr' ha' e => by
      have h4 := rngS_le hk hr
      have h5 := rngS_le hk hr'
      obtain ⟨r1, -, -⟩ := hr
      obtain ⟨q1, -, -⟩ := hr'
      dsimp only at e
      exact ⟨by omega, by omega⟩)
  exact rightN_of k1 k2 (by decide) hcan.pos hsz hcan.root hcan.v hcan.lv
theorem row_eval {q : Int} {ns : List Nd} {g : Nat → Nat → Nat → Int} (hr : rightN q rowP ns = true) (hv : ∀ a b c, a < q.toNat → b < q.toNat → c < q.toNat → val ns ((ns.length - 1 : Nat) : Int) [a, b, c] = g a b c) {a b c : Nat} (ha : a < q.toNat) (hb : b < q.toNat) (hc : c < q.toNat) : evalP ⟨q, rowP, ns⟩ [(a : Int), (b : Int), (c : Int)] = (g a b c, 0) := by
  have hr' : PT.right ⟨q, rowP, ns⟩ = true := hr
  have hbad : [(a : Int), (b : Int), (c : Int)].any (badS q) = false := by
    rw [List.any_eq_false]
    intro z hz
    simp only [badS, Bool.or_eq_true, decide_eq_true_eq]
    simp at hz
    rcases hz with e | e | e <;> rw [e] <;> omega
  unfold evalP
  rw [if_pos hr']
  dsimp only
  rw [if_pos (by rfl), hbad, if_neg (by simp)]
  rw [← hv a b c ha hb hc]
  rfl
theorem elem_eval {n : Int} (h : okE n = true) {a b c : Nat} (ha : a < 2) (hb : b < 2) (hc : c < 2) : evalP (elemT n).1 [(a : Int), (b : Int), (c : Int)] = (fE n a b c, 0) := by
  rw [elemT_eq h]
  have hv : ∀ a b c, a < (2 : Int).toNat → b < (2 : Int).toNat → c < (2 : Int).toNat → val (elemN n) (((elemN n).length - 1 : Nat) : Int) [a, b, c] = fE n a b c := (elem_can n).2
  exact row_eval (q := 2) (ns := elemN n) (g := fE n) (elem_right n) hv (a := a) (b := b) (c := c) ha hb hc
theorem sum_eval {q n : Int} (h : (digsT q n).2 = 0) {a b c : Nat} (ha : a < q.toNat) (hb : b < q.toNat) (hc : c < q.toNat) : evalP (sumT q n).1 [(a : Int), (b : Int), (c : Int)] = (fS q n a b c, 0) := by
  have e : sumT q n = (⟨q, rowP, sumN q n⟩, 0) := by unfold sumT sumN; rw [if_pos h]
  rw [e]
  have hv : ∀ a b c, a < q.toNat → b < q.toNat → c < q.toNat → val (sumN q n) (((sumN q n).length - 1 : Nat) : Int) [a, b, c] = fS q n a b c := (sums_can (sums_ok h)).2
  exact row_eval (q := q) (ns := sumN q n) (g := fS q n) (sum_right (sums_ok h)) hv (a := a) (b := b) (c := c) ha hb hc
theorem fE_low {n : Int} (h : okE n = true) : fE n 0 0 0 = n % 2 := by
  unfold fE elemL
  rw [if_pos h]
  rfl
theorem elem_quiet {n : Int} (h : okE n = true) : quietP (elemT n).1 = decide (fE n 0 0 0 = 0) := by
  rw [elemT_eq h]
  unfold quietP
  have h0 : val (elemN n) (((elemN n).length - 1 : Nat) : Int) [0, 0, 0] = fE n 0 0 0 := (elem_can n).2 0 0 0 (by decide) (by decide) (by decide)
  have hr : rightN 2 rowP (elemN n) = true := elem_right n
  unfold PT.right
  dsimp only
  rw [hr]
  rw [show List.replicate rowP.length 0 = [0, 0, 0] from rfl, h0]
  rw [Bool.true_and]
  by_cases h1 : fE n 0 0 0 = 0
  · rw [h1]; rfl
  · rw [decide_eq_false h1]
    exact beq_false_of_ne h1
end Go.Proofs.YtmlhkbgifnifdaaDoor
namespace Go.Proofs.YtmlhkbgifnifdaaDoor
set_option linter.unusedSimpArgs false
set_option linter.unusedVariables false
set_option maxRecDepth 100000

def lifeT : TotL := ⟨mooreL 1, 2, [3], [2, 3]⟩
def wantT : PT := ⟨2, rowP, [(1, [0, 0]), (2, [0, 0]), (3, [1, 1])]⟩
theorem life_right : rightT lifeT = true := by decide
theorem life_1 : evalP (totT lifeT).1 [1, 1, 1, 0, 0, 0, 0, 0, 0] = (1, 0) := by
  rw [tot_eval life_right (by decide) (by decide)]
  decide
theorem life_2 : evalP (totT lifeT).1 [1, 1, 1, 0, 1, 1, 1, 0, 0] = (0, 0) := by
  rw [tot_eval life_right (by decide) (by decide)]
  decide
theorem life_back : backP (totT lifeT).1 = (lifeT, true) := back_tot life_right
theorem life_same : sameTot lifeT lifeT = true := by decide
theorem zero_want : sameP (elemT 0).1 wantT = true := by decide
theorem zero_ok : (elemT 0).2 = 0 := by decide
theorem sums_want : sameP (sumT 2 0).1 wantT = true := by decide
theorem sums_ok0 : (sumT 2 0).2 = 0 := by decide
theorem zero_back : (backP (elemT 0).1).2 = false := by
  have h : backB (elemT 0).1 = false := by
    unfold backB
    have h1 : rightT ⟨(elemT 0).1.ps, (elemT 0).1.st, [], []⟩ = false := by
      rw [elemT_eq (by decide)]
      decide
    rw [h1, Bool.and_false]
  unfold backP
  rw [h]
  rfl
theorem none_tot : totT TotL.zero = (PT.zero, 2) := by
  have h : rightT TotL.zero = false := by decide
  unfold totT
  rw [h]
  rfl
end Go.Proofs.YtmlhkbgifnifdaaDoor
namespace Go.Proofs.YtmlhkbgifnifdaaDoor
set_option linter.unusedSimpArgs false
open Go.RowKit Go.Maps
set_option linter.unusedVariables false
set_option maxRecDepth 100000

/-- the four cells of a rule by counts -/
structure TtV (w : World) (p : Nat) (A : Option Addr) (n a : Nat) (s : Int) (B : Option Addr) (m b : Nat) (C : Option Addr) (k c : Nat) (x : TotL) : Prop where
  blk : Blk w p 25 #[.slice A n a, .int .i64 s, .slice B m b, .slice C k c]
  at_ : TotR w A B C x
  len0 : n = x.hood.length
  st_ : s = x.states
  len1 : m = x.birth.length
  len2 : k = x.survive.length
section
variable {w w' : World} {p : Nat} {s : Int} {A B C : Option Addr} {n a m b k c : Nat} {x y : TotL} {v : Value}
theorem TtV.ext (h : TtV w p A n a s B m b C k c x) (hb : Below w.heap.size w w') : TtV w' p A n a s B m b C k c x := ⟨h.blk.below hb h.blk.lt, h.at_.ext hb, h.len0, h.st_, h.len1, h.len2⟩
theorem TtV.cells (h : TtV w p A n a s B m b C k c x) : w.cell? ⟨p, 0, none⟩ = some (.slice A n a) ∧ w.cell? ⟨p, 1, none⟩ = some (.int .i64 s) ∧ w.cell? ⟨p, 2, none⟩ = some (.slice B m b) ∧ w.cell? ⟨p, 3, none⟩ = some (.slice C k c) :=
  ⟨h.blk.cell_ 0 (.slice A n a) rfl, h.blk.cell_ 1 (.int .i64 s) rfl, h.blk.cell_ 2 (.slice B m b) rfl, h.blk.cell_ 3 (.slice C k c) rfl⟩
theorem TtV.val (h : TtV w p A n a s B m b C k c x) : (.agg #[.slice A n a, .int .i64 s, .slice B m b, .slice C k c] : Value) = totV A a B b C c x := by
  obtain ⟨-, -, rfl, rfl, rfl, rfl⟩ := h
  rfl
theorem TtV.new {A B C : Option Addr} {a b c : Nat} (h : TotR w A B C x) : TtV (w.alloc (.cells #[.slice A x.hood.length a, .int .i64 x.states, .slice B x.birth.length b, .slice C x.survive.length c] 25)) w.heap.size A x.hood.length a x.states B x.birth.length b C x.survive.length c x :=
  ⟨Blk.new _ _ _, h.ext (below_new _ _), rfl, rfl, rfl, rfl⟩
theorem totals_tv (h : TtV w p A n a s B m b C k c x) (hT : TabB w.heap.size w) : Calls Tryd.prog 9 #[.agg #[.slice A n a, .int .i64 s, .slice B m b, .slice C k c]] w (RetAE (totT x) w) := by
  rw [h.val]; exact totals_any _ _ _ _ _ _ _ _ h.at_ hT
theorem tsame_tv {p' : Nat} {s' : Int} {A' B' C' : Option Addr} {n' a' m' b' k' c' : Nat} (h : TtV w p A n a s B m b C k c x) (h' : TtV w p' A' n' a' s' B' m' b' C' k' c' y) :
    Calls Tryd.prog 26 #[.agg #[.slice A n a, .int .i64 s, .slice B m b, .slice C k c], .agg #[.slice A' n' a', .int .i64 s', .slice B' m' b', .slice C' k' c']] w fun e w' => e = .returned (.bool (sameTot x y)) ∧ Below w.heap.size w w' := by
  rw [h.val, h'.val]; exact rtsame_any _ _ _ _ _ _ _ _ _ _ _ _ _ _ _ h.at_ h'.at_
theorem back_tv {t : PT} (h : TreeAt w v t) (hT : TabB w.heap.size w) : Calls Tryd.prog 25 #[v] w (RetTot (backP t) w) := by
  obtain ⟨A, c, B, d, os, rfl, h1, h2, h3⟩ := h
  have := tback_any t.st A c t.ps B d os w h1 h2 hT
  rw [h3] at this
  exact this
end
theorem ints1 (w : World) (base : Nat) (hb : base ≤ w.heap.size) (a : Int) : OwnIA (w.alloc (.cells #[.int .i64 a] 3)) base (.slice (some ⟨w.heap.size, 0, none⟩) 1 1) [a] :=
  World.ownsRow_lit (base := base) (e := 3) (size := 1) w #[.int .i64 a] 1 hb (by decide) rfl
theorem ints2 (w : World) (base : Nat) (hb : base ≤ w.heap.size) (a b : Int) : OwnIA (w.alloc (.cells #[.int .i64 a, .int .i64 b] 3)) base (.slice (some ⟨w.heap.size, 0, none⟩) 2 2) [a, b] :=
  World.ownsRow_lit (base := base) (e := 3) (size := 1) w #[.int .i64 a, .int .i64 b] 2 hb (by decide) rfl
theorem ints3 (w : World) (base : Nat) (hb : base ≤ w.heap.size) (a b c : Int) : OwnIA (w.alloc (.cells #[.int .i64 a, .int .i64 b, .int .i64 c] 3)) base (.slice (some ⟨w.heap.size, 0, none⟩) 3 3) [a, b, c] :=
  World.ownsRow_lit (base := base) (e := 3) (size := 1) w #[.int .i64 a, .int .i64 b, .int .i64 c] 3 hb (by decide) rfl
theorem ints9 (w : World) (base : Nat) (hb : base ≤ w.heap.size) (a b c d e f g h i : Int) : OwnIA (w.alloc (.cells #[.int .i64 a, .int .i64 b, .int .i64 c, .int .i64 d, .int .i64 e, .int .i64 f, .int .i64 g, .int .i64 h, .int .i64 i] 3)) base (.slice (some ⟨w.heap.size, 0, none⟩) 9 9) [a, b, c, d, e, f, g, h, i] :=
  World.ownsRow_lit (base := base) (e := 3) (size := 1) w #[.int .i64 a, .int .i64 b, .int .i64 c, .int .i64 d, .int .i64 e, .int .i64 f, .int .i64 g, .int .i64 h, .int .i64 i] 9 hb (by decide) rfl
theorem size_new (w : World) (b : Obj) : (w.alloc b).heap.size = w.heap.size + 1 := by simp
/-- the rule of the examples, behind its neighbourhood -/
theorem lit_life (w wz : World) (A : Option Addr) (n a : Nat) (hn : n = (mooreL 1).length) (hp : Pts w A (mooreL 1)) (hz : wz = ((w.alloc (.cells #[.int .i64 3] 3)).alloc (.cells #[.int .i64 2, .int .i64 3] 3)).alloc (.cells #[.slice A n a, .int .i64 2, .slice (some ⟨w.heap.size, 0, none⟩) 1 1, .slice (some ⟨w.heap.size + 1, 0, none⟩) 2 2] 25)) :
    Below w.heap.size w wz ∧ TtV wz (w.heap.size + 1 + 1) A n a 2 (some ⟨w.heap.size, 0, none⟩) 1 1 (some ⟨w.heap.size + 1, 0, none⟩) 2 2 lifeT := by
  obtain ⟨w1, h1⟩ : ∃ w1, w1 = w.alloc (.cells #[.int .i64 3] 3) := ⟨_, rfl⟩
  obtain ⟨w2, h2⟩ : ∃ w2, w2 = w1.alloc (.cells #[.int .i64 2, .int .i64 3] 3) := ⟨_, rfl⟩
  rw [← h1, ← h2] at hz
  have z1 : w1.heap.size = w.heap.size + 1 := by rw [h1]; exact size_new _ _
  have z2 : w2.heap.size = w.heap.size + 1 + 1 := by rw [h2, size_new, z1]
  have b1 : Below w.heap.size w w1 := by rw [h1]; exact below_new _ _
  have b2 : Below w1.heap.size w1 w2 := by rw [h2]; exact below_new _ _
  have b3 : Below w2.heap.size w2 wz := by rw [hz]; exact below_new _ _
  have b23 := b2.trans (b3.mono b2.size)
  have b13 := b1.trans (b23.mono b1.size)
  have i1 : OwnIA w1 w.heap.size (.slice (some ⟨w.heap.size, 0, none⟩) 1 1) [3] := by rw [h1]; exact ints1 w _ (Nat.le_refl _) 3
  have i2 : OwnIA w2 w.heap.size (.slice (some ⟨w.heap.size + 1, 0, none⟩) 2 2) [2, 3] := by
    have : OwnIA w2 w.heap.size (.slice (some ⟨w1.heap.size, 0, none⟩) 2 2) [2, 3] := by rw [h2]; exact ints2 w1 _ b1.size 2 3
    rw [z1] at this
    exact this
  refine ⟨b13, ?_, ⟨hp.ext b13, (OwnI.reads i1).ext b23, (OwnI.reads i2).ext b3⟩, hn, rfl, rfl, rfl⟩
  rw [hz, ← z2]
  exact Blk.new _ _ _
/-- the wanted tree, behind its neighbourhood -/
theorem lit_want (w wz : World) (A : Option Addr) (n a : Nat) (hn : n = rowP.length) (hp : Pts w A rowP) (hz : wz = ((((w.alloc (.cells #[.int .i64 0, .int .i64 0] 3)).alloc (.cells #[.int .i64 0, .int .i64 0] 3)).alloc (.cells #[.int .i64 1, .int .i64 1] 3)).alloc
      (.cells #[.int .i64 1, .slice (some ⟨w.heap.size, 0, none⟩) 2 2, .int .i64 2, .slice (some ⟨w.heap.size + 1, 0, none⟩) 2 2, .int .i64 3, .slice (some ⟨w.heap.size + 1 + 1, 0, none⟩) 2 2] 59)).alloc
      (.cells #[.int .i64 2, .slice A n a, .slice (some ⟨w.heap.size + 1 + 1 + 1, 0, none⟩) 3 3] 31)) :
    Below w.heap.size w wz ∧ TrV wz (w.heap.size + 1 + 1 + 1 + 1) 2 A n a (some ⟨w.heap.size + 1 + 1 + 1, 0, none⟩) 3 3 wantT := by
  obtain ⟨w1, h1⟩ : ∃ w1, w1 = w.alloc (.cells #[.int .i64 0, .int .i64 0] 3) := ⟨_, rfl⟩
  obtain ⟨w2, h2⟩ : ∃ w2, w2 = w1.alloc (.cells #[.int .i64 0, .int .i64 0] 3) := ⟨_, rfl⟩
  obtain ⟨w3, h3⟩ : ∃ w3, w3 = w2.alloc (.cells #[.int .i64 1, .int .i64 1] 3) := ⟨_, rfl⟩
  obtain ⟨w4, h4⟩ : ∃ w4, w4 = w3.alloc (.cells #[.int .i64 1, .slice (some ⟨w.heap.size, 0, none⟩) 2 2, .int .i64 2, .slice (some ⟨w.heap.size + 1, 0, none⟩) 2 2, .int .i64 3, .slice (some ⟨w.heap.size + 1 + 1, 0, none⟩) 2 2] 59) := ⟨_, rfl⟩
  rw [← h1, ← h2, ← h3, ← h4] at hz
  have z1 : w1.heap.size = w.heap.size + 1 := by rw [h1]; exact size_new _ _
  have z2 : w2.heap.size = w.heap.size + 1 + 1 := by rw [h2, size_new, z1]
  have z3 : w3.heap.size = w.heap.size + 1 + 1 + 1 := by rw [h3, size_new, z2]
  have z4 : w4.heap.size = w.heap.size + 1 + 1 + 1 + 1 := by rw [h4, size_new, z3]
  have b1 : Below w.heap.size w w1 := by rw [h1]; exact below_new _ _
  have b2 : Below w1.heap.size w1 w2 := by rw [h2]; exact below_new _ _
  have b3 : Below w2.heap.size w2 w3 := by rw [h3]; exact below_new _ _
  have b4 : Below w3.heap.size w3 w4 := by rw [h4]; exact below_new _ _
  have b5 : Below w4.heap.size w4 wz := by rw [hz]; exact below_new _ _
  have b45 := b4.trans (b5.mono b4.size)
  have b35 := b3.trans (b45.mono b3.size)
  have b25 := b2.trans (b35.mono b2.size)
  have b15 := b1.trans (b25.mono b1.size)
  have i1 : OwnIA wz w.heap.size (.slice (some ⟨w.heap.size, 0, none⟩) 2 2) [0, 0] := by
    have : OwnIA w1 w.heap.size (.slice (some ⟨w.heap.size, 0, none⟩) 2 2) [0, 0] := by rw [h1]; exact ints2 w _ (Nat.le_refl _) 0 0
    exact OwnI.ext this b25
  have i2 : OwnIA wz w.heap.size (.slice (some ⟨w.heap.size + 1, 0, none⟩) 2 2) [0, 0] := by
    have : OwnIA w2 w.heap.size (.slice (some ⟨w1.heap.size, 0, none⟩) 2 2) [0, 0] := by rw [h2]; exact ints2 w1 _ b1.size 0 0
    rw [z1] at this
    exact OwnI.ext this b35
  have i3 : OwnIA wz w.heap.size (.slice (some ⟨w.heap.size + 1 + 1, 0, none⟩) 2 2) [1, 1] := by
    have : OwnIA w3 w.heap.size (.slice (some ⟨w2.heap.size, 0, none⟩) 2 2) [1, 1] := by rw [h3]; exact ints2 w2 _ (by rw [z2]; omega) 1 1
    rw [z2] at this
    exact OwnI.ext this b45
  have hn4 : OwnNA w4 w.heap.size (.slice (some ⟨w.heap.size + 1 + 1 + 1, 0, none⟩) 3 3) [⟨1, some ⟨w.heap.size, 0, none⟩, 2, [0, 0]⟩, ⟨2, some ⟨w.heap.size + 1, 0, none⟩, 2, [0, 0]⟩, ⟨3, some ⟨w.heap.size + 1 + 1, 0, none⟩, 2, [1, 1]⟩] → OwnNA wz w.heap.size (.slice (some ⟨w.heap.size + 1 + 1 + 1, 0, none⟩) 3 3) [⟨1, some ⟨w.heap.size, 0, none⟩, 2, [0, 0]⟩, ⟨2, some ⟨w.heap.size + 1, 0, none⟩, 2, [0, 0]⟩, ⟨3, some ⟨w.heap.size + 1 + 1, 0, none⟩, 2, [1, 1]⟩] := fun h => OwnN.ext h b5
  have j1 : OwnIA w4 w.heap.size (.slice (some ⟨w.heap.size, 0, none⟩) 2 2) [0, 0] := by
    have : OwnIA w1 w.heap.size (.slice (some ⟨w.heap.size, 0, none⟩) 2 2) [0, 0] := by rw [h1]; exact ints2 w _ (Nat.le_refl _) 0 0
    exact OwnI.ext this (b2.trans ((b3.trans (b4.mono b3.size)).mono b2.size))
  have j2 : OwnIA w4 w.heap.size (.slice (some ⟨w.heap.size + 1, 0, none⟩) 2 2) [0, 0] := by
    have : OwnIA w2 w.heap.size (.slice (some ⟨w1.heap.size, 0, none⟩) 2 2) [0, 0] := by rw [h2]; exact ints2 w1 _ b1.size 0 0
    rw [z1] at this
    exact OwnI.ext this (b3.trans (b4.mono b3.size))
  have j3 : OwnIA w4 w.heap.size (.slice (some ⟨w.heap.size + 1 + 1, 0, none⟩) 2 2) [1, 1] := by
    have : OwnIA w3 w.heap.size (.slice (some ⟨w2.heap.size, 0, none⟩) 2 2) [1, 1] := by rw [h3]; exact ints2 w2 _ (by rw [z2]; omega) 1 1
    rw [z2] at this
    exact OwnI.ext this b4
  have hn' := hn4 (by
    refine ⟨?_, fun h hh => ?_⟩
    · rw [h4, ← z3]
      exact World.ownsRow_lit (base := w.heap.size) (e := 59) (size := 2) w3 _ 3 (by rw [z3]; omega) (by decide) rfl
    · simp only [List.mem_cons, List.not_mem_nil, or_false] at hh
      rcases hh with rfl | rfl | rfl
      · exact j1
      · exact j2
      · exact j3)
  rw [hn]
  rw [hn] at hz
  refine ⟨b15, ?_, ⟨_, _, _, _, _, rfl, hp.ext b15, OwnN.reads hn', rfl⟩⟩
  rw [hz, ← z4]
  exact Blk.new _ _ _
/-- the values -/
def lifeU : PT := (totT lifeT).1
def zeroU : PT := (elemT 0).1
def sumsU : PT := (sumT 2 0).1
def backZ : TotL := (backP zeroU).1
theorem life_tot : totT lifeT = (lifeU, 0) := by
  have h : (totT lifeT).2 = 0 := by
    unfold totT
    rw [if_pos life_right]
  rw [← h]
  rfl
theorem zero_tot : elemT 0 = (zeroU, 0) := Prod.ext rfl zero_ok
theorem sums_tot : sumT 2 0 = (sumsU, 0) := Prod.ext rfl sums_ok0
theorem life_e1 : evalP lifeU [1, 1, 1, 0, 0, 0, 0, 0, 0] = (1, 0) := life_1
theorem life_e2 : evalP lifeU [1, 1, 1, 0, 1, 1, 1, 0, 0] = (0, 0) := life_2
theorem life_bk : backP lifeU = (lifeT, true) := life_back
theorem zero_bk : backP zeroU = (backZ, false) := Prod.ext rfl zero_back
theorem zero_sm : sameP zeroU wantT = true := zero_want
theorem sums_sm : sameP sumsU wantT = true := sums_want
end Go.Proofs.YtmlhkbgifnifdaaDoor
