/-
  cellularref13.expand in plain lists. No condition.
  What the reference's expand holds in memory: the keys, the nodes, a node's new elements. No condition.
-/
import Derived.Test.YtojnnfihpiegoaaDoorZCn
import Derived.Test.YtojnnfihpiegoaaDoorZSmallP
import Derived.Test.YtojnnfihpiegoaaDoorZCi
import Derived.Test.YtojnnfihpiegoaaDoorZCl
namespace Go.Proofs.YtojnnfihpiegoaaDoor
set_option linter.unusedVariables false
set_option linter.unusedSimpArgs false

abbrev XS := List PT × List Nd
def hitE (lv : Int) (f : PT) (s : XS) (k : Nat) : Bool := ((ndAt s.2 k).1 == lv) && sameP (s.1.getD k PT.zero) f
def lookE (lv : Int) (f : PT) (s : XS) : Nat → Nat → Option Nat
 | 0, _ => none
 | m + 1, k => if hitE lv f s k = true then some k else lookE lv f s m (k + 1)
def rootV (f : PT) (ins : List Nat) : Int := val f.ns ((f.ns.length - 1 : Nat) : Int) ins
def fixE (L : Nat) (od : List Nat) (n : Nat) (f : PT) (s : Nat) : PT := (fixT f ((od.getD (L - n) 0 : Nat) : Int) (s : Int)).1
def kidsE (r : PT → XS → Int × XS) (g : Nat → PT) : Nat → XS → List Int × XS
 | 0, s => ([], s)
 | j + 1, s => ((kidsE r g j s).1 ++ [(r (g j) (kidsE r g j s).2).1], (r (g j) (kidsE r g j s).2).2)
def expE (L : Nat) (od : List Nat) (q : Nat) : Nat → PT → XS → Int × XS
 | 0, f, s => (rootV f (List.replicate L 0), s)
 | n + 1, f, s => match lookE ((n + 1 : Nat) : Int) f s s.2.length 0 with
  | some k => ((k : Int), s)
  | none => (((kidsE (expE L od q n) (fixE L od (n + 1) f) q s).2.2.length : Int), ((kidsE (expE L od q n) (fixE L od (n + 1) f) q s).2.1 ++ [f], (kidsE (expE L od q n) (fixE L od (n + 1) f) q s).2.2 ++ [(((n + 1 : Nat) : Int), (kidsE (expE L od q n) (fixE L od (n + 1) f) q s).1)]))
/-- what a rule leads to at the states of the positions that are left -/
def VF (L : Nat) (od : List Nat) : Nat → PT → List Nat → Int
 | 0, f, _ => rootV f (List.replicate L 0)
 | n + 1, f, [] => 0
 | n + 1, f, s :: r => VF L od n (fixE L od (n + 1) f s) r
theorem same_eq {a b : PT} (h : sameP a b = true) : a = b := by
 unfold sameP at h
 rw [Bool.and_eq_true, Bool.and_eq_true, decide_eq_true_iff, decide_eq_true_iff, decide_eq_true_iff] at h
 obtain ⟨s, p, n⟩ := a
 obtain ⟨s', p', n'⟩ := b
 obtain ⟨⟨e1, e2⟩, e3⟩ := h
 dsimp only at e1 e2 e3
 subst e1 e2 e3
 rfl
theorem lookE_some {lv : Int} {f : PT} {s : XS} : ∀ (m k : Nat) {r : Nat}, lookE lv f s m k = some r → hitE lv f s r = true ∧ r < k + m
 | 0, k, r, h => by cases h
 | m + 1, k, r, h => by
  unfold lookE at h
  split at h
  ·rename_i e
   injection h with h
   subst h
   exact ⟨e, by omega⟩
  ·obtain ⟨h1, h2⟩ := lookE_some m (k + 1) h
   exact ⟨h1, by omega⟩
section
variable {q : Nat} {ns : List Nd}
theorem VNd.push (h : VNd q ns) {lv : Int} {nx : List Int} (h1 : 1 ≤ lv) (hlen : nx.length = q) (hlow : lv = 1 → ∀ z ∈ nx, 0 ≤ z ∧ z < (q : Int)) (hk : 1 < lv → ∀ z ∈ nx, 0 ≤ z ∧ z.toNat < ns.length ∧ (ndAt ns z.toNat).1 = lv - 1) : VNd q (ns ++ [(lv, nx)]) := by
 have key : ∀ i, i < (ns ++ [(lv, nx)]).length → (i < ns.length ∧ ndAt (ns ++ [(lv, nx)]) i = ndAt ns i) ∨ (i = ns.length ∧ ndAt (ns ++ [(lv, nx)]) i = (lv, nx)) := fun i hi => by
  rw [List.length_append, List.length_singleton] at hi
  rcases Nat.lt_or_ge i ns.length with h2 | h2
  ·exact .inl ⟨h2, ndAt_app_lt h2 _⟩
  ·obtain rfl : i = ns.length := by omega
   exact .inr ⟨rfl, ndAt_app_len _ _⟩
 refine ⟨⟨fun i hi => hi, fun i hi => ?_, fun i hi => ?_, fun i hi hl k hz => ?_⟩, fun i hi hl k hz => ?_, fun i hi hl k hz => ?_⟩
 all_goals rcases key i hi with ⟨a, e⟩ | ⟨a, e⟩
 all_goals (try rw [e] at hl)
 all_goals (try rw [e] at hz)
 all_goals (try rw [e])
 ·exact h.lev.len i a
 ·exact hlen
 ·exact h.lev.one i a
 ·exact h1
 ·obtain ⟨b1, b2, b3⟩ := h.lev.kids i a hl k hz
  exact ⟨b1, by rw [List.length_append]; omega, by rw [ndAt_app_lt b2]; exact b3⟩
 ·obtain ⟨b1, b2, b3⟩ := hk hl k hz
  exact ⟨b1, by rw [List.length_append]; omega, by rw [ndAt_app_lt b2]; exact b3⟩
 ·exact h.ordk i a hl k hz
 ·obtain ⟨b1, b2, b3⟩ := hk hl k hz
  omega
 ·exact h.low i a hl k hz
 ·exact hlow hl k hz
theorem val_rng (h : VNd q ns) : ∀ (ins : List Nat) (k : Nat), k < ns.length → (ndAt ns k).1 = (ins.length : Int) → (∀ s ∈ ins, s < q) → 0 ≤ val ns (k : Int) ins ∧ val ns (k : Int) ins < (q : Int)
 | [], k, hk, hl, _ => by have := h.lev.one k hk; simp at hl; omega
 | s :: r, k, hk, hl, hq => by
  have hs : s < q := hq s (by simp)
  have hm : (ndAt ns k).2.getD s 0 ∈ (ndAt ns k).2 := getD_mem (by rw [h.lev.len k hk]; exact hs)
  simp only [val, Int.toNat_natCast]
  simp only [List.length_cons] at hl
  by_cases h1 : 1 < (ndAt ns k).1
  ·obtain ⟨a1, a2, a3⟩ := h.lev.kids k hk h1 _ hm
   have := val_rng h r _ a2 (by rw [a3, hl]; omega) (fun x hx => hq x (by simp [hx]))
   rwa [toNat_cast a1] at this
  ·have h0 := h.lev.one k hk
   have : r = [] := List.eq_nil_of_length_eq_zero (by omega)
   subst this
   exact h.low k hk (by omega) _ hm
/-- a position is fixed -/
theorem val_fix (h : VNd q ns) {L p s : Nat} (hp : p < L) (hs : s < q) : ∀ (ins : List Nat) (k : Int), (ins ≠ [] → 0 ≤ k ∧ k.toNat < ns.length ∧ (ndAt ns k.toNat).1 = (ins.length : Int)) → ins.length ≤ L → (∀ t ∈ ins, t < q) →
  val (chgL (chF L p s) ns) k ins = val ns k (if L - ins.length ≤ p then ins.set (p - (L - ins.length)) s else ins)
 | [], k, _, _, _ => by rw [if_neg (by simp; omega)]; rfl
 | t :: r, k, hk, hL, hq => by
  obtain ⟨k0, k1, k2⟩ := hk (by simp)
  have hlen := h.lev.len _ k1
  simp only [List.length_cons] at hL k2 ⊢
  have ht : t < q := hq t (by simp)
  have e : ndAt (chgL (chF L p s) ns) k.toNat = ((ndAt ns k.toNat).1, chF L p s (ndAt ns k.toNat).1 (ndAt ns k.toNat).2) := chg_at _ k1
  have hkid : ∀ u, u < q → r ≠ [] → 0 ≤ (ndAt ns k.toNat).2.getD u 0 ∧ ((ndAt ns k.toNat).2.getD u 0).toNat < ns.length ∧ (ndAt ns ((ndAt ns k.toNat).2.getD u 0).toNat).1 = (r.length : Int) := fun u hu hr => by
   have hrl : 0 < r.length := List.length_pos_iff.2 hr
   obtain ⟨a1, a2, a3⟩ := h.lev.kids _ k1 (by rw [k2]; omega) _ (getD_mem (l := (ndAt ns k.toNat).2) (s := u) (by omega))
   exact ⟨a1, a2, by rw [a3, k2]; omega⟩
  simp only [val]
  rw [e]
  dsimp only
  by_cases c1 : (ndAt ns k.toNat).1 = (L : Int) - p
  ·have e2 : chF L p s (ndAt ns k.toNat).1 (ndAt ns k.toNat).2 = List.replicate (ndAt ns k.toNat).2.length ((ndAt ns k.toNat).2.getD s 0) := by unfold chF; rw [if_pos c1]
   rw [e2, if_pos (by omega), show p - (L - (r.length + 1)) = 0 by omega, List.set_cons_zero]
   simp only [val]
   have e3 : (List.replicate (ndAt ns k.toNat).2.length ((ndAt ns k.toNat).2.getD s 0)).getD t 0 = (ndAt ns k.toNat).2.getD s 0 := by
    rw [List.getD_eq_getElem?_getD, List.getElem?_replicate, if_pos (by omega)]; rfl
   rw [e3, val_fix h hp hs r _ (hkid s hs) (by omega) (fun x hx => hq x (by simp [hx])), if_neg (by omega)]
  ·have e2 : chF L p s (ndAt ns k.toNat).1 (ndAt ns k.toNat).2 = (ndAt ns k.toNat).2 := by unfold chF; rw [if_neg c1]
   rw [e2, val_fix h hp hs r _ (hkid t ht) (by omega) (fun x hx => hq x (by simp [hx]))]
   by_cases c2 : L - (r.length + 1) ≤ p
   ·rw [if_pos (by omega), if_pos c2, show p - (L - (r.length + 1)) = (p - (L - r.length)) + 1 by omega, List.set_cons_succ]
    rfl
   ·rw [if_neg (by omega), if_neg c2]
    rfl
end
/-- a tree with the given states and neighbourhood -/
structure OkF (st : Int) (ps : List (Int × Int)) (f : PT) : Prop where
 r : f.right = true
 st : f.st = st
 ps : f.ps = ps
section
variable {st : Int} {ps : List (Int × Int)} {f : PT} {od : List Nat}
theorem fix_ok (h : OkF st ps f) {p s : Nat} (hp : p < ps.length) (hs : s < st.toNat) : OkF st ps (fixT f (p : Int) (s : Int)).1 ∧ (fixT f (p : Int) (s : Int)).2 = 0 ∧
  ∀ x : List Nat, x.length = ps.length → (∀ t ∈ x, t < st.toNat) → rootV (fixT f (p : Int) (s : Int)).1 x = rootV f (x.set p s) := by
 obtain ⟨a1, a2, a3, a4, a5, a6, a7, a8, a9⟩ := rightN_parts h.r
 have e1 := h.st
 have e2 := h.ps
 have hF : fixT f (p : Int) (s : Int) = (⟨f.st, f.ps, redN (chF f.ps.length p s) f.ns⟩, 0) := by
  unfold fixT
  rw [if_neg (by rw [h.r]; decide), if_neg (by rw [e2]; simp; omega), if_neg (by unfold badS; rw [e1]; simp; omega)]
  simp
 have hc : Chg f.st.toNat (chF f.ps.length p s) := chF_chg (by rw [e1]; exact hs)
 have hr := rightN_chg (ch := chF f.ps.length p s) h.r hc
 have hrd := redT_chg (ch := chF f.ps.length p s) h.r hc
 have hok := redN_ok a8 hc (by omega) (by rw [a6]; omega)
 rw [hF]
 refine ⟨⟨?_, e1, e2⟩, rfl, fun x hl hq => ?_⟩
 ·have := red_right (t := ⟨f.st, f.ps, chgL (chF f.ps.length p s) f.ns⟩) hr
  rw [hrd] at this
  exact this
 ·unfold rootV
  dsimp only
  obtain ⟨o1, o2, o3, o4, o5⟩ := hok
  have hroot : (ndAt (chgL (chF f.ps.length p s) f.ns) (f.ns.length - 1)).1 = (x.length : Int) := by rw [chg_at _ (by omega), a6, e2, hl]
  rw [o4.2 x (by rw [o4.1, hroot]) (by rw [e1]; exact hq)]
  rw [val_fix a8 (by rw [e2]; exact hp) (by rw [e1]; exact hs) x ((f.ns.length - 1 : Nat) : Int) (fun _ => ⟨Int.natCast_nonneg _, by rw [Int.toNat_natCast]; omega, by rw [Int.toNat_natCast, a6, e2, hl]⟩) (by rw [e2]; omega) (by rw [e1]; exact hq)]
  rw [if_pos (by rw [e2]; omega), show p - (f.ps.length - x.length) = p by rw [e2]; omega]
end
/-- states at positions -/
def setAll (z : List Nat) : List Nat → List Nat → List Nat
 | p :: r, s :: t => (setAll z r t).set p s
 | _, _ => z
theorem setAll_len (z : List Nat) : ∀ (ps ss : List Nat), (setAll z ps ss).length = z.length
 | [], _ => by simp [setAll]
 | _ :: _, [] => by simp [setAll]
 | p :: r, s :: t => by simp [setAll, setAll_len z r t]
theorem setAll_lt {q : Nat} {z : List Nat} (hz : ∀ x ∈ z, x < q) : ∀ (ps ss : List Nat), (∀ x ∈ ss, x < q) → ∀ x ∈ setAll z ps ss, x < q
 | [], _, _ => by simpa [setAll] using hz
 | _ :: _, [], _ => by simpa [setAll] using hz
 | p :: r, s :: t, h => fun x hx => by
  rcases List.mem_or_eq_of_mem_set hx with h1 | h1
  ·exact setAll_lt hz r t (fun y hy => h y (by simp [hy])) x h1
  ·rw [h1]; exact h s (by simp)
theorem VF_val {st : Int} {ps : List (Int × Int)} {od : List Nat} (hod : od.length = ps.length) (hop : ∀ p ∈ od, p < ps.length) (hst : 0 < st.toNat) : ∀ (n : Nat) (f : PT) (ins : List Nat), OkF st ps f → n ≤ ps.length → ins.length = n → (∀ t ∈ ins, t < st.toNat) →
  VF ps.length od n f ins = rootV f (setAll (List.replicate ps.length 0) (od.drop (ps.length - n)) ins)
 | 0, f, ins, _, _, hl, _ => by
  have : ins = [] := List.eq_nil_of_length_eq_zero hl
  subst this
  simp [VF, setAll]
 | n + 1, f, [], _, _, hl, _ => by simp at hl
 | n + 1, f, s :: r, h, hn, hl, hq => by
  have hp : ps.length - (n + 1) < od.length := by omega
  have hg : od.getD (ps.length - (n + 1)) 0 = od[ps.length - (n + 1)] := by rw [List.getD_eq_getElem?_getD, List.getElem?_eq_getElem hp]; rfl
  have hs : s < st.toNat := hq s (by simp)
  obtain ⟨g1, -, g3⟩ := fix_ok h (p := od[ps.length - (n + 1)]) (s := s) (hop _ (List.getElem_mem hp)) hs
  rw [List.drop_eq_getElem_cons hp]
  show VF ps.length od n (fixE ps.length od (n + 1) f s) r = _
  unfold fixE
  rw [hg, VF_val hod hop hst n _ r g1 (by omega) (by simpa using hl) (fun t ht => hq t (by simp [ht]))]
  rw [show ps.length - (n + 1) + 1 = ps.length - n by omega]
  rw [g3 _ (by rw [setAll_len]; simp) (setAll_lt (fun x hx => by rw [List.eq_of_mem_replicate hx]; exact hst) _ _ (fun t ht => hq t (by simp [ht])))]
  rfl
/-- what holds of the keys and the nodes -/
structure XI (L : Nat) (od : List Nat) (q : Nat) (s : XS) : Prop where
 len : s.1.length = s.2.length
 v : VNd q s.2
 lead : ∀ k, k < s.2.length → ∃ n : Nat, (ndAt s.2 k).1 = ((n + 1 : Nat) : Int) ∧ n + 1 ≤ L ∧ ∀ ins : List Nat, ins.length = n + 1 → (∀ t ∈ ins, t < q) → val s.2 (k : Int) ins = VF L od (n + 1) (s.1.getD k PT.zero) ins
theorem XI.nil (L : Nat) (od : List Nat) (q : Nat) : XI L od q ([], []) :=
 ⟨rfl, ⟨⟨fun i hi => hi, fun i hi => absurd hi (by simp), fun i hi => absurd hi (by simp), fun i hi => absurd hi (by simp)⟩, fun i hi => absurd hi (by simp), fun i hi => absurd hi (by simp)⟩, fun k hk => absurd hk (by simp)⟩
/-- what a call gives -/
structure XG (L : Nat) (od : List Nat) (q n : Nat) (f : PT) (s : XS) (r : Int × XS) : Prop where
 i : XI L od q r.2
 g : ∃ ks ys, r.2.1 = s.1 ++ ks ∧ r.2.2 = s.2 ++ ys
 low : n = 0 → 0 ≤ r.1 ∧ r.1 < (q : Int)
 nd : 1 ≤ n → 0 ≤ r.1 ∧ r.1.toNat < r.2.2.length ∧ (ndAt r.2.2 r.1.toNat).1 = (n : Int)
 lead : ∀ ins : List Nat, ins.length = n → (∀ t ∈ ins, t < q) → val r.2.2 r.1 ins = VF L od n f ins
 size : r.2.2.length ≤ s.2.length + cap q n
theorem XG.grow {L : Nat} {od : List Nat} {q n : Nat} {f : PT} {s : XS} {r : Int × XS} (h : XG L od q n f s r) {s' : XS} (hs : ∃ ks ys, s'.1 = r.2.1 ++ ks ∧ s'.2 = r.2.2 ++ ys) :
  (1 ≤ n → 0 ≤ r.1 ∧ r.1.toNat < s'.2.length ∧ (ndAt s'.2 r.1.toNat).1 = (n : Int)) ∧ ∀ ins : List Nat, ins.length = n → (∀ t ∈ ins, t < q) → val s'.2 r.1 ins = VF L od n f ins := by
 obtain ⟨ks, ys, -, e⟩ := hs
 refine ⟨fun hn => ?_, fun ins hl hq => ?_⟩
 ·obtain ⟨a, b, c⟩ := h.nd hn
  exact ⟨a, by rw [e, List.length_append]; omega, by rw [e, ndAt_app_lt b]; exact c⟩
 ·rw [← h.lead ins hl hq, e]
  by_cases hn : 1 ≤ n
  ·obtain ⟨a, b, c⟩ := h.nd hn
   exact val_grow h.i.v.lev ys (L := ins.length) a (fun _ => ⟨b, by rw [c, hl]⟩) rfl hq
  ·have : ins = [] := List.eq_nil_of_length_eq_zero (by omega)
   subst this
   rfl
theorem exp_ok {st : Int} {ps : List (Int × Int)} {od : List Nat} (hod : od.length = ps.length) (hop : ∀ p ∈ od, p < ps.length) (hst : 0 < st.toNat) : ∀ (n : Nat) (f : PT) (s : XS), OkF st ps f → n ≤ ps.length → XI ps.length od st.toNat s → XG ps.length od st.toNat n f s (expE ps.length od st.toNat n f s)
 | 0, f, s, h, _, hi => by
  obtain ⟨a1, a2, a3, a4, a5, a6, a7, a8, a9⟩ := rightN_parts h.r
  refine ⟨hi, ⟨[], [], by simp [expE], by simp [expE]⟩, fun _ => ?_, fun hn => absurd hn (by omega), fun ins hl _ => ?_, by simp [expE]⟩
  ·have := val_rng a8 (List.replicate ps.length 0) (f.ns.length - 1) (by omega) (by rw [a6, h.ps]; simp) (fun s hs => by rw [List.eq_of_mem_replicate hs, h.st]; exact hst)
   rw [h.st] at this
   exact this
  ·have : ins = [] := List.eq_nil_of_length_eq_zero hl
   subst this
   rfl
 | n + 1, f, s, h, hn, hi => by
  unfold expE
  cases hlk : lookE ((n + 1 : Nat) : Int) f s s.2.length 0 with
  | some k =>
   dsimp only
   obtain ⟨h1, h2⟩ := lookE_some _ _ hlk
   unfold hitE at h1
   rw [Bool.and_eq_true] at h1
   have h3 : (ndAt s.2 k).1 = ((n + 1 : Nat) : Int) := by simpa using h1.1
   have h4 := same_eq h1.2
   obtain ⟨m, m1, m2, m3⟩ := hi.lead k (by omega)
   have hmn : m = n := by rw [h3] at m1; omega
   subst hmn
   refine ⟨hi, ⟨[], [], by simp, by simp⟩, fun h0 => absurd h0 (by omega), fun _ => ⟨Int.natCast_nonneg _, by rw [Int.toNat_natCast]; exact (by omega : k < s.2.length), by rw [Int.toNat_natCast]; exact h3⟩, fun ins hl hq => ?_, by simp⟩
   rw [m3 ins hl hq, h4]
  | none =>
   dsimp only
   have hp : ps.length - (n + 1) < od.length := by omega
   have hg : od.getD (ps.length - (n + 1)) 0 = od[ps.length - (n + 1)] := by rw [List.getD_eq_getElem?_getD, List.getElem?_eq_getElem hp]; rfl
   have hfx : ∀ j, j < st.toNat → OkF st ps (fixE ps.length od (n + 1) f j) := fun j hj => by
    unfold fixE
    rw [hg]
    exact (fix_ok h (hop _ (List.getElem_mem hp)) hj).1
   have key : ∀ j, j ≤ st.toNat → XI ps.length od st.toNat (kidsE (expE ps.length od st.toNat n) (fixE ps.length od (n + 1) f) j s).2 ∧ (∃ ks ys, (kidsE (expE ps.length od st.toNat n) (fixE ps.length od (n + 1) f) j s).2.1 = s.1 ++ ks ∧ (kidsE (expE ps.length od st.toNat n) (fixE ps.length od (n + 1) f) j s).2.2 = s.2 ++ ys) ∧
     (kidsE (expE ps.length od st.toNat n) (fixE ps.length od (n + 1) f) j s).1.length = j ∧ (kidsE (expE ps.length od st.toNat n) (fixE ps.length od (n + 1) f) j s).2.2.length ≤ s.2.length + j * cap st.toNat n ∧
     ∀ i, i < j → (n = 0 → 0 ≤ (kidsE (expE ps.length od st.toNat n) (fixE ps.length od (n + 1) f) j s).1.getD i 0 ∧ (kidsE (expE ps.length od st.toNat n) (fixE ps.length od (n + 1) f) j s).1.getD i 0 < (st.toNat : Int)) ∧
      (1 ≤ n → 0 ≤ (kidsE (expE ps.length od st.toNat n) (fixE ps.length od (n + 1) f) j s).1.getD i 0 ∧ ((kidsE (expE ps.length od st.toNat n) (fixE ps.length od (n + 1) f) j s).1.getD i 0).toNat < (kidsE (expE ps.length od st.toNat n) (fixE ps.length od (n + 1) f) j s).2.2.length ∧ (ndAt (kidsE (expE ps.length od st.toNat n) (fixE ps.length od (n + 1) f) j s).2.2 ((kidsE (expE ps.length od st.toNat n) (fixE ps.length od (n + 1) f) j s).1.getD i 0).toNat).1 = (n : Int)) ∧
      ∀ ins : List Nat, ins.length = n → (∀ t ∈ ins, t < st.toNat) → val (kidsE (expE ps.length od st.toNat n) (fixE ps.length od (n + 1) f) j s).2.2 ((kidsE (expE ps.length od st.toNat n) (fixE ps.length od (n + 1) f) j s).1.getD i 0) ins = VF ps.length od n (fixE ps.length od (n + 1) f i) ins := by
    intro j
    induction j with
    | zero => intro _; exact ⟨hi, ⟨[], [], by simp [kidsE], by simp [kidsE]⟩, rfl, by simp [kidsE], fun i h => absurd h (by omega)⟩
    | succ j ih =>
     intro hj
     obtain ⟨b1, ⟨ks, ys, b2, b3⟩, b4, b5, b6⟩ := ih (by omega)
     have hc := exp_ok hod hop hst n (fixE ps.length od (n + 1) f j) _ (hfx j (by omega)) (by omega) b1
     unfold kidsE
     dsimp only
     generalize kidsE (expE ps.length od st.toNat n) (fixE ps.length od (n + 1) f) j s = a at b1 b2 b3 b4 b5 b6 hc ⊢
     generalize expE ps.length od st.toNat n (fixE ps.length od (n + 1) f j) a.2 = c at hc ⊢
     obtain ⟨k2, y2, e1, e2⟩ := hc.g
     refine ⟨hc.i, ⟨ks ++ k2, ys ++ y2, by rw [e1, b2, List.append_assoc], by rw [e2, b3, List.append_assoc]⟩, by simp [b4], ?_, fun i hij => ?_⟩
     ·have := hc.size
      rw [Nat.succ_mul]
      omega
     ·rcases Nat.lt_or_ge i j with h1 | h1
      ·have e : (a.1 ++ [c.1]).getD i 0 = a.1.getD i 0 := by rw [List.getD_eq_getElem?_getD, List.getElem?_append_left (by omega), ← List.getD_eq_getElem?_getD]
       rw [e]
       obtain ⟨c1, c2, c3⟩ := b6 i h1
       refine ⟨c1, fun hn1 => ?_, fun ins hl hq => ?_⟩
       ·obtain ⟨d1, d2, d3⟩ := c2 hn1
        exact ⟨d1, by rw [e2, List.length_append]; omega, by rw [e2, ndAt_app_lt d2]; exact d3⟩
       ·rw [← c3 ins hl hq, e2]
        by_cases hn1 : 1 ≤ n
        ·obtain ⟨d1, d2, d3⟩ := c2 hn1
         exact val_grow b1.v.lev y2 (L := ins.length) d1 (fun _ => ⟨d2, by rw [d3, hl]⟩) rfl hq
        ·have : ins = [] := List.eq_nil_of_length_eq_zero (by omega)
         subst this
         rfl
      ·obtain rfl : i = j := by omega
       have e : (a.1 ++ [c.1]).getD i 0 = c.1 := by rw [List.getD_eq_getElem?_getD, List.getElem?_append_right (by omega), b4, Nat.sub_self]; rfl
       rw [e]
       exact ⟨hc.low, hc.nd, hc.lead⟩
   obtain ⟨b1, ⟨ks, ys, b2, b3⟩, b4, b5, b6⟩ := key st.toNat (Nat.le_refl _)
   generalize kidsE (expE ps.length od st.toNat n) (fixE ps.length od (n + 1) f) st.toNat s = a at b1 b2 b3 b4 b5 b6 ⊢
   have hmem : ∀ z ∈ a.1, ∃ j, j < st.toNat ∧ z = a.1.getD j 0 := by
    intro z hz
    obtain ⟨j, hj, e⟩ := List.getElem_of_mem hz
    exact ⟨j, by omega, by rw [List.getD_eq_getElem?_getD, List.getElem?_eq_getElem hj, ← e]; rfl⟩
   have hv : VNd st.toNat (a.2.2 ++ [(((n + 1 : Nat) : Int), a.1)]) := b1.v.push (by omega) b4 (fun hl z hz => by
     obtain ⟨j, hj, rfl⟩ := hmem z hz
     exact (b6 j hj).1 (by omega)) (fun hl z hz => by
     obtain ⟨j, hj, rfl⟩ := hmem z hz
     obtain ⟨d1, d2, d3⟩ := (b6 j hj).2.1 (by omega)
     exact ⟨d1, d2, by rw [d3]; omega⟩)
   have hnew : ∀ ins : List Nat, ins.length = n + 1 → (∀ t ∈ ins, t < st.toNat) → val (a.2.2 ++ [(((n + 1 : Nat) : Int), a.1)]) (a.2.2.length : Int) ins = VF ps.length od (n + 1) f ins := fun ins hl hq => by
    cases ins with
    | nil => simp at hl
    | cons t r =>
     have ht : t < st.toNat := hq t (by simp)
     simp only [val, Int.toNat_natCast, ndAt_app_len]
     obtain ⟨c1, c2, c3⟩ := b6 t ht
     show _ = VF ps.length od n (fixE ps.length od (n + 1) f t) r
     rw [← c3 r (by simpa using hl) (fun x hx => hq x (by simp [hx]))]
     by_cases hn1 : 1 ≤ n
     ·obtain ⟨d1, d2, d3⟩ := c2 hn1
      exact val_grow b1.v.lev _ (L := r.length) d1 (fun _ => ⟨d2, by rw [d3]; simp at hl; omega⟩) rfl (fun x hx => hq x (by simp [hx]))
     ·have : r = [] := List.eq_nil_of_length_eq_zero (by simp at hl; omega)
      subst this
      rfl
   refine ⟨⟨by simp [b1.len], hv, fun k hk => ?_⟩, ⟨ks ++ [f], ys ++ [(((n + 1 : Nat) : Int), a.1)], by rw [b2, List.append_assoc], by rw [b3, List.append_assoc]⟩, fun h0 => absurd h0 (by omega), fun _ => ⟨Int.natCast_nonneg _, by rw [Int.toNat_natCast]; simp, by rw [Int.toNat_natCast, ndAt_app_len]⟩, hnew, ?_⟩
   ·dsimp only at hk ⊢
    rw [List.length_append, List.length_singleton] at hk
    rcases Nat.lt_or_ge k a.2.2.length with h1 | h1
    ·obtain ⟨m, m1, m2, m3⟩ := b1.lead k h1
     refine ⟨m, by rw [ndAt_app_lt h1]; exact m1, m2, fun ins hl hq => ?_⟩
     have e : (a.2.1 ++ [f]).getD k PT.zero = a.2.1.getD k PT.zero := by rw [List.getD_eq_getElem?_getD, List.getElem?_append_left (by rw [b1.len]; exact h1), ← List.getD_eq_getElem?_getD]
     rw [e, ← m3 ins hl hq]
     exact val_grow b1.v.lev _ (L := ins.length) (Int.natCast_nonneg _) (fun _ => ⟨by rw [Int.toNat_natCast]; exact h1, by rw [Int.toNat_natCast, m1, hl]⟩) rfl hq
    ·obtain rfl : k = a.2.2.length := by omega
     refine ⟨n, by rw [ndAt_app_len], hn, fun ins hl hq => ?_⟩
     have e : (a.2.1 ++ [f]).getD a.2.2.length PT.zero = f := by rw [List.getD_eq_getElem?_getD, List.getElem?_append_right (by rw [b1.len]; exact Nat.le_refl _), b1.len, Nat.sub_self]; rfl
     rw [e]
     exact hnew ins hl hq
   ·simp only [List.length_append, List.length_singleton, cap]
    omega
end Go.Proofs.YtojnnfihpiegoaaDoor
namespace Go.Proofs.YtojnnfihpiegoaaDoor
open Go.RowKit
set_option maxRecDepth 100000
set_option linter.unusedVariables false
set_option linter.unusedSimpArgs false

/-- the blocks of a tree's nodes -/
def trBlk (t : TrH) (g : Nat) : Prop := (Value.slice t.nA t.hs.length t.nc).ownBlock = some g ∨ ∃ x ∈ t.hs, x.val.ownBlock = some g
theorem trBlk_lt {t : TrH} {w : World} {B g : Nat} (h : OwnNA w B (.slice t.nA t.hs.length t.nc) t.hs) (hg : trBlk t g) : g < w.heap.size ∧ B ≤ g := by
 rcases hg with e | ⟨x, hx, e⟩
 ·exact own_lt' h.1 e
 ·exact own_lt' (h.2 x hx) e
/-- a key: its neighbourhood is old, its nodes are owned, apart from the list of nodes -/
structure KT (W0 : World) (B : Nat) (ov : Value) (t : TrH) (w : World) : Prop where
 hood : Pts W0 t.hA t.ps
 nds : OwnNA w B (.slice t.nA t.hs.length t.nc) t.hs
 ap : ∀ g, trBlk t g → ov.ownBlock ≠ some g
section
variable {W0 : World} {B : Nat} {ov ov' : Value} {t : TrH} {w w' : World}
theorem KT.ext (h : KT W0 B ov t w) (hb : Below w.heap.size w w') : KT W0 B ov t w' := ⟨h.hood, h.nds.ext hb, h.ap⟩
theorem KT.kept (h : KT W0 B ov t w) {S : Nat → Prop} (hk : Kept S w w') (hs : ∀ g, trBlk t g → ¬ S g) (ha : ∀ g, trBlk t g → ov'.ownBlock ≠ some g) : KT W0 B ov' t w' :=
 ⟨h.hood, h.nds.kept hk (fun g e => hs g (.inl e)) (fun x hx g e => hs g (.inr ⟨x, hx, e⟩)), ha⟩
theorem KT.moved (h : KT W0 B ov t w) (hm : Moved ov ov' w) : ∀ g, trBlk t g → ov'.ownBlock ≠ some g := fun g hg e => by
 rcases hm with hm | ⟨g', hm, hg'⟩
 ·exact h.ap g hg (by rw [← hm]; exact e)
 ·rw [hm] at e
  injection e with e
  have := (trBlk_lt h.nds hg).1
  omega
theorem KT.tree (h : KT W0 B ov t w) (hb : Below B W0 w) (h0 : W0.heap.size ≤ B) : TreeAt w t.val t.pt := ⟨t.hA, t.hc, t.nA, t.nc, t.hs, rfl, h.hood.ext (hb.mono h0), OwnN.reads h.nds, rfl⟩
/-- a tree's nodes lie apart from a row of another kind -/
theorem KT.far (h : KT W0 B ov t w) {b n m : Nat} {e : TypeId} {u : Value} {xs : List Value} (hr : w.ownsRow b e m u n xs) (h1 : e ≠ 53) (h2 : e ≠ 3) : ∀ g, trBlk t g → u.ownBlock ≠ some g := fun g hg hu => by
 rcases hg with e1 | ⟨x, hx, e1⟩
 ·exact own_ne hr h.nds.1 h1 hu e1
 ·exact own_ne hr (h.nds.2 x hx) h2 hu e1
end
/-- the keys, the nodes -/
structure XpS (W0 : World) (B : Nat) (kv ov : Value) (ts : List TrH) (os : List Hd) (w : World) : Prop where
 krow : w.ownsRow B 25 3 kv ts.length (ts.flatMap TrH.cells)
 out : OwnNA w B ov os
 kt : ∀ t ∈ ts, KT W0 B ov t w
def XpT (kv ov : Value) : Nat → Prop := fun g => kv.ownBlock = some g ∨ ov.ownBlock = some g
/-- what a call does -/
structure XpC (W0 : World) (B : Nat) (W : World) (kv ov : Value) (ts : List TrH) (os : List Hd) (fh : TrH) (kv2 ov2 : Value) (ts2 : List TrH) (os2 : List Hd) (w : World) : Prop where
 wk : XpS W0 B kv2 ov2 ts2 os2 w
 kp : Kept (XpT kv ov) W w
 mkv : Moved kv kv2 W
 mo : Moved ov ov2 W
 new : NewIn os os2 W
 newk : ∀ t ∈ ts2, t ∈ ts ∨ t = fh ∨ ∀ g, trBlk t g → W.heap.size ≤ g
/-- the loop over the states: acc are the new elements -/
structure XpL (W0 : World) (B : Nat) (lv : Int) (gX : Nat) (W : World) (kv ov : Value) (ts : List TrH) (os : List Hd) (fh : TrH) (acc : List Int) (kv1 ov1 : Value) (ts1 : List TrH) (os1 : List Hd) (xv : Value) (wr : World) : Prop where
 wk : XpS W0 B kv1 ov1 ts1 os1 wr
 f : KT W0 B ov1 fh wr
 kp : Kept (XpT kv ov) W wr
 mkv : Moved kv kv1 W
 mo : Moved ov ov1 W
 new : NewIn os os1 W
 newk : ∀ t ∈ ts1, t ∈ ts ∨ ∀ g, trBlk t g → W.heap.size ≤ g
 G : Blk wr gX 53 #[.int .i64 lv, xv]
 R : OwnIA wr W.heap.size xv acc
 ne : ∀ x ∈ os1, ∀ g, x.val.ownBlock = some g → xv.ownBlock ≠ some g
 nef : ∀ g, trBlk fh g → xv.ownBlock ≠ some g ∧ g ≠ gX
 nek : ∀ t ∈ ts1, ∀ g, trBlk t g → xv.ownBlock ≠ some g ∧ g ≠ gX
 hX : W.heap.size ≤ gX
 neX : ov1.ownBlock ≠ some gX
section
variable {W0 : World} {B : Nat} {lv : Int} {gX : Nat} {W : World} {kv ov : Value} {ts : List TrH} {os : List Hd} {fh : TrH} {acc : List Int} {kv1 ov1 : Value} {ts1 : List TrH} {os1 : List Hd} {xv : Value} {wr w : World}
theorem XpS.ext (h : XpS W0 B kv ov ts os w) (hb : Below w.heap.size w wr) : XpS W0 B kv ov ts os wr := ⟨own_below h.krow hb, h.out.ext hb, fun t ht => (h.kt t ht).ext hb⟩
theorem Kept.xpT (h1 : Kept (XpT kv ov) W wr) (hk : Moved kv kv1 W) (hm : Moved ov ov1 W) (h2 : Kept (XpT kv1 ov1) wr w) : Kept (XpT kv ov) W w := by
 refine ⟨h1.below.trans h2.below, fun g hg hs => ?_⟩
 refine (h2.block g (Nat.lt_of_lt_of_le hg h1.below.size) ?_).trans (h1.block g hg hs)
 rintro (e | e)
 ·rcases hk with hk | ⟨g', hk, hg'⟩
  ·exact hs (.inl (by rw [← hk]; exact e))
  ·rw [hk] at e
   injection e with e
   omega
 ·rcases hm with hm | ⟨g', hm, hg'⟩
  ·exact hs (.inr (by rw [← hm]; exact e))
  ·rw [hm] at e
   injection e with e
   omega
theorem XpS.below (h : XpS W0 B kv ov ts os W) (hk : Kept (XpT kv ov) W w) (hB : B ≤ W.heap.size) : Below B W w :=
 hk.to_below hB fun g hg e => by
  rcases e with e | e
  ·have := (own_lt' h.krow e).2; omega
  ·have := (own_lt' h.out.1 e).2; omega
theorem XpL.ext (h : XpL W0 B lv gX W kv ov ts os fh acc kv1 ov1 ts1 os1 xv wr) (hb : Below wr.heap.size wr w) : XpL W0 B lv gX W kv ov ts os fh acc kv1 ov1 ts1 os1 xv w :=
 ⟨h.wk.ext hb, h.f.ext hb, h.kp.trans (Kept.of_new _ hb), h.mkv, h.mo, h.new, h.newk, h.G.below hb h.G.lt, h.R.ext hb, h.ne, h.nef, h.nek, h.hX, h.neX⟩
theorem XpL.start (hW : XpS W0 B kv ov ts os W) (hf : KT W0 B ov fh W) {w3 : World} (hb : Below W.heap.size W w3) (hG : Blk w3 gX 53 #[.int .i64 lv, .slice none 0 0]) (hX : W.heap.size ≤ gX) :
  XpL W0 B lv gX W kv ov ts os fh [] kv ov ts os (.slice none 0 0) w3 := by
 refine ⟨hW.ext hb, hf.ext hb, Kept.of_new _ hb, .inl rfl, .inl rfl, fun x hx => .inl hx, fun t ht => .inl ht, hG, OwnI.nil _ _ _, fun x hx g e => by simp [Value.ownBlock], fun g hg => ⟨by simp [Value.ownBlock], ?_⟩, fun t ht g hg => ⟨by simp [Value.ownBlock], ?_⟩, hX, fun he => ?_⟩
 ·have := (trBlk_lt hf.nds hg).1; omega
 ·have := (trBlk_lt (hW.kt t ht).nds hg).1; omega
 ·have := (own_lt' hW.out.1 he).1; omega
/-- the row of the elements lies apart from all that a call turns -/
theorem XpL.far (h : XpL W0 B lv gX W kv ov ts os fh acc kv1 ov1 ts1 os1 xv wr) : (∀ g, xv.ownBlock = some g → ¬ XpT kv1 ov1 g) ∧ ¬ XpT kv1 ov1 gX := by
 refine ⟨fun g e => ?_, ?_⟩
 ·rintro (e2 | e2)
  ·exact own_ne h.R h.wk.krow (by decide) e e2
  ·exact own_ne h.R h.wk.out.1 (by decide) e e2
 ·rintro (e | e)
  ·exact own_blk_ne' h.wk.krow h.G (by decide) e
  ·exact h.neX e
/-- a call with a new tree -/
theorem XpL.call (h : XpL W0 B lv gX W kv ov ts os fh acc kv1 ov1 ts1 os1 xv wr) {gh : TrH} {wg : World} (hbg : Below wr.heap.size wr wg) (hgn : ∀ g, trBlk gh g → wr.heap.size ≤ g) {kv2 ov2 : Value} {ts2 : List TrH} {os2 : List Hd} {w5 : World} (hc : XpC W0 B wg kv1 ov1 ts1 os1 gh kv2 ov2 ts2 os2 w5) :
  XpL W0 B lv gX W kv ov ts os fh acc kv2 ov2 ts2 os2 xv w5 := by
 have h' := h.ext hbg
 obtain ⟨f1, f2⟩ := h'.far
 have hsz := hbg.size
 have hxlt : ∀ g, xv.ownBlock = some g → g < wr.heap.size := fun g e => (own_lt' h.R e).1
 have hWs := h.kp.below.size
 have key : ∀ t, (t ∈ ts1 ∨ t = gh ∨ ∀ g, trBlk t g → wg.heap.size ≤ g) → ∀ g, trBlk t g → xv.ownBlock ≠ some g ∧ g ≠ gX := fun t ht g hg => by
  rcases ht with ht | ht | ht
  ·exact h.nek t ht g hg
  ·subst ht
   have h1 := hgn g hg
   exact ⟨fun e => by have := hxlt g e; omega, fun e => by have := h.G.lt; omega⟩
  ·have h1 := ht g hg
   exact ⟨fun e => by have := hxlt g e; omega, fun e => by have := h.G.lt; omega⟩
 refine ⟨hc.wk, h'.f.kept hc.kp (fun g hg e => ?_) (h'.f.moved hc.mo), h'.kp.xpT h.mkv h.mo hc.kp, h.mkv.trans hc.mkv h'.kp.below.size, h.mo.trans hc.mo h'.kp.below.size, h.new.trans hc.new h'.kp.below.size, fun t ht => ?_, hc.kp.blk h'.G f2, hc.kp.own h'.R f1, fun x hx g e => ?_, h.nef, fun t ht => key t (hc.newk t ht), h.hX, ?_⟩
 ·rcases e with e | e
  ·exact h'.f.far h'.wk.krow (by decide) (by decide) g hg e
  ·exact h'.f.ap g hg e
 ·rcases hc.newk t ht with h1 | h1 | h1
  ·exact h.newk t h1
  ·subst h1
   exact .inr fun g hg => by have := hgn g hg; omega
  ·exact .inr fun g hg => by have := h1 g hg; omega
 ·rcases hc.new x hx with hx | ⟨g', e', hg⟩
  ·exact h.ne x hx g e
  ·rw [e'] at e
   injection e with e
   intro e2
   have := hxlt g e2
   omega
 ·rcases hc.mo with e | ⟨g, e, hg⟩
  ·rw [e]; exact h.neX
  ·rw [e]; intro e
   injection e with e
   have := h.G.lt
   omega
/-- an element more -/
theorem XpL.push (h : XpL W0 B lv gX W kv ov ts os fh acc kv1 ov1 ts1 os1 xv wr) {z : Int} {xv' : Value} {w6 : World} (ho : OwnIA w6 W.heap.size xv' (acc ++ [z])) (hk : Kept (fun g => xv.ownBlock = some g) wr w6) (hm : Moved xv xv' wr) :
  XpL W0 B lv gX W kv ov ts os fh (acc ++ [z]) kv1 ov1 ts1 os1 xv' (w6.setCell ⟨gX, 1, none⟩ xv') := by
 obtain ⟨f1, f2⟩ := h.far
 have k7 : Kept (fun g => g = gX) w6 (w6.setCell ⟨gX, 1, none⟩ xv') := (Kept.refl (fun g => g = gX) w6).setCell (p := ⟨gX, 1, none⟩) (Or.inl rfl) xv'
 have a0 := hk.own h.wk.krow (fun g e1 e2 => f1 g e2 (.inl e1))
 have a2 : OwnNA w6 B ov1 os1 := h.wk.out.kept hk (fun g e1 e2 => f1 g e2 (.inr e1)) (fun x hx g e1 e2 => h.ne x hx g e1 e2)
 have a3 := hk.blk h.G (own_blk_ne' h.R h.G (by decide))
 have hkt : ∀ t, KT W0 B ov1 t wr → (∀ g, trBlk t g → xv.ownBlock ≠ some g ∧ g ≠ gX) → KT W0 B ov1 t (w6.setCell ⟨gX, 1, none⟩ xv') := fun t ht hn =>
  (ht.kept hk (fun g hg e => (hn g hg).1 e) ht.ap).kept k7 (fun g hg e => (hn g hg).2 e) ht.ap
 have hmv : ∀ t, KT W0 B ov1 t wr → (∀ g, trBlk t g → xv.ownBlock ≠ some g ∧ g ≠ gX) → ∀ g, trBlk t g → xv'.ownBlock ≠ some g ∧ g ≠ gX := fun t ht hn g hg => ⟨fun e2 => by
  rcases hm with hm | ⟨g', hm, hg'⟩
  ·rw [hm] at e2
   exact (hn g hg).1 e2
  ·rw [hm] at e2
   injection e2 with e2
   have := (trBlk_lt ht.nds hg).1
   omega, (hn g hg).2⟩
 refine ⟨⟨k7.own a0 (fun g e1 e2 => by subst e2; exact own_blk_ne' a0 a3 (by decide) e1), a2.kept k7 (fun g e1 e2 => by subst e2; exact h.neX e1) (fun x hx g e1 e2 => by subst e2; exact own_blk_ne' (a2.2 x hx) a3 (by decide) e1), fun t ht => hkt t (h.wk.kt t ht) (h.nek t ht)⟩, hkt fh h.f h.nef,
  (h.kp.over hk (fun g e => (own_lt' h.R e).2)).over k7 (fun g e => by rw [e]; exact h.hX), h.mkv, h.mo, h.new, h.newk, a3.set_ 1 xv', k7.own ho (fun g e1 e2 => by subst e2; exact own_blk_ne' ho a3 (by decide) e1), fun x hx g e1 e2 => ?_, hmv fh h.f h.nef, fun t ht => hmv t (h.wk.kt t ht) (h.nek t ht), h.hX, h.neX⟩
 rcases hm with hm | ⟨g', hm, hg⟩
 ·rw [hm] at e2
  exact h.ne x hx g e1 e2
 ·rw [hm] at e2
  injection e2 with e2
  have := (own_lt' (h.wk.out.2 x hx) e1).1
  omega
/-- the loop is done: the key is laid behind the others -/
theorem XpL.key (h : XpL W0 B lv gX W kv ov ts os fh acc kv1 ov1 ts1 os1 xv wr) {kv' : Value} {w6 : World} (ho : w6.ownsRow B 25 3 kv' (ts1 ++ [fh]).length ((ts1 ++ [fh]).flatMap TrH.cells)) (hk : Kept (fun g => kv1.ownBlock = some g) wr w6) (hm : Moved kv1 kv' wr) :
  XpS W0 B kv' ov1 (ts1 ++ [fh]) os1 w6 ∧ Kept (XpT kv ov) W w6 ∧ Moved kv kv' W ∧ Blk w6 gX 53 #[.int .i64 lv, xv] ∧ OwnIA w6 W.heap.size xv acc ∧ (∀ t ∈ ts1 ++ [fh], t ∈ ts ∨ t = fh ∨ ∀ g, trBlk t g → W.heap.size ≤ g) := by
 have hkt : ∀ t, KT W0 B ov1 t wr → KT W0 B ov1 t w6 := fun t ht => ht.kept hk (fun g hg e => ht.far h.wk.krow (by decide) (by decide) g hg e) ht.ap
 refine ⟨⟨ho, h.wk.out.kept hk (fun g e1 e2 => own_ne h.wk.krow h.wk.out.1 (by decide) e2 e1) (fun x hx g e1 e2 => own_ne h.wk.krow (h.wk.out.2 x hx) (by decide) e2 e1), fun t ht => ?_⟩,
  h.kp.xpT h.mkv h.mo (hk.mono (fun g _ e => .inl e)), h.mkv.trans hm h.kp.below.size, hk.blk h.G (fun e => own_blk_ne' h.wk.krow h.G (by decide) e), hk.own h.R (fun g e1 e2 => own_ne h.wk.krow h.R (by decide) e2 e1), fun t ht => ?_⟩
 ·rcases List.mem_append.1 ht with ht | ht
  ·exact hkt t (h.wk.kt t ht)
  ·rw [List.mem_singleton] at ht
   subst ht
   exact hkt t h.f
 ·rcases List.mem_append.1 ht with ht | ht
  ·rcases h.newk t ht with h1 | h1
   ·exact .inl h1
   ·exact .inr (.inr h1)
  ·rw [List.mem_singleton] at ht
   exact .inr (.inl ht)
/-- .. and the node behind the others -/
theorem XpL.fin (h : XpL W0 B lv gX W kv ov ts os fh acc kv1 ov1 ts1 os1 xv wr) {A : Option Addr} {c : Nat} (hxv : xv = .slice A acc.length c) (hp : 0 < acc.length) {kv' : Value} {w6 : World} {ts' : List TrH} (hS : XpS W0 B kv' ov1 ts' os1 w6) (hK : Kept (XpT kv ov) W w6) (hM : Moved kv kv' W) (hn : ∀ t ∈ ts', t ∈ ts ∨ t = fh ∨ ∀ g, trBlk t g → W.heap.size ≤ g) (hs : wr.heap.size ≤ w6.heap.size)
  {v9 : Value} {w9 : World} (hN : OwnNA w9 B v9 (os1 ++ [⟨lv, A, c, acc⟩])) (hk : Kept (fun g => ov1.ownBlock = some g) w6 w9) (hm : Moved ov1 v9 w6) :
  XpC W0 B W kv ov ts os fh kv' v9 ts' (os1 ++ [⟨lv, A, c, acc⟩]) w9 := by
 refine ⟨⟨hk.own hS.krow (fun g e1 e2 => own_ne hS.krow hS.out.1 (by decide) e1 e2), hN, fun t ht => (hS.kt t ht).kept hk (fun g hg e => (hS.kt t ht).ap g hg e) ((hS.kt t ht).moved hm)⟩, hK.xpT hM h.mo (hk.mono (fun g _ e => .inr e)), hM, h.mo.trans hm hK.below.size, fun x hx => ?_, hn⟩
 rcases List.mem_append.1 hx with hx | hx
 ·exact h.new x hx
 ·rw [List.mem_singleton] at hx
  subst hx
  obtain ⟨g, c', e, hg, -⟩ := h.R.some_ hp
  rw [hxv] at e
  injection e with e1 e2 e3
  subst e1
  exact .inr ⟨g, rfl, hg⟩
end
theorem XpC.pre {W0 : World} {B : Nat} {W : World} {kv ov : Value} {ts : List TrH} {os : List Hd} {fh : TrH} {kv2 ov2 : Value} {ts2 : List TrH} {os2 : List Hd} {w W1 : World} (h : XpC W0 B W1 kv ov ts os fh kv2 ov2 ts2 os2 w) (hb : Below W.heap.size W W1) : XpC W0 B W kv ov ts os fh kv2 ov2 ts2 os2 w :=
 ⟨h.wk, (Kept.of_new _ hb).trans h.kp, h.mkv.down hb.size, h.mo.down hb.size, fun x hx => by
  rcases h.new x hx with h1 | ⟨g, e, hg⟩
  ·exact .inl h1
  ·exact .inr ⟨g, e, Nat.le_trans hb.size hg⟩, fun t ht => by
  rcases h.newk t ht with h1 | h1 | h1
  ·exact .inl h1
  ·exact .inr (.inl h1)
  ·exact .inr (.inr fun g hg => Nat.le_trans hb.size (h1 g hg))⟩
/-- a row of trees grows by one -/
theorem wpList_pushK {wr : World} {ops : Array Oper} {rest : List Oper} {o : Oper} {a : Act} {Q : Exit → Act → World → Prop} (hgd : o.guard = none) (s x : Operand) (t : TypeId)
  (ho : o.op = .call { callee := .builtin .append, args := #[s, x], argTypes := #[t, t] })
  (base : Nat) (ht : Tryd.prog.underlying t = some (.slice 25))
  (v : Value) (ts : List TrH) (hse : a.eval s = v) (hown : wr.ownsRow base 25 3 v ts.length (ts.flatMap TrH.cells))
  (f : TrH) (hx : a.eval x = .slice (some ⟨wr.heap.size, 0, none⟩) 1 1) (hl : ts.length < 1000000000000) (hbase : base ≤ wr.heap.size)
  (h : ∀ v' w', w'.ownsRow base 25 3 v' (ts ++ [f]).length ((ts ++ [f]).flatMap TrH.cells) → Kept (fun g => v.ownBlock = some g) wr w' → Moved v v' wr → wpList Tryd.prog ops Q rest (a.put o.dst v') w') :
  wpList Tryd.prog ops Q (o :: rest) a (wr.alloc (.cells #[.int .i64 f.st, .slice f.hA f.ps.length f.hc, .slice f.nA f.hs.length f.nc] 25)) := by
 obtain ⟨i0, hi0, hz0, hz1, hz2⟩ := info_parts Tryd.infoTree
 refine wpList_append_own_at _ hgd s x t ho base 25 i0 _ 3 56 ht hi0 hz0 hz1 hz2 rfl (by decide) v ts.length _ hse (hown.alloc _) ⟨wr.heap.size, 0, none⟩ 1 1 [.int .i64 f.st, .slice f.hA f.ps.length f.hc, .slice f.nA f.hs.length f.nc] hx (by simp) ?_ (by simp [Value.oneCell']) (by unfold maxLen; omega) (by omega) (by simp; omega) ?_
 ·intro j u hu
  rw [addr_add]
  have : (wr.alloc (.cells #[.int .i64 f.st, .slice f.hA f.ps.length f.hc, .slice f.nA f.hs.length f.nc] 25)).cell? ⟨wr.heap.size, 0 + j, none⟩ = #[Value.int .i64 f.st, .slice f.hA f.ps.length f.hc, .slice f.nA f.hs.length f.nc][0 + j]? := cell_of_row _ _ _ _ _ _ (heap_alloc_new wr _)
  rw [this]
  simpa using hu
 ·intro v' w' hown' hg _ hat
  refine h v' w' ?_ (((Kept.refl _ wr).alloc _).grown hg fun g hg => Or.inl hg) ?_
  ·rw [List.length_append, List.flatMap_append]
   exact hown'
  ·rcases hat with hat | hat
   ·exact .inl hat
   ·exact .inr ⟨_, hat, by simp⟩
end Go.Proofs.YtojnnfihpiegoaaDoor
