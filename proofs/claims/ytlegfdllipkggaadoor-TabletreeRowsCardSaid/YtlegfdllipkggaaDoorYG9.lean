/-
  texts BldP Ctr RVal12 TabM TabP SameI: parts of the proof; conditions stand with each theorem.
-/
import Derived.Test.YtlegfdllipkggaaDoorYG3
import Derived.Test.YtlegfdllipkggaaDoorYG5
import Derived.Test.YtlegfdllipkggaaDoorYG4
import Derived.Test.YtlegfdllipkggaaDoorYG8
import Derived.Test.YtlegfdllipkggaaDoorYG2
import Derived.Test.YtlegfdllipkggaaDoorYG1
namespace Go.Proofs.YtlegfdllipkggaaDoor
set_option linter.unusedVariables false
set_option linter.unusedSimpArgs false

theorem val_growB {q : Nat} {A : List Nd} (hA : Lev q A (· < A.length)) (ys : List Nd) {L : Nat} {k : Int} (h0 : 0 ≤ k) (h1 : 1 ≤ L → k.toNat < A.length ∧ (ndAt A k.toNat).1 = (L : Int)) {ins : List Nat} (hl : ins.length = L) (hq : ∀ t ∈ ins, t < q) : val (A ++ ys) k ins = val A k ins := by
 rcases Nat.eq_zero_or_pos L with hL | hL
 ·have : ins = [] := List.eq_nil_of_length_eq_zero (by omega); subst this; rfl
 ·obtain ⟨h2, h3⟩ := h1 hL; have := (Eqv.app hA ys (ndAt A k.toNat).1.toNat k.toNat (by rw [h3]; omega) h2).2 ins (by rw [ndAt_app_lt h2, h3, hl]) hq; rw [toNat_cast h0] at this; exact this
structure Sys (S : Type) where
 L : Nat
 q : Nat
 step : S → Nat → Nat → S
 fin : S → Int
abbrev BS (S : Type) := List ((Nat × S) × Nat) × List Nd
section
variable {S : Type}
def runS (Y : Sys S) : S → Nat → List Nat → S
 | s, _, [] => s
 | s, a, t :: r => runS Y (Y.step s a t) (a + 1) r
def kidsB (r : S → BS S → Int × BS S) (g : Nat → S) : Nat → BS S → List Int × BS S
 | 0, b => ([], b)
 | j + 1, b => ((kidsB r g j b).1 ++ [(r (g j) (kidsB r g j b).2).1], (r (g j) (kidsB r g j b).2).2)
structure BI (Y : Sys S) (b : BS S) : Prop where
 nv : NV Y.q b.2
 seen : ∀ x k, (x, k) ∈ b.1 → ∃ n, x.1 + (n + 1) = Y.L ∧ k < b.2.length ∧ (ndAt b.2 k).1 = ((n + 1 : Nat) : Int) ∧ ∀ ins : List Nat, ins.length = n + 1 → (∀ t ∈ ins, t < Y.q) → val b.2 (k : Int) ins = Y.fin (runS Y x.2 x.1 ins)
theorem BI.nil (Y : Sys S) : BI Y ([], []) := ⟨NV.nil _, fun x k h => absurd h (by simp)⟩
structure BOk (Y : Sys S) (n : Nat) (s : S) (b : BS S) (r : Int × BS S) : Prop where
 i : BI Y r.2
 vis : Vis Y.q n b.2 r.1 r.2.2
 new : ∃ ks, r.2.1 = b.1 ++ ks ∧ ∀ y ∈ ks, Y.L ≤ y.1.1 + n
 lead : ∀ ins : List Nat, ins.length = n → (∀ t ∈ ins, t < Y.q) → val r.2.2 r.1 ins = Y.fin (runS Y s (Y.L - n) ins)
 sz1 : r.2.1.length ≤ b.1.length + cap Y.q n
 sz2 : r.2.2.length ≤ b.2.length + cap Y.q n
structure KOk (Y : Sys S) (n : Nat) (g : Nat → S) (j : Nat) (b : BS S) (a : List Int × BS S) : Prop where
 i : BI Y a.2
 ch : Chain (Vis Y.q n) b.2 a.1 a.2.2
 len : a.1.length = j
 new : ∃ ks, a.2.1 = b.1 ++ ks ∧ ∀ y ∈ ks, Y.L ≤ y.1.1 + n
 lead : ∀ i, i < j → ∀ ins : List Nat, ins.length = n → (∀ t ∈ ins, t < Y.q) → val a.2.2 (a.1.getD i 0) ins = Y.fin (runS Y (g i) (Y.L - n) ins)
 sz1 : a.2.1.length ≤ b.1.length + j * cap Y.q n
 sz2 : a.2.2.length ≤ b.2.length + j * cap Y.q n
theorem KOk.zero (Y : Sys S) (n : Nat) (g : Nat → S) {b : BS S} (h : BI Y b) : KOk Y n g 0 b ([], b) :=
 ⟨h, rfl, rfl, ⟨[], by simp, fun y hy => absurd hy (by simp)⟩, fun i hi => absurd hi (by omega), by simp, by simp⟩
theorem KOk.succ {Y : Sys S} {n : Nat} {g : Nat → S} {j : Nat} {b : BS S} {a : List Int × BS S} (hb : BI Y b) (h : KOk Y n g j b a) {r : Int × BS S} (hr : BOk Y n (g j) a.2 r) : KOk Y n g (j + 1) b (a.1 ++ [r.1], r.2) := by
 obtain ⟨k1, e1, l1⟩ := h.new; obtain ⟨k2, e2, l2⟩ := hr.new; have hv := vis_ok n _ _ _ h.i.nv hr.vis; obtain ⟨ys, ey, -⟩ := hv.g; have hc := chain_ok (fun a b d e f => vis_ok n a b d e f) _ _ _ hb.nv h.ch; refine ⟨hr.i, h.ch.snoc hr.vis, by simp [h.len], ⟨k1 ++ k2, by rw [e2, e1, List.append_assoc], fun y hy => ?_⟩, fun i hi ins hl hq => ?_, ?_, ?_⟩
 ·rcases List.mem_append.1 hy with hy | hy
  ·exact l1 y hy
  ·exact l2 y hy
 ·dsimp only; rcases Nat.lt_or_ge i j with h1 | h1
  ·have e : (a.1 ++ [r.1]).getD i 0 = a.1.getD i 0 := by rw [List.getD_eq_getElem?_getD, List.getElem?_append_left (by rw [h.len]; exact h1), ← List.getD_eq_getElem?_getD]
   have hm : a.1.getD i 0 ∈ a.1 := getD_mem (by rw [h.len]; exact h1); rw [e, ← h.lead i h1 ins hl hq, ey]; by_cases hn : 1 ≤ n
   ·obtain ⟨a1, a2, a3⟩ := hc.nd hn _ hm; exact val_growB h.i.nv.v.lev ys (L := n) a1 (fun _ => ⟨a2, a3⟩) hl hq
   ·have : ins = [] := List.eq_nil_of_length_eq_zero (by omega); subst this; rfl
  ·obtain rfl : i = j := by omega
   have e : (a.1 ++ [r.1]).getD i 0 = r.1 := by rw [List.getD_eq_getElem?_getD, List.getElem?_append_right (by rw [h.len]; exact Nat.le_refl _), h.len, Nat.sub_self]; rfl
   rw [e]; exact hr.lead ins hl hq
 ·have := h.sz1; have := hr.sz1; rw [Nat.succ_mul]; dsimp only; omega
 ·have := h.sz2; have := hr.sz2; rw [Nat.succ_mul]; dsimp only; omega
theorem KOk.fin {Y : Sys S} {n : Nat} {s : S} {b : BS S} {a : List Int × BS S} (hb : BI Y b) (hL : n + 1 ≤ Y.L) (h : KOk Y n (fun t => Y.step s (Y.L - (n + 1)) t) Y.q b a) :
  BOk Y (n + 1) s b (((addN a.2.2 (((n + 1 : Nat) : Int), a.1)).1 : Int), (a.2.1 ++ [((Y.L - (n + 1), s), (addN a.2.2 (((n + 1 : Nat) : Int), a.1)).1)], (addN a.2.2 (((n + 1 : Nat) : Int), a.1)).2)) := by
 have hc := chain_ok (fun a b d e f => vis_ok n a b d e f) _ _ _ hb.nv h.ch; obtain ⟨k1, e1, l1⟩ := h.new; have hvis : Vis Y.q (n + 1) b.2 (((addN a.2.2 (((n + 1 : Nat) : Int), a.1)).1 : Nat) : Int) (addN a.2.2 (((n + 1 : Nat) : Int), a.1)).2 := by
  rcases addN_cases a.2.2 (((n + 1 : Nat) : Int), a.1) with ⟨i, ha, hil, hin⟩ | ⟨ha, hnot⟩
  ·rw [ha]; exact chain_found hb.nv h.ch hil hin
  ·rw [ha]; exact .inr ⟨a.1, a.2.2, h.ch, h.len, hnot, rfl, rfl⟩
 have hv := vis_ok (n + 1) _ _ _ hb.nv hvis; have hget : ndAt (addN a.2.2 (((n + 1 : Nat) : Int), a.1)).2 (addN a.2.2 (((n + 1 : Nat) : Int), a.1)).1 = (((n + 1 : Nat) : Int), a.1) := by
  rcases addN_cases a.2.2 (((n + 1 : Nat) : Int), a.1) with ⟨i, ha, hil, hin⟩ | ⟨ha, hnot⟩
  ·rw [ha]; exact hin
  ·rw [ha]; exact ndAt_app_len _ _
 have hg : ∃ ys, (addN a.2.2 (((n + 1 : Nat) : Int), a.1)).2 = a.2.2 ++ ys ∧ ys.length ≤ 1 := by
  rcases addN_cases a.2.2 (((n + 1 : Nat) : Int), a.1) with ⟨i, ha, hil, hin⟩ | ⟨ha, hnot⟩
  ·rw [ha]; exact ⟨[], by simp, by simp⟩
  ·rw [ha]; exact ⟨_, rfl, by simp⟩
 obtain ⟨ys, ey, ly⟩ := hg; have hlead : ∀ ins : List Nat, ins.length = n + 1 → (∀ t ∈ ins, t < Y.q) → val (addN a.2.2 (((n + 1 : Nat) : Int), a.1)).2 (((addN a.2.2 (((n + 1 : Nat) : Int), a.1)).1 : Nat) : Int) ins = Y.fin (runS Y s (Y.L - (n + 1)) ins) := fun ins hl hq => by
  cases ins with
  | nil => simp at hl
  | cons t r =>
   have ht : t < Y.q := hq t (by simp); have hrl : r.length = n := by simpa using hl
   have hrq : ∀ x ∈ r, x < Y.q := fun x hx => hq x (by simp [hx]); simp only [val, Int.toNat_natCast, hget, runS]; rw [show Y.L - (n + 1) + 1 = Y.L - n by omega, ← h.lead t ht r hrl hrq, ey]; have hm : a.1.getD t 0 ∈ a.1 := getD_mem (by rw [h.len]; exact ht); by_cases hn : 1 ≤ n
   ·obtain ⟨a1, a2, a3⟩ := hc.nd hn _ hm; exact val_growB h.i.nv.v.lev ys (L := n) a1 (fun _ => ⟨a2, a3⟩) hrl hrq
   ·have : r = [] := List.eq_nil_of_length_eq_zero (by omega); subst this; rfl
 obtain ⟨v1, v2, v3⟩ := hv.nd (by omega); rw [Int.toNat_natCast] at v2 v3; refine ⟨⟨hv.nv, fun x k hx => ?_⟩, hvis, ⟨k1 ++ [((Y.L - (n + 1), s), (addN a.2.2 (((n + 1 : Nat) : Int), a.1)).1)], by dsimp only; rw [e1, List.append_assoc], fun y hy => ?_⟩, hlead, ?_, ?_⟩
 ·dsimp only at hx ⊢; rcases List.mem_append.1 hx with hx | hx
  ·obtain ⟨m, m1, m2, m3, m4⟩ := h.i.seen x k hx; refine ⟨m, m1, by rw [ey, List.length_append]; omega, by rw [ey, ndAt_app_lt m2]; exact m3, fun ins hl hq => ?_⟩; rw [← m4 ins hl hq, ey]; exact val_growB h.i.nv.v.lev ys (L := m + 1) (Int.natCast_nonneg _) (fun _ => ⟨by rw [Int.toNat_natCast]; exact m2, by rw [Int.toNat_natCast]; exact m3⟩) hl hq
  ·rw [List.mem_singleton] at hx; injection hx with hx1 hx2
   subst hx1 hx2; exact ⟨n, by dsimp only; omega, v2, v3, hlead⟩
 ·rcases List.mem_append.1 hy with hy | hy
  ·have := l1 y hy; omega
  ·rw [List.mem_singleton.1 hy]; dsimp only; omega
 ·have := h.sz1; simp only [List.length_append, List.length_singleton, cap]; omega
 ·have := h.sz2; dsimp only; rw [ey, List.length_append]; simp only [cap]; omega
theorem kids_rng {Y : Sys S} {n : Nat} {g : Nat → S} {j : Nat} {b : BS S} {r : List Int × BS S} (hb : BI Y b) (h : KOk Y n g j b r) (hq : Y.q ≤ 100) {N : Nat} (hN : r.2.2.length ≤ N) (h100 : 100 ≤ N) : ∀ z ∈ r.1, 0 ≤ z ∧ z ≤ (N : Int) := by
 intro z hz; have c := chain_ok (fun a b d e f => vis_ok n a b d e f) _ _ _ hb.nv h.ch; by_cases hn : 1 ≤ n
 ·obtain ⟨a1, a2, a3⟩ := c.nd hn z hz; omega
 ·obtain ⟨a1, a2⟩ := (c.low (by omega)).2 z hz; omega
end
section
variable {S : Type} [DecidableEq S]
def lookS : List ((Nat × S) × Nat) → Nat × S → Option Nat
 | [], _ => none
 | e :: r, p => if e.1 = p then some e.2 else lookS r p
theorem lookS_mem : ∀ {m : List ((Nat × S) × Nat)} {p : Nat × S} {k : Nat}, lookS m p = some k → (p, k) ∈ m
 | [], p, k, h => by cases h
 | e :: r, p, k, h => by
  unfold lookS at h
  split at h
  ·rename_i he; injection h with h
   subst h he; exact List.mem_cons_self
  ·exact List.mem_cons_of_mem _ (lookS_mem h)
theorem lookS_none : ∀ {m : List ((Nat × S) × Nat)} {p : Nat × S}, lookS m p = none → ∀ k, (p, k) ∉ m
 | [], p, h, k, hm => absurd hm (by simp)
 | e :: r, p, h, k, hm => by
  unfold lookS at h
  split at h
  ·cases h
  ·rename_i he; rcases List.mem_cons.1 hm with hm | hm
   ·exact he (by rw [← hm])
   ·exact lookS_none h k hm
theorem lookS_snoc : ∀ (m : List ((Nat × S) × Nat)) (x : Nat × S) (k : Nat) (p : Nat × S), lookS (m ++ [(x, k)]) p = (lookS m p).or (if x = p then some k else none)
 | [], x, k, p => by
  show (if x = p then some k else none) = _; rfl
 | e :: r, x, k, p => by
  show (if e.1 = p then some e.2 else lookS (r ++ [(x, k)]) p) = (if e.1 = p then some e.2 else lookS r p).or _; by_cases h : e.1 = p
  ·rw [if_pos h, if_pos h]; rfl
  ·rw [if_neg h, if_neg h]; exact lookS_snoc r x k p
def bld (Y : Sys S) : Nat → S → BS S → Int × BS S
 | 0, s, b => (Y.fin s, b)
 | n + 1, s, b => match lookS b.1 (Y.L - (n + 1), s) with
  | some k => ((k : Int), b)
  | none => (((addN (kidsB (bld Y n) (fun t => Y.step s (Y.L - (n + 1)) t) Y.q b).2.2 (((n + 1 : Nat) : Int), (kidsB (bld Y n) (fun t => Y.step s (Y.L - (n + 1)) t) Y.q b).1)).1 : Int),
    ((kidsB (bld Y n) (fun t => Y.step s (Y.L - (n + 1)) t) Y.q b).2.1 ++ [((Y.L - (n + 1), s), (addN (kidsB (bld Y n) (fun t => Y.step s (Y.L - (n + 1)) t) Y.q b).2.2 (((n + 1 : Nat) : Int), (kidsB (bld Y n) (fun t => Y.step s (Y.L - (n + 1)) t) Y.q b).1)).1)],
     (addN (kidsB (bld Y n) (fun t => Y.step s (Y.L - (n + 1)) t) Y.q b).2.2 (((n + 1 : Nat) : Int), (kidsB (bld Y n) (fun t => Y.step s (Y.L - (n + 1)) t) Y.q b).1)).2))
variable {Y : Sys S} {R : Nat → S → Prop}
theorem bld_ok (hR : ∀ a s t, R a s → a < Y.L → t < Y.q → R (a + 1) (Y.step s a t)) (hF : ∀ s, R Y.L s → 0 ≤ Y.fin s ∧ Y.fin s < (Y.q : Int)) :
  ∀ (n : Nat), n ≤ Y.L → ∀ (s : S) (b : BS S), R (Y.L - n) s → BI Y b → BOk Y n s b (bld Y n s b)
 | 0, hn, s, b, hr, hb => by
  obtain ⟨f1, f2⟩ := hF s hr; refine ⟨hb, ⟨rfl, f1, f2⟩, ⟨[], by simp [bld], fun y hy => absurd hy (by simp)⟩, fun ins hl hq => ?_, by simp [bld], by simp [bld]⟩; have : ins = [] := List.eq_nil_of_length_eq_zero hl; subst this; rfl
 | n + 1, hn, s, b, hr, hb => by
  unfold bld; cases hlk : lookS b.1 (Y.L - (n + 1), s) with
  | some k =>
   dsimp only; obtain ⟨m, m1, m2, m3, m4⟩ := hb.seen _ _ (lookS_mem hlk); dsimp only at m1 m4; obtain rfl : m = n := by omega
   exact ⟨hb, .inl ⟨k, rfl, m2, m3, rfl⟩, ⟨[], by simp, fun y hy => absurd hy (by simp)⟩, m4, by simp, by simp⟩
  | none =>
   dsimp only; have key : ∀ j, j ≤ Y.q → KOk Y n (fun t => Y.step s (Y.L - (n + 1)) t) j b (kidsB (bld Y n) (fun t => Y.step s (Y.L - (n + 1)) t) j b) := by
    intro j; induction j with
    | zero => intro _; exact KOk.zero _ _ _ hb
    | succ j ih =>
     intro hj; have h := ih (by omega); refine h.succ hb (bld_ok hR hF n (by omega) _ _ ?_ h.i); have := hR _ s j hr (by omega) (by omega); rwa [show Y.L - (n + 1) + 1 = Y.L - n by omega] at this
   exact KOk.fin hb hn (key Y.q (Nat.le_refl _))
theorem kids_ok (hR : ∀ a s t, R a s → a < Y.L → t < Y.q → R (a + 1) (Y.step s a t)) (hF : ∀ s, R Y.L s → 0 ≤ Y.fin s ∧ Y.fin s < (Y.q : Int)) {n : Nat} (hn : n + 1 ≤ Y.L) {s : S} {b : BS S} (hr : R (Y.L - (n + 1)) s) (hb : BI Y b) : ∀ j, j ≤ Y.q → KOk Y n (fun t => Y.step s (Y.L - (n + 1)) t) j b (kidsB (bld Y n) (fun t => Y.step s (Y.L - (n + 1)) t) j b) := by
 intro j; induction j with
 | zero => intro _; exact KOk.zero _ _ _ hb
 | succ j ih =>
  intro hj; have h := ih (by omega); refine h.succ hb (bld_ok hR hF n (by omega) _ _ ?_ h.i); have := hR _ s j hr (by omega) (by omega); rwa [show Y.L - (n + 1) + 1 = Y.L - n by omega] at this
theorem kids_look {n a : Nat} {s : S} {g : Nat → S} {j : Nat} {b : BS S} {r : List Int × BS S} (h : KOk Y n g j b r) (ha : a + (n + 1) = Y.L) (hn : lookS b.1 (a, s) = none) : lookS r.2.1 (a, s) = none := by
 obtain ⟨ks, e, l⟩ := h.new; cases h2 : lookS r.2.1 (a, s) with
 | none => rfl
 | some k =>
  have hm := lookS_mem h2; rw [e] at hm; rcases List.mem_append.1 hm with hm | hm
  ·exact absurd hm (lookS_none hn k)
  ·have := l _ hm; dsimp only at this; omega
theorem bld_can (hR : ∀ a s t, R a s → a < Y.L → t < Y.q → R (a + 1) (Y.step s a t)) (hF : ∀ s, R Y.L s → 0 ≤ Y.fin s ∧ Y.fin s < (Y.q : Int)) (hL : 1 ≤ Y.L) (hL2 : Y.L ≤ 100) {s : S} (hr : R 0 s) :
  Can Y.q Y.L (bld Y Y.L s ([], [])).2.2 ∧ (∀ ins : List Nat, ins.length = Y.L → (∀ t ∈ ins, t < Y.q) → val (bld Y Y.L s ([], [])).2.2 (((bld Y Y.L s ([], [])).2.2.length - 1 : Nat) : Int) ins = Y.fin (runS Y s 0 ins)) := by
 have h := bld_ok hR hF Y.L (Nat.le_refl _) s ([], []) (by rw [Nat.sub_self]; exact hr) (BI.nil Y); obtain ⟨c1, c2⟩ := vis_can hL hL2 h.vis; refine ⟨c1, fun ins hl hq => ?_⟩; rw [← c2, h.lead ins hl hq, Nat.sub_self]
end
end Go.Proofs.YtlegfdllipkggaaDoor
namespace Go.Proofs.YtlegfdllipkggaaDoor
set_option linter.unusedSimpArgs false
open Go.RowKit
set_option maxRecDepth 100000
set_option linter.unusedVariables false

def idxF {α : Type} [DecidableEq α] (p : α) : Nat → List α → Int
 | _, [] => -1
 | k, x :: l => if x = p then (k : Int) else idxF p (k + 1) l
theorem idxF_step {α : Type} [DecidableEq α] {p : α} {xs : List α} {k : Nat} (h : k < xs.length) : idxF p k (xs.drop k) = if xs[k] = p then (k : Int) else idxF p (k + 1) (xs.drop (k + 1)) := by
 rw [List.drop_eq_getElem_cons h]; rfl
theorem idxF_mem {α : Type} [DecidableEq α] {p : α} : ∀ (xs : List α) (k : Nat), (0 ≤ idxF p k xs ↔ p ∈ xs)
 | [], k => by simp [idxF]
 | x :: l, k => by
  unfold idxF; by_cases h : x = p
  ·rw [if_pos h]; simp [h]
  ·rw [if_neg h, idxF_mem l (k + 1)]; simp [Ne.symm h]
set_option maxHeartbeats 800000 in
theorem iidx_any (A : Option Addr) (xs : List Int) (c : Nat) (n : Int) (w : World) (ha : Ints w A xs) :
  Calls Tryd.prog 70 #[.slice A xs.length c, .int .i64 n] w fun e w' => e = .returned (.int .i64 (idxF n 0 xs)) ∧ w' = w := by
 have hn := ha.le; go_enter Tryd.func70, Tryd.ntmps70; go_wp2
 go_loop [8] (fun i => ∃ k : Nat, k ≤ xs.length ∧ i = .int .i64 k ∧ Hid (idxF n 0 xs = idxF n k (xs.drop k))) (fun i => xs.length - (intOf i).toNat)
 case atStart => exact ⟨0, Nat.zero_le _, rfl, Lib.hid rfl⟩
 case round =>
  obtain ⟨k, hk, rfl, HT⟩ := hrel; by_cases hlt : k < xs.length
  ·obtain ⟨b1, o1, rfl, -, hc⟩ := ha.at_ hlt; have hd := idxF_step (p := n) hlt; by_cases h1 : xs[k] = n
   ·have HN := Lib.hid (HT.out.trans (hd.trans (if_pos h1))); have d1 : (n == xs[k]) = true := by simp [h1]
    clear hd h1 HT; go_wp2; go_ret; exact ⟨ret_int HN.out.symm, rfl⟩
   ·have HN := Lib.hid (HT.out.trans (hd.trans (if_neg h1))); have d1 : (n == xs[k]) = false := by simp [Ne.symm h1]
    clear hd h1 HT; go_wp2
    go_round
    case rel => exact ⟨k + 1, by omega, by go_num, HN⟩
    case measure => simp [intOf]; omega
  ·obtain rfl : k = xs.length := by omega
   have hno : idxF n 0 xs = -1 := by rw [HT.out, List.drop_length]; rfl
   have HN := Lib.hid hno; clear hno HT; go_wp2; go_ret; exact ⟨ret_int HN.out.symm, rfl⟩
set_option maxHeartbeats 800000 in
theorem contains_any (A : Option Addr) (xs : List Int) (c : Nat) (n : Int) (w : World) (ha : Ints w A xs) :
  Calls Tryd.prog 56 #[.slice A xs.length c, .int .i64 n] w fun e w' => e = .returned (.bool (decide (n ∈ xs))) ∧ w' = w := by
 have HI := Lib.hid (iidx_any A xs c n w ha); have HM := Lib.hid (idxF_mem (p := n) xs 0); obtain ⟨r, hr⟩ : ∃ r, r = idxF n 0 xs := ⟨_, rfl⟩
 rw [← hr] at HI HM; clear hr ha; go_enter Tryd.func56, Tryd.ntmps56; go_wp2_with fail; refine HI.out.mono ?_; rintro e w' ⟨rfl, rfl⟩; go_wp2; go_ret; exact ⟨ret_bool (decide_eq_decide.2 HM.out), rfl⟩
set_option maxHeartbeats 800000 in
theorem pidx_any (A : Option Addr) (xs : List (Int × Int)) (c : Nat) (a b : Int) (w : World) (ha : Pts w A xs) :
  Calls Tryd.prog 48 #[.slice A xs.length c, .agg #[.int .i64 a, .int .i64 b]] w fun e w' => e = .returned (.int .i64 (idxF (a, b) 0 xs)) ∧ Below w.heap.size w w' := by
 have hn := ha.le; obtain ⟨w0, hw0⟩ : ∃ w0, w0 = w.alloc (.cells #[.int .i64 a, .int .i64 b] 67) := ⟨_, rfl⟩
 have hb0 : Below w.heap.size w w0 := by rw [hw0]; exact below_new _ _
 have q0 : Blk w0 w.heap.size 67 #[.int .i64 a, .int .i64 b] := by rw [hw0]; exact Blk.new _ _ _
 have d0 := q0.cell_ 0 (.int .i64 a) rfl; have d1 := q0.cell_ 1 (.int .i64 b) rfl; have hP := ha.ext hb0; have HB0 := Lib.hid hb0; have HW0 := Lib.hid hw0; clear hb0 q0 hw0 ha; go_enter Tryd.func48, Tryd.ntmps48; go_upto_region 1 with fail
 rw [← HW0.out]; go_wp2; go_loopw [8] (fun i wr => ∃ k q : Nat, k ≤ xs.length ∧ i = .int .i64 k ∧ wr = w0.drewN q ∧ Hid (idxF (a, b) 0 xs = idxF (a, b) k (xs.drop k))) (fun i _ => xs.length - (intOf i).toNat)
 case atStart => exact ⟨0, 0, Nat.zero_le _, rfl, rfl, Lib.hid rfl⟩
 case round =>
  obtain ⟨k, q, hk, rfl, rfl, HT⟩ := hrel; by_cases hlt : k < xs.length
  ·obtain ⟨b1, o1, rfl, -, hc, hc'⟩ := hP.at_ hlt; have HD := Lib.hid (HT.out.trans (idxF_step (p := (a, b)) hlt)); clear HT; have hst := Tryd.stood_pt; have heg := Tryd.guard_pt; have hnq := eql_pt; go_wp2; go_quiet (fail)
   cases hpe : ptEq a b xs[k].1 xs[k].2 with
   | true =>
    have he : xs[k] = (a, b) := by
     unfold ptEq at hpe; simp at hpe; exact Prod.ext hpe.1.symm hpe.2.symm
    have HN := Lib.hid (HD.out.trans (if_pos he)); clear HD he; go_wp2; go_ret; exact ⟨ret_int HN.out.symm, HB0.out.trans ((below_drewN (below_drewN (Below.refl _ _) _) _).mono HB0.out.size)⟩
   | false =>
    have he : ¬ xs[k] = (a, b) := by
     unfold ptEq at hpe; intro e; rw [e] at hpe; simp at hpe
    have HN := Lib.hid (HD.out.trans (if_neg he)); clear HD he; go_wp2; go_roundw
    case rel => exact ⟨k + 1, _, by omega, by go_num, rfl, HN⟩
    case measure => simp [intOf]; omega
  ·obtain rfl : k = xs.length := by omega
   have hno : idxF (a, b) 0 xs = -1 := by rw [HT.out, List.drop_length]; rfl
   have HN := Lib.hid hno; clear hno HT; go_wp2; go_ret; exact ⟨ret_int HN.out.symm, HB0.out.trans ((below_drewN (Below.refl _ _) _).mono HB0.out.size)⟩
set_option maxHeartbeats 800000 in
theorem ridx_any (A : Option Addr) (xs : List (Int × Int)) (c : Nat) (a b : Int) (w : World) (ha : Pts w A xs) :
  Calls Tryd.prog 68 #[.slice A xs.length c, .agg #[.int .i64 a, .int .i64 b]] w fun e w' => e = .returned (.int .i64 (idxF (a, b) 0 xs)) ∧ Below w.heap.size w w' := by
 have hn := ha.le; obtain ⟨w0, hw0⟩ : ∃ w0, w0 = w.alloc (.cells #[.int .i64 a, .int .i64 b] 67) := ⟨_, rfl⟩
 have hb0 : Below w.heap.size w w0 := by rw [hw0]; exact below_new _ _
 have q0 : Blk w0 w.heap.size 67 #[.int .i64 a, .int .i64 b] := by rw [hw0]; exact Blk.new _ _ _
 have d0 := q0.cell_ 0 (.int .i64 a) rfl; have d1 := q0.cell_ 1 (.int .i64 b) rfl; have hP := ha.ext hb0; have HB0 := Lib.hid hb0; have HW0 := Lib.hid hw0; clear hb0 q0 hw0 ha; go_enter Tryd.func68, Tryd.ntmps68; go_upto_region 1 with fail
 rw [← HW0.out]; go_wp2; go_loopw [5] (fun i wr => ∃ k q : Nat, k ≤ xs.length ∧ i = .int .i64 k ∧ wr = w0.drewN q ∧ Hid (idxF (a, b) 0 xs = idxF (a, b) k (xs.drop k))) (fun i _ => xs.length - (intOf i).toNat)
 case atStart => exact ⟨0, 0, Nat.zero_le _, rfl, rfl, Lib.hid rfl⟩
 case round =>
  obtain ⟨k, q, hk, rfl, rfl, HT⟩ := hrel; by_cases hlt : k < xs.length
  ·obtain ⟨b1, o1, rfl, -, hc, hc'⟩ := hP.at_ hlt; have HD := Lib.hid (HT.out.trans (idxF_step (p := (a, b)) hlt)); clear HT; have hst := Tryd.stood_pt; have heg := Tryd.guard_pt; have hnq := eql_pt; go_wp2; go_quiet (fail)
   cases hpe : ptEq xs[k].1 xs[k].2 a b with
   | true =>
    have he : xs[k] = (a, b) := by
     unfold ptEq at hpe; simp at hpe; exact Prod.ext hpe.1 hpe.2
    have HN := Lib.hid (HD.out.trans (if_pos he)); clear HD he; go_wp2; go_ret; exact ⟨ret_int HN.out.symm, HB0.out.trans ((below_drewN (below_drewN (Below.refl _ _) _) _).mono HB0.out.size)⟩
   | false =>
    have he : ¬ xs[k] = (a, b) := by
     unfold ptEq at hpe; intro e; rw [e] at hpe; simp at hpe
    have HN := Lib.hid (HD.out.trans (if_neg he)); clear HD he; go_wp2; go_roundw
    case rel => exact ⟨k + 1, _, by omega, by go_num, rfl, HN⟩
    case measure => simp [intOf]; omega
  ·obtain rfl : k = xs.length := by omega
   have hno : idxF (a, b) 0 xs = -1 := by rw [HT.out, List.drop_length]; rfl
   have HN := Lib.hid hno; clear hno HT; go_wp2; go_ret; exact ⟨ret_int HN.out.symm, HB0.out.trans ((below_drewN (Below.refl _ _) _).mono HB0.out.size)⟩
def ctrP (ps : List (Int × Int)) : Int := if hoodB ps = true then idxF (0, 0) 0 ps else -1
set_option maxHeartbeats 800000 in
theorem centre_any (A : Option Addr) (ps : List (Int × Int)) (c : Nat) (w : World) (ha : Pts w A ps) :
  Calls Tryd.prog 25 #[.slice A ps.length c] w fun e w' => e = .returned (.int .i64 (ctrP ps)) ∧ Below w.heap.size w w' := by
 have HH := Lib.hid (hood_any A c ps w ha); have HX := Lib.hid (fun W (hb : Below w.heap.size w W) => pidx_any A ps c 0 0 W (ha.ext hb)); have hn := ha.le; cases hB : hoodB ps with
 | false =>
  have HE : Hid (ctrP ps = -1) := Lib.hid (by unfold ctrP; rw [hB]; rfl); go_enter Tryd.func25, Tryd.ntmps25; go_wp2_with fail; refine HH.out.mono ?_; rintro e w1 ⟨rfl, hb1⟩; rw [hB]; go_wp2; go_ret; exact ⟨ret_int HE.out.symm, hb1⟩
 | true =>
  have HE : Hid (ctrP ps = idxF (0, 0) 0 ps) := Lib.hid (by unfold ctrP; rw [hB]; rfl); go_enter Tryd.func25, Tryd.ntmps25; go_wp2_with fail; refine HH.out.mono ?_; rintro e w1 ⟨rfl, hb1⟩; rw [hB]; go_wp2_with fail; refine (HX.out w1 hb1).mono ?_; rintro e w2 ⟨rfl, hb2⟩; go_wp2; go_ret; exact ⟨ret_int HE.out.symm, hb1.trans (hb2.mono hb1.size)⟩

set_option maxHeartbeats 4000000 in
theorem val12_any (st : Int) (A : Option Addr) (n c : Nat) (B : Option Addr) (d : Nat) (hs : List Hd) (Av : Option Addr) (cv : Nat) (ins : List Nat) (w : World) (hN : Nds w B hs) (hv : Ints w Av (ins.map fun (s : Nat) => (s : Int)))
  (q : Nat) (hV : VNd q (hs.map Hd.nd)) (hp : 0 < hs.length) (hroot : (ndAt (hs.map Hd.nd) (hs.length - 1)).1 = (ins.length : Int)) (hq : ∀ s ∈ ins, s < q) :
  Calls Tryd.prog 37 #[.agg #[.int .i64 st, .slice A n c, .slice B hs.length d], .slice Av ins.length cv] w fun e w' => e = .returned (.int .i64 (val (hs.map Hd.nd) ((hs.length - 1 : Nat) : Int) ins)) ∧ Below w.heap.size w w' := by
 obtain ⟨w0, hw0⟩ : ∃ w0, w0 = w.alloc (.cells #[.int .i64 st, .slice A n c, .slice B hs.length d] 25) := ⟨_, rfl⟩
 have hb0 : Below w.heap.size w w0 := by rw [hw0]; exact below_new _ _
 have p0 : Blk w0 w.heap.size 25 #[.int .i64 st, .slice A n c, .slice B hs.length d] := by rw [hw0]; exact Blk.new _ _ _
 have hlN := hN.le; have hlI := hv.le; rw [List.length_map] at hlI; obtain ⟨N1, hN1⟩ : ∃ N1, N1 = hs.length - 1 := ⟨_, rfl⟩
 have hwN : wrap64 ((hs.length : Int) - 1) = (N1 : Int) := by unfold wrap64; omega
 have HN1 : Hid (N1 < hs.length) := Lib.hid (by omega); rw [← hN1] at hroot ⊢; obtain ⟨r, hr⟩ : ∃ r, r = val (hs.map Hd.nd) (N1 : Int) ins := ⟨_, rfl⟩
 rw [← hr]; have HR := Lib.hid hr; have HRT := Lib.hid hroot; have HV := Lib.hid hV; have HQ := Lib.hid hq; have HB0 := Lib.hid hb0; have HP0 := Lib.hid p0; have HW0 := Lib.hid hw0; have HN := Lib.hid (hN.ext hb0); have HI := Lib.hid (hv.ext hb0); have HLI := Lib.hid hlI; have c2 := p0.cell_ 2 (.slice B hs.length d) rfl; clear hb0 p0 hw0 hN hv hV hp hroot hq hr hN1 hlN hlI; go_enter Tryd.func37, Tryd.ntmps37; go_upto_region 1 with fail
 rw [← HW0.out]; go_wp2; clear c2; go_loopw [5, 6] (fun kv iv wr => ∃ (cur : Int) (i : Nat), kv = .int .i64 cur ∧ iv = .int .i64 i ∧ i ≤ ins.length ∧ Hid (Below w0.heap.size w0 wr) ∧ Hid (val (hs.map Hd.nd) cur (ins.drop i) = r) ∧ Hid (i < ins.length → 0 ≤ cur ∧ cur.toNat < hs.length ∧ (ndAt (hs.map Hd.nd) cur.toNat).1 = ((ins.length - i : Nat) : Int))) (fun _ iv _ => ins.length - (intOf iv).toNat)
 case atStart => exact ⟨(N1 : Int), 0, (by first | rfl | (rw [hwN])), rfl, Nat.zero_le _, Lib.hid (Below.refl _ _), Lib.hid HR.out.symm, Lib.hid (fun _ => ⟨Int.natCast_nonneg _, by rw [Int.toNat_natCast]; exact HN1.out, by rw [Int.toNat_natCast]; exact HRT.out⟩)⟩
 case round =>
  obtain ⟨cur, i, rfl, rfl, hi, HBR, HVL, HC⟩ := hrel; clear hwN; have c2 := (HP0.out.below HBR.out HP0.out.lt).cell_ 2 (.slice B hs.length d) rfl; by_cases hil : i < ins.length
  ·have hwi : wrap64 ((i : Int) + 1) = (i : Int) + 1 := by have := HLI.out; unfold wrap64; omega
   obtain ⟨k0, k1, k2⟩ := HC.out hil; obtain ⟨kn, hkn⟩ : ∃ kn : Nat, cur = kn := ⟨cur.toNat, (Int.toNat_of_nonneg k0).symm⟩
   subst hkn; rw [Int.toNat_natCast] at k1 k2; have hk1' : kn < (hs.map Hd.nd).length := by rw [List.length_map]; exact k1
   obtain ⟨b, o, e, -, g0, g1, gz⟩ := (HN.out.ext HBR.out).at_ k1; have hnd := ndl_at hs k1; have hzl := HV.out.lev.len kn hk1'; have hkids := HV.out.lev.kids kn hk1'; obtain ⟨x, hx⟩ : ∃ x, x = hs[kn] := ⟨_, rfl⟩
   rw [← hx] at g0 g1 gz hnd; obtain ⟨lv, zA, zc, zs⟩ := x; dsimp only at g0 g1 gz; change ndAt (hs.map Hd.nd) kn = (lv, zs) at hnd; rw [hnd] at hzl hkids k2; dsimp only at hzl hkids k2; have hil2 : i < (ins.map fun (s : Nat) => (s : Int)).length := by rw [List.length_map]; exact hil
   obtain ⟨b2, o2, e2, -, gi⟩ := (HI.out.ext HBR.out).at_ hil2; rw [List.getElem_map] at gi; have hsq := HQ.out _ (List.getElem_mem hil); have hdrop := List.drop_eq_getElem_cons hil; obtain ⟨s, hs'⟩ : ∃ s, s = ins[i] := ⟨_, rfl⟩
   rw [← hs'] at gi hsq hdrop; have hsz : s < zs.length := by rw [hzl]; exact hsq
   obtain ⟨b3, o3, e3, -, gk⟩ := gz.at_ hsz; have hgd : zs.getD s 0 = zs[s] := by rw [List.getD_eq_getElem?_getD, List.getElem?_eq_getElem hsz]; rfl
   obtain ⟨z, hz⟩ : ∃ z, z = zs[s] := ⟨_, rfl⟩
   have hzm : z ∈ zs := by rw [hz]; exact List.getElem_mem hsz
   rw [← hz] at gk hgd; have hv2 := HVL.out; rw [hdrop] at hv2; simp only [val, Int.toNat_natCast, hnd, hgd] at hv2; have HV2 := Lib.hid hv2; have HC2 : Hid (i + 1 < ins.length → 0 ≤ z ∧ z.toNat < hs.length ∧ (ndAt (hs.map Hd.nd) z.toNat).1 = ((ins.length - (i + 1) : Nat) : Int)) := Lib.hid (fun h => by
    obtain ⟨m1, m2, m3⟩ := hkids (by omega) z hzm; rw [List.length_map] at m2; exact ⟨m1, m2, by omega⟩)
   have HIL := Lib.hid hil; have hsz2 := hsz; clear hx hs' hz hzm hkids hdrop hv2 k0 hgd hnd gz k2 hzl hsq hi; subst e e2 e3; go_upto_region 5 with fail
   go_quiet (fail)
   go_wp2; go_roundw
   case rel => exact ⟨z, i + 1, rfl, (by first | rfl | (rw [hwi]; rfl)), HIL.out, (by first | exact HBR | exact Lib.hid (HBR.out.drew) | exact Lib.hid (below_drewN HBR.out _)), HV2, HC2⟩
   case measure => (try rw [hwi]); exact meas_step HIL.out
  ·have hie : i = ins.length := Nat.le_antisymm hi (Nat.le_of_not_lt hil); have hv2 := HVL.out; rw [hie, List.drop_of_length_le (Nat.le_refl _)] at hv2; have HE : Hid (cur = r) := Lib.hid hv2; clear hie hv2 hi; go_wp2; go_ret; exact ⟨ret_int (by rw [HE.out]), HB0.out.trans (HBR.out.mono HB0.out.size)⟩

abbrev Rw := List Int × Int
structure Rh where
 A : Option Addr
 c : Nat
 zs : List Int
 out : Int
def Rh.val (h : Rh) : Value := .slice h.A h.zs.length h.c
def Rh.cells (h : Rh) : List Value := [.slice h.A h.zs.length h.c, .int .i64 h.out]
def Rh.rw_ (h : Rh) : Rw := (h.zs, h.out)
theorem rh2 : ∀ (hs : List Rh) (k : Nat) (hk : k < hs.length), (hs.flatMap Rh.cells)[2 * k]? = some (.slice hs[k].A hs[k].zs.length hs[k].c) ∧ (hs.flatMap Rh.cells)[2 * k + 1]? = some (.int .i64 hs[k].out)
 | p :: ps, 0, _ => by simp [Rh.cells]
 | p :: ps, k + 1, hk => by
  have h := rh2 ps k (by simpa using hk); have e1 : 2 * (k + 1) = (2 * k) + 1 + 1 := by omega
  have e2 : 2 * (k + 1) + 1 = (2 * k + 1) + 1 + 1 := by omega
  simp only [List.flatMap_cons, Rh.cells, List.cons_append, List.nil_append, e1, List.getElem?_cons_succ, List.getElem_cons_succ]; exact h
theorem rh_len : ∀ hs : List Rh, (hs.flatMap Rh.cells).length = hs.length * 2
 | [] => rfl
 | p :: r => by rw [List.flatMap_cons, List.length_append, rh_len r]; simp [Rh.cells]; omega
def Rws (w : World) (A : Option Addr) (hs : List Rh) : Prop := Reads w w.heap.size 2 A hs.length (hs.flatMap Rh.cells) ∧ hs.length ≤ 9223372036854775807 ∧ ∀ h ∈ hs, Ints w h.A h.zs
section
variable {w w' : World} {A : Option Addr} {hs : List Rh}
theorem Rws.at_ {k : Nat} (h : Rws w A hs) (hk : k < hs.length) : ∃ b o, A = some ⟨b, o, none⟩ ∧ b < w.heap.size ∧ w.cell? ⟨b, o + k * 2, none⟩ = some (.slice hs[k].A hs[k].zs.length hs[k].c) ∧ w.cell? ⟨b, o + k * 2 + 1, none⟩ = some (.int .i64 hs[k].out) ∧ Ints w hs[k].A hs[k].zs := by
 obtain ⟨ad, e, hb, hc⟩ := h.1.2 (by omega); obtain ⟨f1, f2⟩ := rh2 hs k hk; obtain ⟨f0, _⟩ := rh2 hs 0 (by omega); have h0 := hc _ _ f0; obtain ⟨b, o, sp⟩ := ad; obtain rfl := spot_none h0; refine ⟨b, o, e, hb, ?_, ?_, h.2.2 _ (List.getElem_mem hk)⟩
 ·rw [Nat.mul_comm]; have := hc _ _ f1; rwa [addr_add] at this
 ·rw [Nat.mul_comm]; have := hc _ _ f2; rwa [addr_add] at this
theorem Rws.le (h : Rws w A hs) : hs.length ≤ 9223372036854775807 := h.2.1
theorem Rws.ext (h : Rws w A hs) (hb : Below w.heap.size w w') : Rws w' A hs := ⟨(Reads.below h.1 hb).more hb.size, h.2.1, fun x hx => (h.2.2 x hx).ext hb⟩
theorem Rws.drewN (h : Rws w A hs) (n : Nat) : Rws (w.drewN n) A hs := h
theorem Rws.nil : Rws w A [] := ⟨Reads.none_, by simp, fun _ h => absurd h (by simp)⟩
end
def OwnR (T I : TypeId) (w : World) (base : Nat) (v : Value) (hs : List Rh) : Prop := w.ownsRow base T 2 v hs.length (hs.flatMap Rh.cells) ∧ ∀ h ∈ hs, OwnI I w base h.val h.zs
section
variable {T I : TypeId} {w w' : World} {base : Nat} {v : Value} {hs : List Rh}
theorem OwnR.nil (T I : TypeId) (w : World) (base : Nat) : OwnR T I w base (.slice none 0 0) [] := ⟨World.ownsRow_nil _ _ _ _, fun _ h => absurd h (by simp)⟩
theorem OwnR.rws (h : OwnR T I w base v hs) : ∃ A c, v = .slice A hs.length c ∧ Rws w A hs ∧ NewA base A := by
 obtain ⟨A, c, e, h1, h2⟩ := own_form h.1; exact ⟨A, c, e, ⟨h1.1, h1.2, fun x hx => OwnI.reads (h.2 x hx)⟩, h2⟩
theorem OwnR.ext (h : OwnR T I w base v hs) (hb : Below w.heap.size w w') : OwnR T I w' base v hs := ⟨own_below h.1 hb, fun x hx => (h.2 x hx).ext hb⟩
theorem OwnR.kept (h : OwnR T I w base v hs) {S : Nat → Prop} (hk : Kept S w w') (hv : ∀ g, v.ownBlock = some g → ¬ S g) (hz : ∀ x ∈ hs, ∀ g, x.val.ownBlock = some g → ¬ S g) : OwnR T I w' base v hs :=
 ⟨hk.own h.1 hv, fun x hx => hk.own (h.2 x hx) (hz x hx)⟩
end
structure Vh where
 A : Option Addr
 c : Nat
 zs : List Int
def Vh.val (h : Vh) : Value := .slice h.A h.zs.length h.c
def Vh.cells (h : Vh) : List Value := [.slice h.A h.zs.length h.c]
theorem vh1 : ∀ (hs : List Vh) (k : Nat) (hk : k < hs.length), (hs.flatMap Vh.cells)[k]? = some (.slice hs[k].A hs[k].zs.length hs[k].c)
 | p :: ps, 0, _ => by simp [Vh.cells]
 | p :: ps, k + 1, hk => by
  have h := vh1 ps k (by simpa using hk); simp only [List.flatMap_cons, Vh.cells, List.cons_append, List.nil_append, List.getElem?_cons_succ, List.getElem_cons_succ]; exact h
theorem vh_len : ∀ hs : List Vh, (hs.flatMap Vh.cells).length = hs.length * 1
 | [] => rfl
 | p :: r => by rw [List.flatMap_cons, List.length_append, vh_len r]; simp [Vh.cells]; omega
def Vrs (w : World) (A : Option Addr) (hs : List Vh) : Prop := Reads w w.heap.size 1 A hs.length (hs.flatMap Vh.cells) ∧ hs.length ≤ 9223372036854775807 ∧ ∀ h ∈ hs, Ints w h.A h.zs
section
variable {w w' : World} {A : Option Addr} {hs : List Vh}
theorem Vrs.at_ {k : Nat} (h : Vrs w A hs) (hk : k < hs.length) : ∃ b o, A = some ⟨b, o, none⟩ ∧ b < w.heap.size ∧ w.cell? ⟨b, o + k, none⟩ = some (.slice hs[k].A hs[k].zs.length hs[k].c) ∧ Ints w hs[k].A hs[k].zs := by
 obtain ⟨ad, e, hb, hc⟩ := h.1.2 (by omega); have f1 := vh1 hs k hk; have f0 := vh1 hs 0 (by omega); have h0 := hc _ _ f0; obtain ⟨b, o, sp⟩ := ad; obtain rfl := spot_none h0; refine ⟨b, o, e, hb, ?_, h.2.2 _ (List.getElem_mem hk)⟩; have := hc _ _ f1; rwa [addr_add] at this
theorem Vrs.le (h : Vrs w A hs) : hs.length ≤ 9223372036854775807 := h.2.1
theorem Vrs.ext (h : Vrs w A hs) (hb : Below w.heap.size w w') : Vrs w' A hs := ⟨(Reads.below h.1 hb).more hb.size, h.2.1, fun x hx => (h.2.2 x hx).ext hb⟩
theorem Vrs.drewN (h : Vrs w A hs) (n : Nat) : Vrs (w.drewN n) A hs := h
theorem Vrs.nil : Vrs w A [] := ⟨Reads.none_, by simp, fun _ h => absurd h (by simp)⟩
end
def OwnV (T I : TypeId) (w : World) (base : Nat) (v : Value) (hs : List Vh) : Prop := w.ownsRow base T 1 v hs.length (hs.flatMap Vh.cells) ∧ ∀ h ∈ hs, OwnI I w base h.val h.zs
section
variable {T I : TypeId} {w w' : World} {base : Nat} {v : Value} {hs : List Vh}
theorem OwnV.nil (T I : TypeId) (w : World) (base : Nat) : OwnV T I w base (.slice none 0 0) [] := ⟨World.ownsRow_nil _ _ _ _, fun _ h => absurd h (by simp)⟩
theorem OwnV.vrs (h : OwnV T I w base v hs) : ∃ A c, v = .slice A hs.length c ∧ Vrs w A hs ∧ NewA base A := by
 obtain ⟨A, c, e, h1, h2⟩ := own_form h.1; exact ⟨A, c, e, ⟨h1.1, h1.2, fun x hx => OwnI.reads (h.2 x hx)⟩, h2⟩
theorem OwnV.ext (h : OwnV T I w base v hs) (hb : Below w.heap.size w w') : OwnV T I w' base v hs := ⟨own_below h.1 hb, fun x hx => (h.2 x hx).ext hb⟩
theorem OwnV.kept (h : OwnV T I w base v hs) {S : Nat → Prop} (hk : Kept S w w') (hv : ∀ g, v.ownBlock = some g → ¬ S g) (hz : ∀ x ∈ hs, ∀ g, x.val.ownBlock = some g → ¬ S g) : OwnV T I w' base v hs :=
 ⟨hk.own h.1 hv, fun x hx => hk.own (h.2 x hx) (hz x hx)⟩
end
theorem OwnI.cut {I : TypeId} {w : World} {base g n c : Nat} {zs : List Int} (h : OwnI I w base (.slice (some ⟨g, 0, none⟩) n c) zs) (hn : n = zs.length) {m : Nat} (hm : m ≤ n) : OwnI I w base (.slice (some ⟨g, 0, none⟩) m c) (zs.take m) := by
 subst hn; obtain ⟨h1, h2⟩ := h; have hl : (zs.take m).length = m := by rw [List.length_take]; exact Nat.min_eq_left hm
 unfold OwnI; rw [hl]; refine ⟨by rw [List.length_map, hl, Nat.mul_one], ?_⟩; rcases h2 with ⟨e, -⟩ | ⟨g', cap, cur, e, h4, h5, h6, h7, h8, h9⟩
 ·cases e
 ·injection e with e1 e2 e3
  injection e1 with e1
  injection e1 with e1
  subst e1 e3; refine .inr ⟨g, c, cur, rfl, h4, h5, Nat.le_trans hm h6, h7, h8, ?_⟩; have := congrArg (List.take (m * 1)) h9; rw [List.take_take, Nat.min_eq_left (by omega), ← List.map_take, Nat.mul_one] at this; rw [Nat.mul_one]; exact this
structure TabH where
 st : Int
 sym : Int
 hood : List (Int × Int)
 vs : List Vh
 rs : List Rh
structure TabL where
 st : Int
 sym : Int
 hood : List (Int × Int)
 vars : List (List Int)
 rows : List Rw
def TabH.tab (t : TabH) : TabL := ⟨t.st, t.sym, t.hood, t.vs.map Vh.zs, t.rs.map Rh.rw_⟩
def tabV (hA : Option Addr) (hc : Nat) (vA : Option Addr) (vc : Nat) (rA : Option Addr) (rc : Nat) (t : TabH) : Value :=
 .agg #[.int .i64 t.st, .int .i64 t.sym, .slice hA t.hood.length hc, .slice vA t.vs.length vc, .slice rA t.rs.length rc]
structure TabR (w : World) (hA vA rA : Option Addr) (t : TabH) : Prop where
 hood : Pts w hA t.hood
 vars : Vrs w vA t.vs
 rows : Rws w rA t.rs
theorem TabR.ext {w w' : World} {hA vA rA : Option Addr} {t : TabH} (h : TabR w hA vA rA t) (hb : Below w.heap.size w w') : TabR w' hA vA rA t := ⟨h.hood.ext hb, h.vars.ext hb, h.rows.ext hb⟩

def sameL (l : List Int) : Bool := l.all fun n => decide (n = l.headD 0)
def skipR (c : Int) (ins : List Int) (out : Int) : Bool := if c < 0 then decide (out = 0) else decide (ins.getD c.toNat 0 = out)
def rowsT (ns : List Nd) (c : Int) : Nat → List Int → Int → List Rw
 | 0, ins, k => if skipR c ins k = true then [] else [(ins, k)]
 | L + 1, ins, k => if sameL (ndAt ns k.toNat).2 = true then rowsT ns c L (ins ++ [-1 - (ins.length : Int)]) ((ndAt ns k.toNat).2.headD 0)
  else (List.range (ndAt ns k.toNat).2.length).flatMap fun (s : Nat) => rowsT ns c L (ins ++ [(s : Int)]) ((ndAt ns k.toNat).2.getD s 0)
def rowsK (ns : List Nd) (c : Int) (L : Nat) (ins l : List Int) (j : Nat) : List Rw := (List.range j).flatMap fun (s : Nat) => rowsT ns c L (ins ++ [(s : Int)]) (l.getD s 0)
theorem rowsK_step (ns : List Nd) (c : Int) (L : Nat) (ins l : List Int) (j : Nat) : rowsK ns c L ins l (j + 1) = rowsK ns c L ins l j ++ rowsT ns c L (ins ++ [(j : Int)]) (l.getD j 0) := by
 unfold rowsK; rw [List.range_succ, List.flatMap_append]
 simp
theorem rowsK_le (ns : List Nd) (c : Int) (L : Nat) (ins l : List Int) {j m : Nat} (h : j ≤ m) : (rowsK ns c L ins l j).length ≤ (rowsK ns c L ins l m).length := by
 induction m with
 | zero =>
  obtain rfl : j = 0 := by omega
  exact Nat.le_refl _
 | succ m ih =>
  rcases Nat.lt_or_ge m j with h1 | h1
  ·obtain rfl : j = m + 1 := by omega
   exact Nat.le_refl _
  ·rw [rowsK_step, List.length_append]; have := ih h1; omega
theorem rowsT_all {ns : List Nd} {c : Int} {L : Nat} {ins : List Int} {k : Int} (h : sameL (ndAt ns k.toNat).2 = true) : rowsT ns c (L + 1) ins k = rowsT ns c L (ins ++ [-1 - (ins.length : Int)]) ((ndAt ns k.toNat).2.headD 0) := by
 rw [rowsT, if_pos h]
theorem rowsT_each {ns : List Nd} {c : Int} {L : Nat} {ins : List Int} {k : Int} (h : sameL (ndAt ns k.toNat).2 = false) : rowsT ns c (L + 1) ins k = rowsK ns c L ins (ndAt ns k.toNat).2 (ndAt ns k.toNat).2.length := by
 rw [rowsT, if_neg (by rw [h]; simp)]; rfl
theorem sameL_no {l : List Int} {j : Nat} (hj : j < l.length) (h : ¬ l[j] = l.headD 0) : sameL l = false := by
 unfold sameL; rw [List.all_eq_false]; exact ⟨l[j], List.getElem_mem hj, by simpa using h⟩
theorem sameL_yes {l : List Int} (h : ∀ j (hj : j < l.length), l[j] = l.headD 0) : sameL l = true := by
 unfold sameL; rw [List.all_eq_true]; intro n hn; obtain ⟨j, hj, rfl⟩ := List.mem_iff_getElem.1 hn; simpa using h j hj
set_option maxHeartbeats 4000000 in
theorem samei_any (A : Option Addr) (l : List Int) (c : Nat) (w : World) (ha : Ints w A l) :
  Calls Tryd.prog 51 #[.slice A l.length c] w fun e w' => e = .returned (.bool (sameL l)) ∧ w' = w := by
 have hn := ha.le; have HA := Lib.hid ha; clear ha; go_enter Tryd.func51, Tryd.ntmps51; go_wp2; go_loopw [7] (fun iv wr => ∃ (j : Nat), j ≤ l.length ∧ iv = .int .i64 j ∧ wr = w ∧ Hid (∀ i (hi : i < l.length), i < j → l[i] = l.headD 0)) (fun iv _ => l.length - (intOf iv).toNat)
 case atStart => exact ⟨0, Nat.zero_le _, rfl, rfl, Lib.hid (fun i hi h => by omega)⟩
 case round =>
  obtain ⟨j, hj, rfl, rfl, HI⟩ := hrel; by_cases hjl : j < l.length
  ·have h0 : 0 < l.length := by omega
   obtain ⟨b, o, rfl, -, hc⟩ := HA.out.at_ hjl; obtain ⟨b', o', e', -, hc0⟩ := HA.out.at_ h0; obtain ⟨rfl, rfl⟩ : b = b' ∧ o = o' := by injection e' with e'; injection e' with h1 h2; exact ⟨h1, h2⟩
   have hhd : l[0] = l.headD 0 := by
    cases l with
    | nil => exact absurd h0 (by simp)
    | cons x r => rfl
   obtain ⟨x, hx⟩ : ∃ x, x = l[j] := ⟨_, rfl⟩
   obtain ⟨y, hy⟩ : ∃ y, y = l.headD 0 := ⟨_, rfl⟩
   rw [hhd, ← hy, Nat.add_zero] at hc0; rw [← hx] at hc; have HX := Lib.hid (And.intro hx hy); have HJ := Lib.hid hjl; have hwj : wrap64 ((j : Int) + 1) = (j : Int) + 1 := by unfold wrap64; omega
   clear e' hhd hx hy; by_cases e : x = y
   ·have f1 : (x == y) = true := beq_iff_eq.2 e; have HE := Lib.hid e; clear e; go_wp2; go_roundw
    case rel => exact ⟨j + 1, HJ.out, (by first | rfl | (rw [hwj]; rfl)), (by first | rfl | trivial), Lib.hid (fun i hi h => by
     rcases Nat.lt_or_ge i j with h1 | h1
     ·exact HI.out i hi h1
     ·obtain rfl : i = j := by omega
      rw [← HX.out.1, ← HX.out.2]; exact HE.out)⟩
    case measure => (try rw [hwj]); exact meas_step HJ.out
   ·have f1 : (x == y) = false := beq_false_of_ne e; have HNO : Hid (sameL l = false) := Lib.hid (sameL_no HJ.out (by rw [← HX.out.1, ← HX.out.2]; exact e)); clear e; go_wp2; go_ret; exact ⟨ret_bool (by rw [HNO.out]), rfl⟩
  ·obtain rfl : j = l.length := Nat.le_antisymm hj (Nat.le_of_not_lt hjl); have HY : Hid (sameL l = true) := Lib.hid (sameL_yes fun i hi => HI.out i hi hi); clear hj hjl; go_wp2; go_ret; exact ⟨ret_bool (by rw [HY.out]), rfl⟩
end Go.Proofs.YtlegfdllipkggaaDoor
