/-
  texts J: parts of the proof; conditions stand with each theorem.
-/
import Derived.Test.YtlegfdllipkggaaDoorYG0
namespace Go.Proofs.YtlegfdllipkggaaDoor
set_option linter.unusedSimpArgs false
open Go.RowKit
set_option maxRecDepth 100000
set_option linter.unusedVariables false

def OnlyN (K : Act → World → Prop) : Exit → Act → World → Prop
 | .normal, a, w => K a w
 | _, _, _ => False
theorem OnlyN.not_lets {K : Act → World → Prop} : ¬ LetsOut (OnlyN K) := fun ⟨_, _, h⟩ => h
theorem oper_only {P : Program} {o : Oper} {a : Act} {w : World} {K : Act → World → Prop} {Q : Exit → Act → World → Prop} (hh : o.wp P a w K (OnlyN K)) : o.wp P a w K Q := by
 unfold Oper.wp at *; generalize (execOp a.eval o).run P w = r at *; cases r with
 | ok n w' =>
  cases n <;> simp only [Oper.upon] at hh ⊢ <;>
   first
    | exact hh
    | exact Calls.mono hh (fun e w'' he => by cases e <;> first | exact he | exact (OnlyN.not_lets he).elim | exact (he : False).elim)
 | halt x w' => cases x <;> simp only [Oper.upon] at hh ⊢ <;> first | exact hh | exact (hh : False).elim
theorem wpOp_of_list {P : Program} {ops : Array Oper} {i : Nat} {o : Oper} {a : Act} {w : World} {K : Act → World → Prop} {Q : Exit → Act → World → Prop} (ho : ops[i]? = some o)
  (h : wpList P ops (OnlyN K) [o] a w) : wpOp P ops Q i K a w := by
 unfold wpOp; rw [ho]; simp only; unfold wpList at h
 split
 ·rename_i hw; rw [if_pos hw] at h; rcases h with h | h
  ·exact Or.inl (oper_only h)
  ·exact (OnlyN.not_lets h.2).elim
 ·rename_i hw; rw [if_neg hw] at h; exact h
theorem filter_len_le {α : Type} {p q : α → Bool} : ∀ l : List α, (∀ x ∈ l, p x = true → q x = true) → (l.filter p).length ≤ (l.filter q).length
 | [], _ => Nat.le_refl _
 | x :: l, h => by
  have ih := filter_len_le l fun y hy => h y (List.mem_cons_of_mem _ hy); cases hp : p x
  ·cases hq : q x <;> simp [hp, hq] <;> omega
  ·simp [hp, h x List.mem_cons_self hp]; exact ih
theorem filter_len_lt {α : Type} {p q : α → Bool} {i : α} : ∀ l : List α, (∀ x ∈ l, p x = true → q x = true) → i ∈ l → p i = false → q i = true → (l.filter p).length < (l.filter q).length
 | [], _, hi, _, _ => by simp at hi
 | x :: l, h, hi, hp, hq => by
  rcases List.mem_cons.1 hi with rfl | hi
  ·have := filter_len_le l fun y hy => h y (List.mem_cons_of_mem _ hy); simp [hp, hq]; omega
  ·have ih := filter_len_lt l (fun y hy => h y (List.mem_cons_of_mem _ hy)) hi hp hq; cases hpx : p x
   ·cases hqx : q x <;> simp [hpx, hqx] <;> omega
   ·simp [hpx, h x List.mem_cons_self hpx]; exact ih
def leftIn (ops : Array Oper) (listed : Array Bool) : Nat := ((List.range ops.size).filter fun i => !listed.getD i true).length
theorem leftIn_set {ops : Array Oper} {listed : Array Bool} {i : Nat} (hi : i < ops.size) (h : listed.getD i true = false) : leftIn ops (listed.setIfInBounds i true) < leftIn ops listed := by
 refine filter_len_lt (i := i) _ (fun x _ hx => ?_) (by simpa using hi) ?_ (by rw [h]; rfl)
 ·by_cases hxi : i = x
  ·subst hxi; rw [h]; rfl
  ·rwa [getD_set_ne true hxi] at hx
 ·have hl : i < listed.size := by
   rcases Nat.lt_or_ge i listed.size with h' | h'
   ·exact h'
   ·simp [Array.getElem?_eq_none h'] at h
  simp [hl]
theorem ready_nil {md : Region.Mode} {ops : Array Oper} {listed : Array Bool} (h : leftIn ops listed = 0) : Region.ready md ops listed = [] := by
 apply List.eq_nil_iff_forall_not_mem.2; intro j hj; obtain ⟨h0, o, ho, -⟩ := mem_ready.1 hj; have hlt : j < ops.size := (Array.getElem?_eq_some_iff.1 ho).1; have hn : ((List.range ops.size).filter fun i => !listed.getD i true) = [] := List.length_eq_zero_iff.1 h; have : j ∈ ((List.range ops.size).filter fun i => !listed.getD i true) := by
  rw [List.mem_filter]; exact ⟨by simpa using hlt, by rw [h0]; rfl⟩
 rw [hn] at this; cases this
theorem wpAny_J {P : Program} {md : Region.Mode} {ops : Array Oper} {Q : Exit → Act → World → Prop} (J : Array Bool → Act → World → Prop)
  (hstep : ∀ i listed a w, i ∈ Region.ready md ops listed → J listed a w → wpOp P ops Q i (J (listed.setIfInBounds i true)) a w)
  (hdone : ∀ listed a w, Region.ready md ops listed = [] → J listed a w → Q .normal a w) :
  ∀ fuel listed a w, leftIn ops listed ≤ fuel → J listed a w → wpAny P md ops Q fuel listed a w
 | 0, listed, a, w, hl, hJ => by
  have hr := ready_nil (md := md) (Nat.le_zero.1 hl); exact ⟨hr, hdone _ _ _ hr hJ⟩
 | fuel + 1, listed, a, w, hl, hJ => by
  refine ⟨fun hr => hdone _ _ _ hr hJ, fun i hi => ?_⟩; obtain ⟨h0, o, ho, -⟩ := mem_ready.1 hi; have hlt : i < ops.size := (Array.getElem?_eq_some_iff.1 ho).1; have hs := leftIn_set (ops := ops) hlt h0; exact wpOp_mono (fun a' w' h' => wpAny_J J hstep hdone fuel _ a' w' (by omega) h') (hstep i listed a w hi hJ)
theorem leftIn_le (ops : Array Oper) (listed : Array Bool) : leftIn ops listed ≤ ops.size := by
 unfold leftIn; refine Nat.le_trans (List.length_filter_le _ _) ?_
 simp
theorem wp_region_J {P : Program} {id : Nat} {ops : Array Oper} {Q : Exit → Act → World → Prop} {a : Act} {w : World} (hm : P.follows .mixedOrders = true) (J : Array Bool → Act → World → Prop)
  (h0 : J (Array.replicate ops.size false) a w.drew)
  (hstep : ∀ i listed a w, i ∈ Region.ready .any ops listed → J listed a w → wpOp P ops Q i (J (listed.setIfInBounds i true)) a w)
  (hdone : ∀ listed a w, Region.ready .any ops listed = [] → J listed a w → Q .normal a w) :
  (Code.region id ops true).wp P Q a w :=
 wp_region_any hm (wpAny_J J hstep hdone _ _ _ _ (leftIn_le _ _) h0)
theorem OnlyN.mk {K : Act → World → Prop} {a : Act} {w : World} (h : K a w) : OnlyN K .normal a w := h
theorem wpOp_hidden {P : Program} {ops : Array Oper} {i : Nat} {o : Oper} {a : Act} {w : World} {J : Act → World → Prop} {Q : Exit → Act → World → Prop} (ho : ops[i]? = some o)
  (h : ∀ K : Act → World → Prop, Hid (∀ a w, J a w → K a w) → wpList P ops (OnlyN K) [o] a w) : wpOp P ops Q i J a w := wpOp_of_list ho (h J (Lib.hid fun _ _ x => x))
end Go.Proofs.YtlegfdllipkggaaDoor
