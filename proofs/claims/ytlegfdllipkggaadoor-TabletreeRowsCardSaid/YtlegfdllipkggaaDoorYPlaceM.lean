/-
  texts PlaceM: parts of the proof; conditions stand with each theorem.
-/
import Derived.Test.YtlegfdllipkggaaDoorYG18
import Derived.Test.YtlegfdllipkggaaDoorYDecide
namespace Go.Proofs.YtlegfdllipkggaaDoor
open Go.RowKit Go.Maps
set_option maxRecDepth 100000
set_option linter.unusedVariables false
set_option linter.unusedSimpArgs false
def PlT (gF gX g ub : Nat) (x : Nat) : Prop := x = g ∨ x = ub ∨ x = gF ∨ x = gX
structure PlD (B gin gb gr gF gX gc gp gu gt g ub : Nat) : Prop where
 lo : ∀ x, PlT gF gX g ub x → B ≤ x
 ne : ∀ x, PlT gF gX g ub x → x ≠ gin ∧ x ≠ gb ∧ x ≠ gr ∧ x ≠ gc ∧ x ≠ gp ∧ x ≠ gu ∧ x ≠ gt
 df : g ≠ ub ∧ g ≠ gF ∧ g ≠ gX ∧ ub ≠ gF ∧ ub ≠ gX ∧ gF ≠ gX
structure PlS (W0 : World) (gin gb gr gF gX gc gp gu gt g ub : Nat) (iA : Option Addr) (ic : Nat) (inn : List Int) (zA : Option Addr) (zc : Nat) (ins : List Int) (out c : Int) (hA vA rA : Option Addr) (hc vc rc : Nat) (t : TabH) (bs : List Int) (used : List Bool) (r : Int × Bool) (w : World) : Prop where
 low : Below W0.heap.size W0 w
 bi : Blk w gin 41 #[.slice iA inn.length ic]
 bb : Blk w gb 115 #[.pointer (some ⟨g, 0, none⟩)]
 br : Blk w gr 47 #[.slice zA ins.length zc, .int .i64 out]
 bc : Blk w gc 3 #[.int .i64 c]
 bp : Blk w gp 119 #[.func (.func 89) #[] #[.pointer (some ⟨gin, 0, none⟩), .pointer (some ⟨gb, 0, none⟩), .pointer (some ⟨gr, 0, none⟩), .pointer (some ⟨gF, 0, none⟩), .pointer (some ⟨gX, 0, none⟩), .pointer (some ⟨gc, 0, none⟩), .pointer (some ⟨gp, 0, none⟩), .pointer (some ⟨gu, 0, none⟩), .pointer (some ⟨gt, 0, none⟩)]]
 bu : Blk w gu 71 #[.slice (some ⟨ub, 0, none⟩) inn.length inn.length]
 bt : Blk w gt 31 #[.int .i64 t.st, .int .i64 t.sym, .slice hA t.hood.length hc, .slice vA t.vs.length vc, .slice rA t.rs.length rc]
 bf : Blk w gF 4 #[.bool r.2]
 bx : Blk w gX 3 #[.int .i64 r.1]
 bd : BindB w g bs
 us : OwnBl w W0.heap.size (.slice (some ⟨ub, 0, none⟩) inn.length inn.length) used
section
variable {W0 : World} {gin gb gr gF gX gc gp gu gt g ub : Nat} {iA : Option Addr} {ic : Nat} {inn : List Int} {zA : Option Addr} {zc : Nat} {ins : List Int} {out c : Int} {hA vA rA : Option Addr} {hc vc rc : Nat} {t : TabH} {bs bs' : List Int} {used : List Bool} {r r' : Int × Bool} {w w' : World}
theorem PlS.move {used' : List Bool} (h : PlS W0 gin gb gr gF gX gc gp gu gt g ub iA ic inn zA zc ins out c hA vA rA hc vc rc t bs used r w) (hd : PlD W0.heap.size gin gb gr gF gX gc gp gu gt g ub) (k : Kept (PlT gF gX g ub) w w') (hf : Blk w' gF 4 #[.bool r'.2]) (hx : Blk w' gX 3 #[.int .i64 r'.1]) (hb : BindB w' g bs') (hu : OwnBl w' W0.heap.size (.slice (some ⟨ub, 0, none⟩) inn.length inn.length) used') :
  PlS W0 gin gb gr gF gX gc gp gu gt g ub iA ic inn zA zc ins out c hA vA rA hc vc rc t bs' used' r' w' :=
 ⟨h.low.trans (k.to_below h.low.size (fun x hx e => by have := hd.lo x e; omega)),
  k.blk h.bi (fun e => (hd.ne _ e).1 rfl), k.blk h.bb (fun e => (hd.ne _ e).2.1 rfl), k.blk h.br (fun e => (hd.ne _ e).2.2.1 rfl), k.blk h.bc (fun e => (hd.ne _ e).2.2.2.1 rfl), k.blk h.bp (fun e => (hd.ne _ e).2.2.2.2.1 rfl), k.blk h.bu (fun e => (hd.ne _ e).2.2.2.2.2.1 rfl), k.blk h.bt (fun e => (hd.ne _ e).2.2.2.2.2.2 rfl), hf, hx, hb, hu⟩
theorem PlS.bind (h : PlS W0 gin gb gr gF gX gc gp gu gt g ub iA ic inn zA zc ins out c hA vA rA hc vc rc t bs used r w) (hd : PlD W0.heap.size gin gb gr gF gX gc gp gu gt g ub) (k : Kept (fun x => x = g) w w') (hb : BindB w' g bs') : PlS W0 gin gb gr gF gX gc gp gu gt g ub iA ic inn zA zc ins out c hA vA rA hc vc rc t bs' used r w' :=
 h.move hd (k.mono (fun x _ e => .inl e)) (k.blk h.bf (fun e => hd.df.2.1 e.symm)) (k.blk h.bx (fun e => hd.df.2.2.1 e.symm)) hb (k.own h.us (fun x e hx => by
  have e2 : ub = x := by simpa [Value.ownBlock] using e
  exact hd.df.1 (hx.symm.trans e2.symm)))
theorem PlS.same (h : PlS W0 gin gb gr gF gX gc gp gu gt g ub iA ic inn zA zc ins out c hA vA rA hc vc rc t bs used r w) (hd : PlD W0.heap.size gin gb gr gF gX gc gp gu gt g ub) (k : Below w.heap.size w w') : PlS W0 gin gb gr gF gX gc gp gu gt g ub iA ic inn zA zc ins out c hA vA rA hc vc rc t bs used r w' :=
 h.bind hd (Kept.of_new _ k) (h.bd.ext k)
theorem PlS.mark (h : PlS W0 gin gb gr gF gX gc gp gu gt g ub iA ic inn zA zc ins out c hA vA rA hc vc rc t bs used r w) (hd : PlD W0.heap.size gin gb gr gF gX gc gp gu gt g ub) (k : Nat) (b : Bool) : PlS W0 gin gb gr gF gX gc gp gu gt g ub iA ic inn zA zc ins out c hA vA rA hc vc rc t bs (used.set k b) r (w.setCell ⟨ub, k, none⟩ (.bool b)) :=
 h.move hd ((Kept.refl _ w).setCell (p := ⟨ub, k, none⟩) (.inl (.inr (.inl rfl))) _) (h.bf.far (p := ⟨ub, k, none⟩) (Ne.symm hd.df.2.2.2.1) _) (h.bx.far (p := ⟨ub, k, none⟩) (Ne.symm hd.df.2.2.2.2.1) _) ⟨h.bd.1, h.bd.2.far (p := ⟨ub, k, none⟩) hd.df.1 _⟩ (h.us.set k b)
theorem PlS.back (h : PlS W0 gin gb gr gF gX gc gp gu gt g ub iA ic inn zA zc ins out c hA vA rA hc vc rc t bs used r w) (hd : PlD W0.heap.size gin gb gr gF gX gc gp gu gt g ub) (v : Nat) (z : Int) : PlS W0 gin gb gr gF gX gc gp gu gt g ub iA ic inn zA zc ins out c hA vA rA hc vc rc t (bs.set v z) used r (w.setCell ⟨g, v, none⟩ (.int .i64 z)) :=
 h.bind hd ((Kept.refl (fun x => x = g) w).setCell (p := ⟨g, v, none⟩) (.inl rfl) _) (h.bd.set v z)
theorem PlS.found (h : PlS W0 gin gb gr gF gX gc gp gu gt g ub iA ic inn zA zc ins out c hA vA rA hc vc rc t bs used r w) (hd : PlD W0.heap.size gin gb gr gF gX gc gp gu gt g ub) (n : Int) : PlS W0 gin gb gr gF gX gc gp gu gt g ub iA ic inn zA zc ins out c hA vA rA hc vc rc t bs used (n, true) ((w.setCell ⟨gX, 0, none⟩ (.int .i64 n)).setCell ⟨gF, 0, none⟩ (.bool true)) := by
 have hu0 : Kept (fun x => x = gX ∨ x = gF) w ((w.setCell ⟨gX, 0, none⟩ (.int .i64 n)).setCell ⟨gF, 0, none⟩ (.bool true)) := ((Kept.refl _ w).setCell (p := ⟨gX, 0, none⟩) (.inl (.inl rfl)) _).setCell (p := ⟨gF, 0, none⟩) (.inl (.inr rfl)) _; refine h.move hd (hu0.mono (fun x _ e => by rcases e with e | e; exact .inr (.inr (.inr e)); exact .inr (.inr (.inl e)))) ?_ ?_ ?_ ?_
 ·exact (h.bf.far (p := ⟨gX, 0, none⟩) hd.df.2.2.2.2.2 _).set_ 0 _
 ·exact (h.bx.set_ 0 (.int .i64 n)).far (p := ⟨gF, 0, none⟩) (Ne.symm hd.df.2.2.2.2.2) _
 ·exact ⟨h.bd.1, hu0.blk h.bd.2 (fun e => by rcases e with e | e; exact hd.df.2.2.1 e; exact hd.df.2.1 e)⟩
 ·exact hu0.own h.us (fun x e hx => by
   have e2 : ub = x := by simpa [Value.ownBlock] using e
   rcases hx with hx | hx
   ·exact hd.df.2.2.2.2.1 (e2.trans hx)
   ·exact hd.df.2.2.2.1 (e2.trans hx))
end
def mskL : List Int → Nat
 | [] => 0
 | s :: l => mskL l ||| 2 ^ s.toNat
theorem msk_lt : ∀ {l : List Int}, (∀ s ∈ l, 0 ≤ s ∧ s < 8) → mskL l < 256
 | [], _ => by unfold mskL; decide
 | s :: l, h => by
  unfold mskL; have h1 := msk_lt (l := l) (fun x hx => h x (by simp [hx])); have h2 := h s (by simp); have h3 : 2 ^ s.toNat < 2 ^ 8 := Nat.pow_lt_pow_right (by decide) (by omega); exact Nat.or_lt_two_pow (n := 8) h1 h3
theorem msk_mem : ∀ {l : List Int}, (∀ s ∈ l, 0 ≤ s ∧ s < 8) → ∀ s : Nat, (mskL l).testBit s = true ↔ (s : Int) ∈ l
 | [], _, s => by unfold mskL; simp
 | x :: l, h, s => by
  unfold mskL; have h2 := h x (by simp); rw [Nat.testBit_or, Bool.or_eq_true, msk_mem (l := l) (fun y hy => h y (by simp [hy])) s, Nat.testBit_two_pow, decide_eq_true_eq, List.mem_cons]; constructor
  ·rintro (h3 | h3)
   ·exact .inr h3
   ·exact .inl (by omega)
  ·rintro (h3 | h3)
   ·exact .inr (by omega)
   ·exact .inl h3
theorem and1P (m : Nat) (h : m < 256) : bits .and .i64 (m : Int) 1 = (m : Int) % 2 := by
 have : ∀ m : Nat, m < 256 → bits .and .i64 (m : Int) 1 = (m : Int) % 2 := by decide
 exact this m h
theorem shrP {m : Nat} (h : m < 256) (s : Nat) : bits .and .i64 ((m : Int) / 2 ^ s) 1 = if m.testBit s = true then 1 else 0 := by
 have e : (m : Int) / 2 ^ s = ((m / 2 ^ s : Nat) : Int) := by push_cast; rfl
 have hlt : m / 2 ^ s < 256 := Nat.lt_of_le_of_lt (Nat.div_le_self _ _) h; rw [e, and1P _ hlt, Nat.testBit_eq_decide_div_mod_eq]; have : m / 2 ^ s % 2 < 2 := Nat.mod_lt _ (by decide); by_cases h1 : m / 2 ^ s % 2 = 1
 ·rw [if_pos (by rw [h1]; rfl)]; omega
 ·rw [if_neg (by rw [decide_eq_true_eq]; exact h1)]; omega
set_option maxRecDepth 1000000 in
theorem orP (m : Nat) (h : m < 256) (s : Nat) (hs : s < 8) : bits .or .i64 (m : Int) (2 ^ s) = ((m ||| 2 ^ s : Nat) : Int) := by
 have : ∀ s : Fin 8, ∀ m : Fin 256, bits .or .i64 ((m.1 : Nat) : Int) (2 ^ s.1) = ((m.1 ||| 2 ^ s.1 : Nat) : Int) := by decide +kernel
 exact this ⟨s, hs⟩ ⟨m, h⟩
theorem wrapP (s : Nat) (hs : s < 8) : wrap64 (2 ^ s) = 2 ^ s := by
 have h1 : 2 ^ s < 2 ^ 8 := Nat.pow_lt_pow_right (by decide) hs; have h2 : (2 : Int) ^ s = ((2 ^ s : Nat) : Int) := by push_cast; rfl
 rw [h2]; obtain ⟨p, hp⟩ : ∃ p, p = 2 ^ s := ⟨_, rfl⟩
 rw [← hp] at h1 ⊢; unfold wrap64; omega
def plStep (vars : List (List Int)) (ins : List Int) (out : Int) (inn : List Int) (c : Int) (L : Nat) (bs : List Int) (used : List Bool) (e : Int) (x : List Int × (Int × Bool)) (k : Nat) : List Int × (Int × Bool) :=
 if (k : Int) = c ∨ used.getD k false = true ∨ inn.getD k 0 ∈ x.1 then x else
  (inn.getD k 0 :: x.1, if (acceptP vars bs e (inn.getD k 0)).1 = true then placeP vars ins out inn c L (acceptP vars bs e (inn.getD k 0)).2.2 (used.set k true) x.2 else x.2)
def plTo (vars : List (List Int)) (ins : List Int) (out : Int) (inn : List Int) (c : Int) (L : Nat) (bs : List Int) (used : List Bool) (e : Int) (r : Int × Bool) (m : Nat) : List Int × (Int × Bool) :=
 (List.range m).foldl (plStep vars ins out inn c L bs used e) ([], r)
section
variable {vars : List (List Int)} {ins : List Int} {out : Int} {inn : List Int} {c : Int} {L : Nat} {bs : List Int} {used : List Bool} {e : Int} {r : Int × Bool}
theorem plTo_succ (m : Nat) : plTo vars ins out inn c L bs used e r (m + 1) = plStep vars ins out inn c L bs used e (plTo vars ins out inn c L bs used e r m) m := by
 unfold plTo; rw [List.range_succ, List.foldl_append]; rfl
theorem placeP_succ (h : ((inn.length - (L + 1) : Nat) : Int) ≠ c) : placeP vars ins out inn c (L + 1) bs used r = (plTo vars ins out inn c L bs used (ins.getD (inn.length - (L + 1)) 0) r inn.length).2 := by
 rw [placeP, if_neg h]; rfl
theorem plTo_mem (hs : ∀ s ∈ inn, 0 ≤ s ∧ s < 8) : ∀ m, m ≤ inn.length → ∀ s ∈ (plTo vars ins out inn c L bs used e r m).1, 0 ≤ s ∧ s < 8
 | 0, _ => fun s h => by cases h
 | m + 1, hm => fun s h => by
  rw [plTo_succ] at h; unfold plStep at h
  split at h
  ·exact plTo_mem hs m (by omega) s h
  ·rcases List.mem_cons.1 h with rfl | h
   ·rw [List.getD_eq_getElem?_getD, List.getElem?_eq_getElem (by omega)]; exact hs _ (List.getElem_mem _)
   ·exact plTo_mem hs m (by omega) s h
end
def NegOr (bs : List Int) : Prop := ∀ v : Nat, v < 40 → 0 ≤ bs.getD v 0 ∨ bs.getD v 0 = -1
theorem NegOr.neg : NegOr negL := fun v hv => .inr (by
 have : ∀ v : Fin 40, negL.getD v.1 0 = -1 := by decide
 exact this ⟨v, hv⟩)
theorem NegOr.set {bs : List Int} (h : NegOr bs) {v : Nat} {s : Int} (hs : 0 ≤ s) : NegOr (bs.set v s) := fun u hu => by
 by_cases e : v = u
 ·subst e; rw [List.getD_eq_getElem?_getD]; by_cases hl : v < bs.length
  ·rw [List.getElem?_set_self hl]; exact .inl hs
  ·rw [List.getElem?_eq_none (by rw [List.length_set]; omega)]; exact .inl (Int.le_refl _)
 ·have : (bs.set v s).getD u 0 = bs.getD u 0 := by
   rw [List.getD_eq_getElem?_getD, List.getD_eq_getElem?_getD, List.getElem?_set_ne e]
  rw [this]; exact h u hu
theorem set_back {bs : List Int} (h : NegOr bs) (hl : bs.length = 40) {v : Nat} {s : Int} (hv : v < 40) (hn : ¬ 0 ≤ bs.getD v 0) : (bs.set v s).set v (-1) = bs := by
 rw [List.set_set]; have h1 : bs.getD v 0 = -1 := (h v hv).resolve_left hn; have h2 : bs[v]'(by omega) = -1 := by
  rw [List.getD_eq_getElem?_getD, List.getElem?_eq_getElem (by omega)] at h1; exact h1
 rw [← h2, List.set_getElem_self]
theorem acceptP_cases (vars : List (List Int)) (bs : List Int) (e s : Int) : acceptP vars bs e s = (false, false, bs) ∨ acceptP vars bs e s = (true, false, bs) ∨ (e < 0 ∧ ¬ 0 ≤ bs.getD (-1 - e).toNat 0 ∧ acceptP vars bs e s = (true, true, bs.set (-1 - e).toNat s)) := by
 unfold acceptP; by_cases h0 : 0 ≤ e
 ·rw [if_pos h0]; cases h : (e == s) with
  | true => exact .inr (.inl rfl)
  | false => exact .inl rfl
 ·rw [if_neg h0]; by_cases h1 : 0 ≤ bs.getD (-1 - e).toNat 0
  ·rw [if_pos h1]; cases h : (bs.getD (-1 - e).toNat 0 == s) with
   | true => exact .inr (.inl rfl)
   | false => exact .inl rfl
  ·rw [if_neg h1]; by_cases h2 : s ∈ vars.getD (-1 - e).toNat []
   ·rw [if_pos h2]; exact .inr (.inr ⟨by omega, h1, rfl⟩)
   ·rw [if_neg h2]; exact .inl rfl
theorem setB_back {used : List Bool} {k : Nat} (hk : k < used.length) (h : used.getD k false = false) : (used.set k true).set k false = used := by
 rw [List.set_set]; have h2 : used[k] = false := by
  rw [List.getD_eq_getElem?_getD, List.getElem?_eq_getElem hk] at h; exact h
 rw [← h2, List.set_getElem_self]
end Go.Proofs.YtlegfdllipkggaaDoor
