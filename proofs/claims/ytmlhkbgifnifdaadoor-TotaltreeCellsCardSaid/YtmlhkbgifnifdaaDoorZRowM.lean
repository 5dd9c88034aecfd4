/-
  The memory of a tree of rows that is being built: the tree's box, its nodes, two free rows of numbers, a node. No condition.
-/
import Derived.Test.YtmlhkbgifnifdaaDoorZG22
import Derived.Test.YtmlhkbgifnifdaaDoorZG13
namespace Go.Proofs.YtmlhkbgifnifdaaDoor
set_option linter.unusedSimpArgs false
open Go.RowKit Go.Maps
set_option maxRecDepth 100000
set_option linter.unusedVariables false

/-- a node that is being built -/
structure NxL (gX : Nat) (W : World) (lv : Int) (acc : List Int) (xv : Value) (wr : World) : Prop where
  G : Blk wr gX 59 #[.int .i64 lv, xv]
  R : OwnIA wr W.heap.size xv acc
  below : Below W.heap.size W wr
  hX : W.heap.size ≤ gX
section
variable {gX : Nat} {W : World} {lv : Int} {acc : List Int} {xv : Value} {wr : World}
theorem NxL.new (W : World) (lv : Int) : NxL W.heap.size W lv [] (.slice none 0 0) (W.alloc (.cells #[.int .i64 lv, .slice none 0 0] 59)) :=
  ⟨Blk.new _ _ _, OwnI.nil _ _ _, below_new _ _, Nat.le_refl _⟩
theorem NxL.drewN (h : NxL gX W lv acc xv wr) (k : Nat) : NxL gX W lv acc xv (wr.drewN k) := ⟨h.G, h.R, below_drewN h.below k, h.hX⟩
theorem NxL.push (h : NxL gX W lv acc xv wr) {z : Int} {xv' : Value} {w6 : World} (ho : OwnIA w6 W.heap.size xv' (acc ++ [z])) (hk : Kept (fun g => xv.ownBlock = some g) wr w6) :
    NxL gX W lv (acc ++ [z]) xv' (w6.setCell ⟨gX, 1, none⟩ xv') := by
  have a3 := hk.blk h.G (own_blk_ne' h.R h.G (by decide))
  have k7 : Kept (fun g => g = gX) w6 (w6.setCell ⟨gX, 1, none⟩ xv') := (Kept.refl (fun g => g = gX) w6).setCell (p := ⟨gX, 1, none⟩) (Or.inl rfl) xv'
  have hb6 : Below W.heap.size W w6 := h.below.trans (hk.to_below h.below.size (fun g hg e => by have := (own_lt' h.R e).2; omega))
  exact ⟨a3.set_ 1 xv', k7.own ho (fun g e1 e2 => by subst e2; exact own_blk_ne' ho a3 (by decide) e1), hb6.trans (k7.to_below hb6.size (fun g hg e => by have := h.hX; omega)), h.hX⟩
end
/-- the tree's box, its nodes, two free rows -/
structure RW (B p : Nat) (c0 c1 nv : Value) (os : List Hd) (ns : List Nd) (rv : Value) (rz : List Int) (kv : Value) (kz : List Int) (w : World) : Prop where
  blk : Blk w p 31 #[c0, c1, nv]
  own : OwnNA w B nv os
  eq : os.map Hd.nd = ns
  rr : OwnIA w B rv rz
  kr : OwnIA w B kv kz
  ra : ∀ x ∈ os, ∀ g, rv.ownBlock = some g → x.val.ownBlock ≠ some g
  ka : ∀ x ∈ os, ∀ g, kv.ownBlock = some g → x.val.ownBlock ≠ some g
  rk : ∀ g, rv.ownBlock = some g → kv.ownBlock ≠ some g
section
variable {B p : Nat} {c0 c1 nv : Value} {os : List Hd} {ns : List Nd} {rv : Value} {rz : List Int} {kv : Value} {kz : List Int} {w w' : World}
theorem RW.ext (h : RW B p c0 c1 nv os ns rv rz kv kz w) (hb : Below w.heap.size w w') : RW B p c0 c1 nv os ns rv rz kv kz w' :=
  ⟨h.blk.below hb h.blk.lt, h.own.ext hb, h.eq, h.rr.ext hb, h.kr.ext hb, h.ra, h.ka, h.rk⟩
theorem RW.dropK (h : RW B p c0 c1 nv os ns rv rz kv kz w) : RW B p c0 c1 nv os ns rv rz (.slice none 0 0) [] w :=
  ⟨h.blk, h.own, h.eq, h.rr, OwnI.nil _ _ _, h.ra, fun x hx g e => by simp [Value.ownBlock] at e, fun g e => by simp [Value.ownBlock]⟩
theorem RW.dropR (h : RW B p c0 c1 nv os ns rv rz kv kz w) : RW B p c0 c1 nv os ns (.slice none 0 0) [] kv kz w :=
  ⟨h.blk, h.own, h.eq, OwnI.nil _ _ _, h.kr, fun x hx g e => by simp [Value.ownBlock] at e, h.ka, fun g e => by simp [Value.ownBlock] at e⟩
theorem RW.swap (h : RW B p c0 c1 nv os ns rv rz kv kz w) : RW B p c0 c1 nv os ns kv kz rv rz w :=
  ⟨h.blk, h.own, h.eq, h.kr, h.rr, h.ka, h.ra, fun g e e2 => h.rk g e2 e⟩
theorem RW.pushK (h : RW B p c0 c1 nv os ns rv rz kv kz w) {z : Int} {kv' : Value} (ho : OwnIA w' B kv' (kz ++ [z])) (hk : Kept (fun g => kv.ownBlock = some g) w w') (hn : kv'.ownBlock = kv.ownBlock ∨ ∃ g, kv'.ownBlock = some g ∧ w.heap.size ≤ g) :
    RW B p c0 c1 nv os ns rv rz kv' (kz ++ [z]) w' := by
  refine ⟨hk.blk h.blk (own_blk_ne' h.kr h.blk (by decide)), OwnN.kept h.own hk (fun g e1 e2 => own_ne h.kr h.own.1 (by decide) e2 e1) (fun y hy g e1 e2 => h.ka y hy g e2 e1), h.eq, hk.own h.rr (fun g e1 e2 => h.rk g e1 e2), ho, h.ra, fun x hx g e1 e2 => ?_, fun g e1 e2 => ?_⟩
  · rcases hn with hn | ⟨g', hg, hs⟩
    · exact h.ka x hx g (by rw [← hn]; exact e1) e2
    · rw [hg] at e1
      injection e1 with e1
      have := (own_lt' (h.own.2 x hx) e2).1
      omega
  · rcases hn with hn | ⟨g', hg, hs⟩
    · exact h.rk g e1 (by rw [← hn]; exact e2)
    · rw [hg] at e2
      injection e2 with e2
      have := (own_lt' h.rr e1).1
      omega
theorem RW.node (h : RW B p c0 c1 nv os ns rv rz kv kz w) {nv' : Value} {x : Hd} (hI : OwnIA w B x.val x.zs) (ho : OwnNA w' B nv' (os ++ [x])) (hk : Kept (fun g => nv.ownBlock = some g) w w')
    (hr : ∀ g, rv.ownBlock = some g → x.val.ownBlock ≠ some g) (hkk : ∀ g, kv.ownBlock = some g → x.val.ownBlock ≠ some g) :
    RW B p c0 c1 nv' (os ++ [x]) (ns ++ [x.nd]) rv rz kv kz (w'.setCell ⟨p, 2, none⟩ nv') := by
  have b1 := hk.blk h.blk (own_blk_ne' h.own.1 h.blk (by decide))
  have r1 := hk.own h.rr (fun g e1 e2 => own_ne h.rr h.own.1 (by decide) e1 e2)
  have k1 := hk.own h.kr (fun g e1 e2 => own_ne h.kr h.own.1 (by decide) e1 e2)
  have k7 : Kept (fun g => g = p) w' (w'.setCell ⟨p, 2, none⟩ nv') := (Kept.refl (fun g => g = p) w').setCell (p := ⟨p, 2, none⟩) (Or.inl rfl) nv'
  refine ⟨b1.set_ 2 nv', OwnN.kept ho k7 (fun g e1 e2 => by subst e2; exact own_blk_ne' ho.1 b1 (by decide) e1) (fun y hy g e1 e2 => by subst e2; exact own_blk_ne' (ho.2 y hy) b1 (by decide) e1), by rw [List.map_append, h.eq]; rfl,
    k7.own r1 (fun g e1 e2 => by subst e2; exact own_blk_ne' r1 b1 (by decide) e1), k7.own k1 (fun g e1 e2 => by subst e2; exact own_blk_ne' k1 b1 (by decide) e1), fun y hy g e1 => ?_, fun y hy g e1 => ?_, h.rk⟩
  · rcases List.mem_append.1 hy with hy | hy
    · exact h.ra y hy g e1
    · rw [List.mem_singleton.1 hy]; exact hr g e1
  · rcases List.mem_append.1 hy with hy | hy
    · exact h.ka y hy g e1
    · rw [List.mem_singleton.1 hy]; exact hkk g e1
end
end Go.Proofs.YtmlhkbgifnifdaaDoor
