/-
  texts BldM BldrM: parts of the proof; conditions stand with each theorem.
-/
import Derived.Test.YtlegfdllipkggaaDoorYG9
import Derived.Test.YtlegfdllipkggaaDoorYWalk
import Derived.Test.YtlegfdllipkggaaDoorYG2
import Derived.DeepKeys5
import Derived.Test.YtlegfdllipkggaaDoorYG14
namespace Go.Proofs.YtlegfdllipkggaaDoor
open Go.RowKit Go.Maps
set_option maxRecDepth 100000
set_option linter.unusedVariables false
set_option linter.unusedSimpArgs false

theorem meas_stepB {n k : Nat} (h : k < n) : n - (intOf (.int .i64 ((k : Int) + 1))).toNat < n - (intOf (.int .i64 (k : Int))).toNat := by
 simp only [intOf]; omega
def key14 (x : Nd) : List UInt8 := UInt8.ofNat x.1.toNat :: tailB x.2
def lv8 (x : Nd) : Prop := 0 ≤ x.1 ∧ x.1 < 256
theorem key14_inj {x y : Nd} (hx : lv8 x) (hy : lv8 y) (h : key14 x = key14 y) : x = y := by
 unfold key14 at h; injection h with h1 h2
 have h3 := congrArg UInt8.toNat h1; rw [UInt8.toNat_ofNat', UInt8.toNat_ofNat'] at h3; unfold lv8 at hx hy; exact Prod.ext (by omega) (tail_inj _ _ h2)
theorem key14_snoc (lv : Int) (zs : List Int) (z : Int) : key14 (lv, zs ++ [z]) = key14 (lv, zs) ++ [32] ++ Lib.itoa z := by
 unfold key14; simp only [tail_snoc, List.cons_append, List.append_assoc]; rfl
theorem key14_len {x : Nd} (h : ∀ z ∈ x.2, -9223372036854775808 ≤ z ∧ z ≤ 9223372036854775807) : (key14 x).length ≤ 1 + 22 * x.2.length := by
 unfold key14; have := tail_len x.2 h; rw [List.length_cons]; omega
def KnownI (D : DataW Unit) (ns : List Nd) : Prop := IsMap D ∧ ∀ x : Nd, lv8 x → Maps.has D (.string (key14 x)) = (posOf ns x).isSome ∧ ∀ i, posOf ns x = some i → D.atKey (.string (key14 x)) (.lit (.int .i64 0)) = .lit (.int .i64 i)
theorem KnownI.nil : KnownI (.map []) [] := ⟨isMap_empty, fun x _ => ⟨rfl, fun i h => by cases h⟩⟩
theorem KnownI.push {D : DataW Unit} {ns : List Nd} (h : KnownI D ns) {x : Nd} (h8 : lv8 x) (hx : posOf ns x = none) : KnownI (D.put (.string (key14 x)) (.lit (.int .i64 ns.length))) (ns ++ [x]) := by
 have hk : WideAt.IsKeyLit (.string (key14 x)) := trivial; refine ⟨h.1.put _ _, fun y hy => ?_⟩; rw [posOf_snoc]; by_cases e : x = y
 ·subst e; rw [hx, if_pos rfl]; refine ⟨has_put_same h.1 hk _, fun i hi => ?_⟩; simp at hi; subst hi; exact atKey_put_same h.1 hk _ _
 ·have hne : (Lit.string (key14 y)) ≠ .string (key14 x) := by
   intro he; injection he with he
   exact e (key14_inj hy h8 he).symm
  rw [if_neg e, Option.or_none, has_put_other hne]; refine ⟨(h.2 y hy).1, fun i hi => ?_⟩; rw [atKey_put_other hne]; exact (h.2 y hy).2 i hi
structure PlK (S : Type) where
 tP : TypeId
 tM : TypeId
 cells : Nat → S → Array Value
 key : Nat → S → List UInt8
 ok : Nat → S → Prop
 law : Keyed Tryd.prog tP
 und : Tryd.prog.underlying tM = some (.map tP 3)
 keyOf_ : ∀ a s, ok a s → keyOf Tryd.prog tP (.agg (cells a s)) = some (.string (key a s))
 inj : ∀ a s a' s', ok a s → ok a' s' → cells a s = cells a' s' → a = a' ∧ s = s'
section
variable {S : Type} [DecidableEq S]
def KnownK (P : PlK S) (D : DataW Unit) (m : List ((Nat × S) × Nat)) : Prop := IsMap D ∧ ∀ a s, P.ok a s → Maps.has D (.string (P.key a s)) = (lookS m (a, s)).isSome ∧ ∀ i, lookS m (a, s) = some i → D.atKey (.string (P.key a s)) (.lit (.int .i64 0)) = .lit (.int .i64 i)
theorem KnownK.nil (P : PlK S) : KnownK P (.map []) [] := ⟨isMap_empty, fun a s _ => ⟨rfl, fun i h => by cases h⟩⟩
theorem KnownK.push {P : PlK S} {D : DataW Unit} {m : List ((Nat × S) × Nat)} (h : KnownK P D m) {a : Nat} {s : S} (ho : P.ok a s) (hx : lookS m (a, s) = none) (k : Nat) : KnownK P (D.put (.string (P.key a s)) (.lit (.int .i64 k))) (m ++ [((a, s), k)]) := by
 have hk : WideAt.IsKeyLit (.string (P.key a s)) := trivial; refine ⟨h.1.put _ _, fun a' s' ho' => ?_⟩; rw [lookS_snoc]; by_cases e : (a, s) = (a', s')
 ·injection e with e1 e2
  subst e1 e2; rw [hx, if_pos rfl]; refine ⟨has_put_same h.1 hk _, fun i hi => ?_⟩; simp at hi; subst hi; exact atKey_put_same h.1 hk _ _
 ·have hne : (Lit.string (P.key a' s')) ≠ .string (P.key a s) := by
   intro he; have h1 := P.keyOf_ a s ho; have h2 := P.keyOf_ a' s' ho'; rw [he] at h2; have h3 := P.law.inj h1 h2; injection h3 with h3
   obtain ⟨e1, e2⟩ := P.inj _ _ _ _ ho ho' h3; exact e (by rw [e1, e2])
  rw [if_neg e, Option.or_none, has_put_other hne]; refine ⟨(h.2 a' s' ho').1, fun i hi => ?_⟩; rw [atKey_put_other hne]; exact (h.2 a' s' ho').2 i hi
end
theorem Kept.overB {S T : Nat → Prop} {W wr w : World} (h1 : Kept S W wr) (h2 : Kept T wr w) (ht : ∀ g, T g → W.heap.size ≤ g) : Kept S W w :=
 ⟨h1.below.trans h2.below, fun g hg hs => (h2.block g (Nat.lt_of_lt_of_le hg h1.below.size) (fun t => by have := ht g t; omega)).trans (h1.block g hg hs)⟩
structure BC where
 B : Nat
 pT : Nat
 pL : Nat
 pE : Nat
 pS : Nat
 pQ : Nat
 pV : Nat
 pF : Nat
 pI : Nat
 MS : Nat
 MI : Nat
 st : Int
 hA : Option Addr
 hn : Nat
 hc : Nat
 tE : TypeId
 tF : TypeId
 tV : TypeId
 vE : Value
 vF : Value
 vV : Value
structure BC0 (tM : TypeId) (C : BC) (w1 : World) : Prop where
 bL : Blk w1 C.pL 22 #[.slice C.hA C.hn C.hc]
 bE : Blk w1 C.pE C.tE #[C.vE]
 bS : Blk w1 C.pS tM #[.map (some C.MS)]
 bQ : Blk w1 C.pQ 3 #[.int .i64 C.st]
 bV : Blk w1 C.pV C.tV #[C.vV]
 bF : Blk w1 C.pF C.tF #[C.vF]
 bI : Blk w1 C.pI 85 #[.map (some C.MI)]
 lt : C.pT < w1.heap.size ∧ C.MS < w1.heap.size ∧ C.MI < w1.heap.size
 dst : ∀ g, g = C.pL ∨ g = C.pE ∨ g = C.pS ∨ g = C.pQ ∨ g = C.pV ∨ g = C.pF ∨ g = C.pI → ¬ (g = C.pT ∨ g = C.MS ∨ g = C.MI)
 ne : C.MS ≠ C.MI ∧ C.pT ≠ C.MS ∧ C.pT ≠ C.MI
 lo : C.B ≤ C.pT ∧ C.B ≤ C.MS ∧ C.B ≤ C.MI
def BT (C : BC) (ov : Value) : Nat → Prop := fun g => g = C.pT ∨ g = C.MS ∨ g = C.MI ∨ ov.ownBlock = some g
section
variable {S : Type} [DecidableEq S]
structure BW (P : PlK S) (C : BC) (w1 : World) (ov : Value) (os : List Hd) (DS DI : DataW Unit) (b : BS S) (w : World) : Prop where
 k0 : BC0 P.tM C w1
 kp : Kept (fun g => g = C.pT ∨ g = C.MS ∨ g = C.MI) w1 w
 bT : Blk w C.pT 25 #[.int .i64 C.st, .slice C.hA C.hn C.hc, ov]
 out : OwnNA w C.B ov os
 eq : os.map Hd.nd = b.2
 mS : w.ownsMap Tryd.prog P.tP (plainElem Tryd.prog 3) C.MS b.1.length DS
 mI : MapA w C.MI os.length DI
 kS : KnownK P DS b.1
 kI : KnownI DI b.2
 nvB : ∀ g, ov.ownBlock = some g → w1.heap.size ≤ g
structure BV (P : PlK S) (C : BC) (w1 : World) (ov : Value) (os : List Hd) (b2 : BS S) (W : World) (ov2 : Value) (os2 : List Hd) (DS2 DI2 : DataW Unit) (w : World) : Prop where
 wk : BW P C w1 ov2 os2 DS2 DI2 b2 w
 kp : Kept (BT C ov) W w
 mv : Moved ov ov2 W
 new : NewIn os os2 W
variable {P : PlK S} {C : BC} {w1 : World} {ov ov1 ov2 : Value} {os os1 os2 : List Hd} {DS DI DS1 DI1 DS2 DI2 : DataW Unit} {b b1 b2 : BS S} {w w' W wr : World}
theorem BW.cst (h : BW P C w1 ov os DS DI b w) {g : Nat} (hg : g = C.pL ∨ g = C.pE ∨ g = C.pS ∨ g = C.pQ ∨ g = C.pV ∨ g = C.pF ∨ g = C.pI) {T : TypeId} {cs : Array Value} (hb : Blk w1 g T cs) : Blk w g T cs := h.kp.blk hb (h.k0.dst g hg)
theorem BW.cells (h : BW P C w1 ov os DS DI b w) : w.cell? ⟨C.pL, 0, none⟩ = some (.slice C.hA C.hn C.hc) ∧ w.cell? ⟨C.pE, 0, none⟩ = some C.vE ∧ w.cell? ⟨C.pS, 0, none⟩ = some (.map (some C.MS)) ∧ w.cell? ⟨C.pQ, 0, none⟩ = some (.int .i64 C.st) ∧
  w.cell? ⟨C.pV, 0, none⟩ = some C.vV ∧ w.cell? ⟨C.pF, 0, none⟩ = some C.vF ∧ w.cell? ⟨C.pI, 0, none⟩ = some (.map (some C.MI)) ∧ w.cell? ⟨C.pT, 2, none⟩ = some ov :=
 ⟨(h.cst (.inl rfl) h.k0.bL).cell_ 0 _ rfl, (h.cst (.inr (.inl rfl)) h.k0.bE).cell_ 0 _ rfl, (h.cst (.inr (.inr (.inl rfl))) h.k0.bS).cell_ 0 _ rfl, (h.cst (.inr (.inr (.inr (.inl rfl)))) h.k0.bQ).cell_ 0 _ rfl,
  (h.cst (.inr (.inr (.inr (.inr (.inl rfl))))) h.k0.bV).cell_ 0 _ rfl, (h.cst (.inr (.inr (.inr (.inr (.inr (.inl rfl)))))) h.k0.bF).cell_ 0 _ rfl, (h.cst (.inr (.inr (.inr (.inr (.inr (.inr rfl)))))) h.k0.bI).cell_ 0 _ rfl, h.bT.cell_ 2 _ rfl⟩
theorem BW.apart (h : BW P C w1 ov os DS DI b w) {g : Nat} (hg : g = C.pL ∨ g = C.pE ∨ g = C.pS ∨ g = C.pQ ∨ g = C.pV ∨ g = C.pF ∨ g = C.pI) (hl : g < w1.heap.size) : ¬ BT C ov g := by
 have h1 := h.k0.dst g hg; rintro (e | e | e | e)
 ·exact h1 (.inl e)
 ·exact h1 (.inr (.inl e))
 ·exact h1 (.inr (.inr e))
 ·have := h.nvB g e; omega
theorem BW.idsCell (h : BW P C w1 ov os DS DI b w) (hk : Kept (BT C ov) w w') : w'.cell? ⟨C.pI, 0, none⟩ = some (.map (some C.MI)) :=
 (hk.blk (h.cst (.inr (.inr (.inr (.inr (.inr (.inr rfl)))))) h.k0.bI) (h.apart (.inr (.inr (.inr (.inr (.inr (.inr rfl)))))) h.k0.bI.lt)).cell_ 0 _ rfl
theorem BW.kept (h : BW P C w1 ov os DS DI b w) {T : Nat → Prop} (hk : Kept T w w') (h1 : ∀ g, T g → w1.heap.size ≤ g) (h3 : ∀ g, ov.ownBlock = some g → ¬ T g) (h4 : ∀ x ∈ os, ∀ g, x.val.ownBlock = some g → ¬ T g) : BW P C w1 ov os DS DI b w' := by
 have n1 : ¬ T C.pT := fun e => by have := h1 _ e; have := h.k0.lt.1; omega
 have n2 : ¬ T C.MS := fun e => by have := h1 _ e; have := h.k0.lt.2.1; omega
 have n3 : ¬ T C.MI := fun e => by have := h1 _ e; have := h.k0.lt.2.2; omega
 exact ⟨h.k0, h.kp.overB hk h1, hk.blk h.bT n1, h.out.kept hk h3 h4, h.eq, hk.map h.mS n2, hk.map h.mI n3, h.kS, h.kI, h.nvB⟩
theorem BW.ext (h : BW P C w1 ov os DS DI b w) (hb : Below w.heap.size w w') : BW P C w1 ov os DS DI b w' :=
 h.kept (T := fun g => w.heap.size ≤ g) (Kept.of_below hb) (fun g hg => Nat.le_trans h.kp.below.size hg) (fun g e h2 => by have := (own_lt' h.out.1 e).1; omega) (fun x hx g e h2 => by have := (own_lt' (h.out.2 x hx) e).1; omega)
theorem BW.below (h : BW P C w1 ov os DS DI b W) (hk : Kept (BT C ov) W w) : Below C.B W w := by
 have hlo := h.k0.lo; have hlt := h.k0.lt; have hsz := h.kp.below.size; refine hk.to_below (by omega) fun g hg e => ?_; rcases e with e | e | e | e
 ·omega
 ·omega
 ·omega
 ·have := (own_lt' h.out.1 e).2; omega
theorem Kept.bT (h1 : Kept (BT C ov) W wr) (hm : Moved ov ov1 W) (h2 : Kept (BT C ov1) wr w) : Kept (BT C ov) W w := by
 refine ⟨h1.below.trans h2.below, fun g hg hs => ?_⟩; refine (h2.block g (Nat.lt_of_lt_of_le hg h1.below.size) ?_).trans (h1.block g hg hs); rintro (e | e | e | e)
 ·exact hs (.inl e)
 ·exact hs (.inr (.inl e))
 ·exact hs (.inr (.inr (.inl e)))
 ·rcases hm with hm | ⟨g', hm, hg'⟩
  ·exact hs (.inr (.inr (.inr (by rw [← hm]; exact e))))
  ·rw [hm] at e; injection e with e
   omega
theorem Moved.downB {u v : Value} {w w' : World} (h : Moved u v w') (hs : w.heap.size ≤ w'.heap.size) : Moved u v w := by
 rcases h with h | ⟨g, h1, h2⟩
 ·exact .inl h
 ·exact .inr ⟨g, h1, Nat.le_trans hs h2⟩
theorem NewIn.downB {a c : List Hd} {w w' : World} (h : NewIn a c w') (hs : w.heap.size ≤ w'.heap.size) : NewIn a c w := fun x hx => by
 rcases h x hx with h1 | ⟨g, e, hg⟩
 ·exact .inl h1
 ·exact .inr ⟨g, e, Nat.le_trans hs hg⟩
theorem BV.pre {W1 : World} (h : BV P C w1 ov os b2 W1 ov2 os2 DS2 DI2 w) (hb : Below W.heap.size W W1) : BV P C w1 ov os b2 W ov2 os2 DS2 DI2 w :=
 ⟨h.wk, (Kept.of_new _ hb).trans h.kp, h.mv.downB hb.size, h.new.downB hb.size⟩
theorem BV.same (h : BW P C w1 ov os DS DI b W) (hb : Below W.heap.size W w) : BV P C w1 ov os b W ov os DS DI w := ⟨h.ext hb, Kept.of_new _ hb, .inl rfl, fun x hx => .inl hx⟩
theorem BW.see (h : BW P C w1 ov os DS DI b w) {a : Nat} {s : S} (ho : P.ok a s) (hn : lookS b.1 (a, s) = none) (k : Nat) (hM : w'.ownsMap Tryd.prog P.tP (plainElem Tryd.prog 3) C.MS (b.1.length + 1) (DS.put (.string (P.key a s)) (.lit (.int .i64 k)))) (hg : w.grownBy w' (some C.MS)) :
  BW P C w1 ov os (DS.put (.string (P.key a s)) (.lit (.int .i64 k))) DI (b.1 ++ [((a, s), k)], b.2) w' ∧ Kept (BT C ov) w w' := by
 have hk : Kept (fun g => g = C.MS) w w' := (Kept.refl _ w).grown hg fun g e => by injection e with e; exact .inl e.symm
 have h9 := h.k0.ne; have e1 : ov.ownBlock ≠ some C.MS := own_map_ne h.out.1 h.mS; refine ⟨⟨h.k0, h.kp.trans (hk.mono fun g _ e => .inr (.inl e)), hk.blk h.bT h9.2.1, h.out.kept hk (fun g e e2 => by subst e2; exact e1 e) (fun x hx g e e2 => by subst e2; exact own_map_ne (h.out.2 x hx) h.mS e), h.eq, by rw [List.length_append]; exact hM, hk.map h.mI (fun e => h9.1 e.symm), h.kS.push ho hn k, h.kI, h.nvB⟩, hk.mono fun g _ e => .inr (.inl e)⟩
theorem BW.row (h : BW P C w1 ov os DS DI b w) {x : Hd} {v6 : Value} {w6 : World} (hN : OwnNA w6 C.B v6 (os ++ [x])) (hk : Kept (fun g => ov.ownBlock = some g) w w6) (hm : Moved ov v6 w) :
  Kept (BT C ov) w (w6.setCell ⟨C.pT, 2, none⟩ v6) ∧ MapA (w6.setCell ⟨C.pT, 2, none⟩ v6) C.MI os.length DI ∧ w6.cell? ⟨C.pT, 2, none⟩ = some ov ∧ w6.frozen? ⟨C.pT, 2, none⟩ = false := by
 have b6 := hk.blk h.bT (own_blk_ne' h.out.1 h.bT (by decide)); refine ⟨Kept.setCell (p := ⟨C.pT, 2, none⟩) (hk.mono fun g _ e => .inr (.inr (.inr e))) (.inl (.inl rfl)) v6, ?_, b6.cell_ 2 _ rfl, b6.frozen 2⟩; exact ((Kept.refl (fun g => g = C.pT) w6).setCell (p := ⟨C.pT, 2, none⟩) (Or.inl rfl) v6).map (hk.map h.mI (fun e => own_map_ne h.out.1 h.mI e)) (fun e => h.k0.ne.2.2 e.symm)
theorem BW.node (h : BW P C w1 ov os DS DI b w) {x : Hd} (h8 : lv8 x.nd) (hp : posOf b.2 x.nd = none) {v6 : Value} {w6 : World} (hN : OwnNA w6 C.B v6 (os ++ [x])) (hk : Kept (fun g => ov.ownBlock = some g) w w6) (hm : Moved ov v6 w) {w8 : World}
  (hM : MapA w8 C.MI (os.length + 1) (DI.put (.string (key14 x.nd)) (.lit (.int .i64 os.length)))) (hg : (w6.setCell ⟨C.pT, 2, none⟩ v6).grownBy w8 (some C.MI)) (hx : ∀ g, x.val.ownBlock = some g → w.heap.size ≤ g ∨ True) :
  BW P C w1 v6 (os ++ [x]) DS (DI.put (.string (key14 x.nd)) (.lit (.int .i64 os.length))) (b.1, b.2 ++ [x.nd]) w8 ∧ Kept (BT C ov) w w8 := by
 have h9 := h.k0.ne; have hlt := h.k0.lt; have hsz := h.kp.below.size; have b6 := hk.blk h.bT (own_blk_ne' h.out.1 h.bT (by decide)); have k7 : Kept (fun g => g = C.pT) w6 (w6.setCell ⟨C.pT, 2, none⟩ v6) := (Kept.refl (fun g => g = C.pT) w6).setCell (p := ⟨C.pT, 2, none⟩) (Or.inl rfl) v6; have k8 : Kept (fun g => g = C.MI) (w6.setCell ⟨C.pT, 2, none⟩ v6) w8 := (Kept.refl _ _).grown hg fun g e => by injection e with e; exact .inl e.symm
 have mS6 := hk.map h.mS (fun e => own_map_ne h.out.1 h.mS e); have mI6 := hk.map h.mI (fun e => own_map_ne h.out.1 h.mI e); have N7 : OwnNA (w6.setCell ⟨C.pT, 2, none⟩ v6) C.B v6 (os ++ [x]) := OwnN.kept hN k7 (fun g e1 e2 => by subst e2; exact own_blk_ne' hN.1 b6 (by decide) e1) (fun y hy g e1 e2 => by subst e2; exact own_blk_ne' (hN.2 y hy) b6 (by decide) e1); have mI7 := k7.map mI6 (fun e => h9.2.2 e.symm); have K8 : Kept (BT C ov) w w8 := (Kept.setCell (p := ⟨C.pT, 2, none⟩) (hk.mono fun g _ e => .inr (.inr (.inr e))) (.inl (.inl rfl)) v6).trans (k8.mono fun g _ e => .inr (.inr (.inl e))); have hmv : ∀ g, v6.ownBlock = some g → w1.heap.size ≤ g := fun g e => by
  rcases hm with hm | ⟨g', hm, hg'⟩
  ·exact h.nvB g (by rw [← hm]; exact e)
  ·rw [hm] at e; injection e with e
   omega
 refine ⟨⟨h.k0, ?_, k8.blk (b6.set_ 2 v6) h9.2.2, OwnN.kept N7 k8 (fun g e1 e2 => by subst e2; exact own_map_ne N7.1 mI7 e1) (fun y hy g e1 e2 => by subst e2; exact own_map_ne (N7.2 y hy) mI7 e1), by rw [List.map_append, h.eq]; rfl, k8.map (k7.map mS6 (fun e => h9.2.1 e.symm)) (fun e => h9.1 e), by rw [List.length_append]; exact hM, h.kS, ?_, hmv⟩, K8⟩
 ·refine (h.kp.overB hk h.nvB).trans ?_; exact (k7.mono fun g _ e => .inl e).trans (k8.mono fun g _ e => .inr (.inr e))
 ·have := h.kI.push h8 hp; rwa [show b.2.length = os.length by rw [← h.eq, List.length_map]] at this
end
def U8 (w : World) (g : Nat) : Prop := ∃ c fz, w.heap[g]? = some (.cells c 5 fz)
section
variable {w w' : World}
theorem u8_own {base e n m : Nat} {u : Value} {xs : List Value} (h : w.ownsRow base e n u m xs) (he : e ≠ 5) : ∀ g, u.ownBlock = some g → ¬ U8 w g := fun g hg ⟨c, fz, hc⟩ => by
 rcases h.2 with ⟨rfl, _⟩ | ⟨g', cap, cur, rfl, -, h5, -⟩
 ·simp [Value.ownBlock] at hg
 ·simp [Value.ownBlock] at hg; subst hg; rw [h5] at hc; injection hc with hc
  injection hc with _ hc
  exact he hc
theorem u8_blk {g : Nat} {T : TypeId} {cs : Array Value} (h : Blk w g T cs) (hT : T ≠ 5) : ¬ U8 w g := fun ⟨c, fz, hc⟩ => by
 unfold Blk at h; rw [h] at hc; injection hc with hc
 injection hc with _ hc
 exact hT hc
theorem u8_map {P : Program} {k : TypeId} {R : Value → Option (DataW Unit × List MemPlace)} {b n : Nat} {D : DataW Unit} (h : w.ownsMap P k R b n D) : ¬ U8 w b := fun ⟨c, fz, hc⟩ => by
 obtain ⟨es, clock, hb, -⟩ := h; rw [hb] at hc; cases hc
theorem kept_u8 {B : Nat} (hb : Below B w w') (ho : Lib.OthersKept 5 none w w') : Kept (U8 w) w w' := by
 refine ⟨⟨hb.os, hb.tape, hb.output, hb.size, fun k hk => absurd hk (by omega)⟩, fun g hg hs => ?_⟩; obtain ⟨o, ho'⟩ : ∃ o, w.heap[g]? = some o := ⟨w.heap[g], Array.getElem?_eq_getElem hg⟩
 rw [ho']; exact ho g o ho' (by simp) (fun c fz e => hs ⟨c, fz, by rw [ho', e]⟩)
theorem own_u8 {B : Nat} {v : Value} {l : List UInt8} (h : OwnB w B v l) {g : Nat} (hg : v.ownBlock = some g) : U8 w g := by
 rcases h.2 with ⟨rfl, _⟩ | ⟨g', cap, cur, rfl, -, h5, -⟩
 ·simp [Value.ownBlock] at hg
 ·simp [Value.ownBlock] at hg; subst hg; exact ⟨cur, _, h5⟩
theorem U8.back {w : World} (hk : ∀ g, g < w.heap.size → ¬ U8 w g → w'.heap[g]? = w.heap[g]?) {g : Nat} (hg : g < w.heap.size) (h : U8 w' g) : U8 w g := by
 by_cases h1 : U8 w g
 ·exact h1
 ·obtain ⟨c, fz, e⟩ := h; exact ⟨c, fz, by rw [← hk g hg h1]; exact e⟩
theorem Kept.u8 {w'' : World} (h : Kept (U8 w) w w') (k : Kept (U8 w') w' w'') : Kept (U8 w) w w'' :=
 ⟨h.below.trans k.below, fun g hg hs => (k.block g (Nat.lt_of_lt_of_le hg h.below.size) (fun e => hs (U8.back h.block hg e))).trans (h.block g hg hs)⟩
end
theorem wpList_pushBk {wr : World} {ops : Array Oper} {rest : List Oper} {o : Oper} {a : Act} {Q : Exit → Act → World → Prop} (hgd : o.guard = none) (s x : Operand)
  (ho : o.op = .call { callee := .builtin .append, args := #[s, x], argTypes := #[102, 102] })
  (base : Nat) (v : Value) (l : List UInt8) (hs : a.eval s = v) (hown : OwnB wr base v l)
  (c : UInt8) (z : Int) (hz : z = (c.toNat : Int)) (hx : a.eval x = .slice (some ⟨wr.heap.size, 0, none⟩) 1 1)
  (hn : l.length < 1000000000000) (hbase : base ≤ wr.heap.size)
  (h : ∀ v' w', OwnB w' base v' (l ++ [c]) → Kept (U8 wr) wr w' → Below base wr w' → wpList Tryd.prog ops Q rest (a.put o.dst v') w') :
  wpList Tryd.prog ops Q (o :: rest) a (wr.alloc (.cells #[.int .u8 z] 5)) := by
 subst hz; obtain ⟨i0, hi0, hz0, hz1, hz2⟩ := info_parts Tryd.infoByte; refine wpList_append_own_at _ hgd s x _ ho base 5 i0 _ 1 1 Tryd.underlying102 hi0 hz0 hz1 hz2 rfl (by decide) v l.length (Lib.byteCells l) hs (World.ownsRow.alloc hown _) ⟨wr.heap.size, 0, none⟩ 1 1 [.int .u8 c.toNat] hx rfl ?_ (by simp [Value.oneCell']) (by unfold maxLen; omega) (by omega) (by simp; omega) ?_
 ·intro j u hu; rw [addr_add]; have : (wr.alloc (.cells #[.int .u8 c.toNat] 5)).cell? ⟨wr.heap.size, 0 + j, none⟩ = (#[.int .u8 c.toNat] : Array Value)[0 + j]? := cell_of_row _ _ _ _ _ _ (heap_alloc_new wr _); rw [this]; simpa using hu
 ·intro v' w' hown' hg _ _; refine h v' w' (by unfold OwnB Lib.byteCells; rw [List.length_append, List.map_append]; exact hown') ?_ ?_
  ·exact ((Kept.refl _ wr).alloc _).grown hg fun g hg => Or.inl (own_u8 hown hg)
  ·exact (((Kept.refl (fun g => v.ownBlock = some g) wr).alloc _).grown hg fun g hg => Or.inl hg).to_below hbase fun g hg e => by have := (own_lt' hown e).2; omega
theorem appIntK (B : Nat) (l : List UInt8) (i : Int) (v : Value) (w : World) (ho : OwnB w B v l) (hB : B ≤ w.heap.size) (hl : l.length ≤ 1000000) (h0 : -9223372036854775808 ≤ i) (h1 : i ≤ 9223372036854775807) (ht : TabB B w) :
  Calls Tryd.prog 71 #[v, .int .i64 i, .int .i64 10] w fun e w' => ∃ v', e = .returned v' ∧ OwnB w' B v' (l ++ Lib.itoa i) ∧ Kept (U8 w) w w' ∧ Below B w w' := by
 refine (Tryd.strconv_AppendInt_10 B l.length i h0 h1 v (Lib.byteCells l) w ho hB (by omega) ht).mono ?_; rintro e w' ⟨v', rfl, h, hb, hk⟩; refine ⟨v', rfl, ?_, kept_u8 hb hk, hb⟩; unfold OwnB; rw [List.length_append, show Lib.byteCells (l ++ Lib.itoa i) = Lib.byteCells l ++ Lib.byteCells (Lib.itoa i) by simp [Lib.byteCells]]; exact h
section
variable {S : Type} [DecidableEq S]
structure BdL (P : PlK S) (C : BC) (w1 W : World) (ov : Value) (os : List Hd) (lv : Int) (gP gX : Nat) (pc : Array Value) (acc : List Int) (ka : List UInt8) (ov1 : Value) (os1 : List Hd) (DS1 DI1 : DataW Unit) (b1 : BS S) (xv kv : Value) (wr : World) : Prop where
 wk : BW P C w1 ov1 os1 DS1 DI1 b1 wr
 kp : Kept (BT C ov) W wr
 mv : Moved ov ov1 W
 new : NewIn os os1 W
 Pl : Blk wr gP P.tP pc
 G : Blk wr gX 50 #[.int .i64 lv, xv]
 R : OwnIA wr W.heap.size xv acc
 K : OwnB wr W.heap.size kv ka
 ne : ∀ x ∈ os1, ∀ g, x.val.ownBlock = some g → xv.ownBlock ≠ some g
 hP : W.heap.size ≤ gP
 hX : W.heap.size ≤ gX
 neX : ov1.ownBlock ≠ some gX
 hW : w1.heap.size ≤ W.heap.size
 ty : P.tP ≠ 3 ∧ P.tP ≠ 50 ∧ P.tP ≠ 5 ∧ P.tP ≠ 25
variable {P : PlK S} {C : BC} {w1 W : World} {ov : Value} {os : List Hd} {lv : Int} {gP gX : Nat} {pc : Array Value} {acc : List Int} {ka : List UInt8} {ov1 : Value} {os1 : List Hd} {DS DI DS1 DI1 : DataW Unit} {b b1 : BS S} {xv kv : Value} {wr w : World}
theorem BdL.ext (h : BdL P C w1 W ov os lv gP gX pc acc ka ov1 os1 DS1 DI1 b1 xv kv wr) (hb : Below wr.heap.size wr w) : BdL P C w1 W ov os lv gP gX pc acc ka ov1 os1 DS1 DI1 b1 xv kv w :=
 ⟨h.wk.ext hb, h.kp.trans (Kept.of_new _ hb), h.mv, h.new, h.Pl.below hb h.Pl.lt, h.G.below hb h.G.lt, h.R.ext hb, h.K.ext hb, h.ne, h.hP, h.hX, h.neX, h.hW, h.ty⟩
theorem BdL.start (hW : BW P C w1 ov os DS DI b W) {w3 : World} (hb : Below W.heap.size W w3) (hP : Blk w3 gP P.tP pc) (hG : Blk w3 gX 50 #[.int .i64 lv, .slice none 0 0]) (hK : OwnB w3 W.heap.size kv ka) (h1 : W.heap.size ≤ gP) (h2 : W.heap.size ≤ gX) (ty : P.tP ≠ 3 ∧ P.tP ≠ 50 ∧ P.tP ≠ 5 ∧ P.tP ≠ 25) :
  BdL P C w1 W ov os lv gP gX pc [] ka ov os DS DI b (.slice none 0 0) kv w3 :=
 ⟨hW.ext hb, Kept.of_new _ hb, .inl rfl, fun x hx => .inl hx, hP, hG, OwnI.nil _ _ _, hK, fun x hx g e => by simp [Value.ownBlock], h1, h2, fun he => by have := (own_lt' hW.out.1 he).1; omega, hW.kp.below.size, ty⟩
theorem BdL.far (h : BdL P C w1 W ov os lv gP gX pc acc ka ov1 os1 DS1 DI1 b1 xv kv wr) : (∀ g, xv.ownBlock = some g → ¬ BT C ov1 g) ∧ (∀ g, kv.ownBlock = some g → ¬ BT C ov1 g) ∧ ¬ BT C ov1 gX ∧ ¬ BT C ov1 gP := by
 have hlt := h.wk.k0.lt; have hW := h.hW; have hP := h.hP; have hX := h.hX; have row : ∀ {e : TypeId} {n m : Nat} {u : Value} {xs : List Value}, wr.ownsRow W.heap.size e n u m xs → e ≠ 50 → ∀ g, u.ownBlock = some g → ¬ BT C ov1 g := fun hr he g e => by
  have := (own_lt' hr e).2; rintro (e2 | e2 | e2 | e2)
  ·omega
  ·omega
  ·omega
  ·exact own_ne hr h.wk.out.1 he e e2
 refine ⟨row h.R (by decide), row h.K (by decide), ?_, ?_⟩
 ·rintro (e | e | e | e)
  ·omega
  ·omega
  ·omega
  ·exact h.neX e
 ·rintro (e | e | e | e)
  ·omega
  ·omega
  ·omega
  ·exact own_blk_ne' h.wk.out.1 h.Pl (fun e => h.ty.2.1 e.symm) e
theorem BdL.call (h : BdL P C w1 W ov os lv gP gX pc acc ka ov1 os1 DS1 DI1 b1 xv kv wr) {b2 : BS S} {ov2 : Value} {os2 : List Hd} {DS2 DI2 : DataW Unit} {w5 : World} (hc : BV P C w1 ov1 os1 b2 wr ov2 os2 DS2 DI2 w5) :
  BdL P C w1 W ov os lv gP gX pc acc ka ov2 os2 DS2 DI2 b2 xv kv w5 := by
 obtain ⟨f1, f2, f3, f4⟩ := h.far; refine ⟨hc.wk, h.kp.bT h.mv hc.kp, h.mv.trans hc.mv h.kp.below.size, h.new.trans hc.new h.kp.below.size, hc.kp.blk h.Pl f4, hc.kp.blk h.G f3, hc.kp.own h.R f1, hc.kp.own h.K f2, fun x hx g e => ?_, h.hP, h.hX, ?_, h.hW, h.ty⟩
 ·rcases hc.new x hx with hx | ⟨g', e', hg⟩
  ·exact h.ne x hx g e
  ·rw [e'] at e; injection e with e
   intro e2; have := (own_lt' h.R e2).1; omega
 ·rcases hc.mv with e | ⟨g, e, hg⟩
  ·rw [e]; exact h.neX
  ·rw [e]; intro e; injection e with e
   have := h.G.lt; omega
theorem BdL.push (h : BdL P C w1 W ov os lv gP gX pc acc ka ov1 os1 DS1 DI1 b1 xv kv wr) {z : Int} {xv' : Value} {w6 : World} (ho : OwnIA w6 W.heap.size xv' (acc ++ [z])) (hk : Kept (fun g => xv.ownBlock = some g) wr w6) (hm : Moved xv xv' wr) :
  BdL P C w1 W ov os lv gP gX pc (acc ++ [z]) ka ov1 os1 DS1 DI1 b1 xv' kv (w6.setCell ⟨gX, 1, none⟩ xv') := by
 have hWs := h.hW; have hXs := h.hX; have k7 : Kept (fun g => g = gX) w6 (w6.setCell ⟨gX, 1, none⟩ xv') := (Kept.refl (fun g => g = gX) w6).setCell (p := ⟨gX, 1, none⟩) (Or.inl rfl) xv'; have a3 := hk.blk h.G (own_blk_ne' h.R h.G (by decide)); have a4 := hk.blk h.Pl (own_blk_ne' h.R h.Pl (fun e => h.ty.1 e.symm)); have a5 : OwnB w6 W.heap.size kv ka := hk.own h.K (fun g e1 e2 => own_ne h.R h.K (by decide) e2 e1); have w6k := h.wk.kept hk (fun g e => by have := (own_lt' h.R e).2; omega) (fun g e1 e2 => own_ne h.R h.wk.out.1 (by decide) e2 e1) (fun x hx g e1 e2 => h.ne x hx g e1 e2); refine ⟨w6k.kept k7 (fun g e => by subst e; omega) (fun g e1 e2 => by subst e2; exact h.neX e1) (fun x hx g e1 e2 => by subst e2; exact own_blk_ne' (w6k.out.2 x hx) a3 (by decide) e1),
  (h.kp.overB hk (fun g e => (own_lt' h.R e).2)).overB k7 (fun g e => by rw [e]; exact h.hX), h.mv, h.new, a4.far (p := ⟨gX, 1, none⟩) (Blk.ne_ a4 a3 h.ty.2.1) xv', a3.set_ 1 xv', k7.own ho (fun g e1 e2 => by subst e2; exact own_blk_ne' ho a3 (by decide) e1), k7.own a5 (fun g e1 e2 => by subst e2; exact own_blk_ne' a5 a3 (by decide) e1), fun x hx g e1 e2 => ?_, h.hP, h.hX, h.neX, h.hW, h.ty⟩
 rcases hm with hm | ⟨g', hm, hg⟩
 ·rw [hm] at e2; exact h.ne x hx g e1 e2
 ·rw [hm] at e2; injection e2 with e2
  have := (own_lt' (h.wk.out.2 x hx) e1).1; omega
theorem BdL.key (h : BdL P C w1 W ov os lv gP gX pc acc ka ov1 os1 DS1 DI1 b1 xv kv wr) {kv' : Value} {ka' : List UInt8} (ho : OwnB w W.heap.size kv' ka') (hk : Kept (U8 wr) wr w) (hB : Below W.heap.size wr w) :
  BdL P C w1 W ov os lv gP gX pc acc ka' ov1 os1 DS1 DI1 b1 xv kv' w := by
 have hK : Kept (fun g => U8 wr g ∧ W.heap.size ≤ g) wr w := ⟨hk.below, fun g hg hs => by
  by_cases h1 : W.heap.size ≤ g
  ·exact hk.block g hg (fun e => hs ⟨e, h1⟩)
  ·exact hB.block g (by omega)⟩
 have hWs := h.hW; refine ⟨h.wk.kept hK (fun g e => by have := e.2; omega) (fun g e1 e2 => u8_own h.wk.out.1 (by decide) g e1 e2.1) (fun x hx g e1 e2 => u8_own (h.wk.out.2 x hx) (by decide) g e1 e2.1), h.kp.overB hK (fun g e => e.2), h.mv, h.new, hK.blk h.Pl (fun e => u8_blk h.Pl h.ty.2.2.1 e.1), hK.blk h.G (fun e => u8_blk h.G (by decide) e.1), hK.own h.R (fun g e1 e2 => u8_own h.R (by decide) g e1 e2.1), ho, h.ne, h.hP, h.hX, h.neX, h.hW, h.ty⟩
end
structure TbM (B p M : Nat) (st : Int) (hA : Option Addr) (hn hc : Nat) (fv ov : Value) (os : List Hd) (D : DataW Unit) (iv : Value) (ins : List Int) (w : World) : Prop where
 blk : Blk w p 87 #[.int .i64 st, .slice hA hn hc, ov, .map (some M), iv, fv]
 out : OwnNA w B ov os
 mp : MapA w M os.length D
 kn : Known D (os.map Hd.nd)
 ir : OwnIA w B iv ins
 ap : ∀ x ∈ os, ∀ g, x.val.ownBlock = some g → iv.ownBlock ≠ some g
 lo : B ≤ p ∧ B ≤ M
def TbS (p M : Nat) (ov iv : Value) : Nat → Prop := fun g => g = p ∨ g = M ∨ ov.ownBlock = some g ∨ iv.ownBlock = some g
structure TbV (p M : Nat) (ov iv : Value) (os : List Hd) (W : World) (ov' iv' : Value) (os' : List Hd) (w : World) : Prop where
 kp : Kept (TbS p M ov iv) W w
 mo : ∀ g, ov'.ownBlock = some g → ov.ownBlock = some g ∨ W.heap.size ≤ g
 mi : ∀ g, iv'.ownBlock = some g → iv.ownBlock = some g ∨ W.heap.size ≤ g
 new : ∀ x ∈ os', x ∈ os ∨ ∀ g, x.val.ownBlock = some g → W.heap.size ≤ g
section
variable {B p M : Nat} {st : Int} {hA : Option Addr} {hn hc : Nat} {fv ov ov1 ov2 : Value} {os os1 os2 : List Hd} {D D' : DataW Unit} {iv iv1 iv2 : Value} {ins ins' : List Int} {w w1 w2 w6 w8 w9 W : World}
theorem TbV.refl (p M : Nat) (ov iv : Value) (os : List Hd) (W : World) : TbV p M ov iv os W ov iv os W := ⟨Kept.refl _ _, fun g h => .inl h, fun g h => .inl h, fun x h => .inl h⟩
theorem TbV.of_new (h : Below W.heap.size W w) : TbV p M ov iv os W ov iv os w := ⟨Kept.of_new _ h, fun g h => .inl h, fun g h => .inl h, fun x h => .inl h⟩
theorem TbV.trans (h : TbV p M ov iv os W ov1 iv1 os1 w1) (k : TbV p M ov1 iv1 os1 w1 ov2 iv2 os2 w2) : TbV p M ov iv os W ov2 iv2 os2 w2 := by
 have hs := h.kp.below.size; refine ⟨⟨h.kp.below.trans k.kp.below, fun g hg hn => (k.kp.block g (Nat.lt_of_lt_of_le hg hs) fun h2 => ?_).trans (h.kp.block g hg hn)⟩, fun g e => ?_, fun g e => ?_, fun x hx => ?_⟩
 ·rcases h2 with h2 | h2 | h2 | h2
  ·exact hn (.inl h2)
  ·exact hn (.inr (.inl h2))
  ·rcases h.mo g h2 with h3 | h3
   ·exact hn (.inr (.inr (.inl h3)))
   ·omega
  ·rcases h.mi g h2 with h3 | h3
   ·exact hn (.inr (.inr (.inr h3)))
   ·omega
 ·rcases k.mo g e with h3 | h3
  ·exact h.mo g h3
  ·exact .inr (by omega)
 ·rcases k.mi g e with h3 | h3
  ·exact h.mi g h3
  ·exact .inr (by omega)
 ·rcases k.new x hx with h3 | h3
  ·exact h.new x h3
  ·exact .inr fun g e => Nat.le_trans hs (h3 g e)
theorem TbM.kept (h : TbM B p M st hA hn hc fv ov os D iv ins w) {T : Nat → Prop} (hk : Kept T w w1) (h1 : ¬ T p) (h2 : ¬ T M) (h3 : ∀ g, ov.ownBlock = some g → ¬ T g) (h4 : ∀ x ∈ os, ∀ g, x.val.ownBlock = some g → ¬ T g) (h5 : ∀ g, iv.ownBlock = some g → ¬ T g) : TbM B p M st hA hn hc fv ov os D iv ins w1 :=
 ⟨hk.blk h.blk h1, h.out.kept hk h3 h4, hk.map h.mp h2, h.kn, hk.own h.ir h5, h.ap, h.lo⟩
theorem TbM.ext (h : TbM B p M st hA hn hc fv ov os D iv ins w) (hb : Below w.heap.size w w1) : TbM B p M st hA hn hc fv ov os D iv ins w1 :=
 h.kept (Kept.of_new (fun _ => False) hb) (fun h => h) (fun h => h) (fun _ _ h => h) (fun _ _ _ _ h => h) (fun _ _ h => h)
theorem TbM.pM (h : TbM B p M st hA hn hc fv ov os D iv ins w) : p ≠ M := blk_map_ne h.blk h.mp
theorem TbM.lt (h : TbM B p M st hA hn hc fv ov os D iv ins w) : p < w.heap.size ∧ M < w.heap.size := ⟨h.blk.lt, h.mp.lt⟩
theorem TbM.below (h : TbM B p M st hA hn hc fv ov os D iv ins W) (hv : TbV p M ov iv os W ov1 iv1 os1 w) : Below B W w := by
 refine hv.kp.to_below (Nat.le_trans h.lo.1 (Nat.le_of_lt h.blk.lt)) fun g hg e => ?_; rcases e with e | e | e | e
 ·have := h.lo; omega
 ·have := h.lo; omega
 ·have := (own_lt' h.out.1 e).2; omega
 ·have := (own_lt' h.ir e).2; omega
theorem TbM.pushI (h : TbM B p M st hA hn hc fv ov os D iv ins w) {z : Int} {iv' : Value} (ho : OwnIA w1 B iv' (ins ++ [z])) (hk : Kept (fun g => iv.ownBlock = some g) w w1) (hm : iv'.ownBlock = iv.ownBlock ∨ ∃ g, iv'.ownBlock = some g ∧ w.heap.size ≤ g) :
  TbM B p M st hA hn hc fv ov os D iv' (ins ++ [z]) (w1.setCell ⟨p, 4, none⟩ iv') ∧ TbV p M ov iv os w ov iv' os (w1.setCell ⟨p, 4, none⟩ iv') ∧ Blk w1 p 87 #[.int .i64 st, .slice hA hn hc, ov, .map (some M), iv, fv] := by
 have b1 := hk.blk h.blk (own_blk_ne' h.ir h.blk (by decide)); have o1 := h.out.kept hk (fun g e1 e2 => own_ne h.ir h.out.1 (by decide) e2 e1) (fun x hx g e1 e2 => h.ap x hx g e1 e2); have m1 := hk.map h.mp (own_map_ne h.ir h.mp); have k7 : Kept (fun g => g = p) w1 (w1.setCell ⟨p, 4, none⟩ iv') := (Kept.refl (fun g => g = p) w1).setCell (p := ⟨p, 4, none⟩) (Or.inl rfl) iv'; refine ⟨⟨b1.set_ 4 iv', o1.kept k7 (fun g e1 e2 => by subst e2; exact own_blk_ne' o1.1 b1 (by decide) e1) (fun x hx g e1 e2 => by subst e2; exact own_blk_ne' (o1.2 x hx) b1 (by decide) e1), k7.map m1 (fun e => h.pM e.symm), h.kn, k7.own ho (fun g e1 e2 => by subst e2; exact own_blk_ne' ho b1 (by decide) e1), fun x hx g e1 e2 => ?_, h.lo⟩,
  ⟨(hk.mono fun g _ e => .inr (.inr (.inr e))).setCell (p := ⟨p, 4, none⟩) (.inl (.inl rfl)) iv', fun g e => .inl e, fun g e => ?_, fun x hx => .inl hx⟩, b1⟩
 ·rcases hm with hm | ⟨g', hg, hs⟩
  ·exact h.ap x hx g e1 (by rw [← hm]; exact e2)
  ·rw [hg] at e2; injection e2 with e2
   have := (own_lt' (h.out.2 x hx) e1).1; omega
 ·rcases hm with hm | ⟨g', hg, hs⟩
  ·exact .inl (by rw [← hm]; exact e)
  ·rw [hg] at e; injection e with e
   exact .inr (by omega)
theorem TbM.cutI {g n c : Nat} (h : TbM B p M st hA hn hc fv ov os D (.slice (some ⟨g, 0, none⟩) n c) ins w) (hl : n = ins.length) {m : Nat} (hm : m ≤ n) :
  TbM B p M st hA hn hc fv ov os D (.slice (some ⟨g, 0, none⟩) m c) (ins.take m) (w.setCell ⟨p, 4, none⟩ (.slice (some ⟨g, 0, none⟩) m c)) ∧ TbV p M ov (.slice (some ⟨g, 0, none⟩) n c) os w ov (.slice (some ⟨g, 0, none⟩) m c) os (w.setCell ⟨p, 4, none⟩ (.slice (some ⟨g, 0, none⟩) m c)) := by
 have ho := OwnI.cut h.ir hl hm; have k7 : Kept (fun g => g = p) w (w.setCell ⟨p, 4, none⟩ (.slice (some ⟨g, 0, none⟩) m c)) := (Kept.refl (fun g => g = p) w).setCell (p := ⟨p, 4, none⟩) (Or.inl rfl) _; refine ⟨⟨h.blk.set_ 4 _, h.out.kept k7 (fun g e1 e2 => by subst e2; exact own_blk_ne' h.out.1 h.blk (by decide) e1) (fun x hx g e1 e2 => by subst e2; exact own_blk_ne' (h.out.2 x hx) h.blk (by decide) e1), k7.map h.mp (fun e => h.pM e.symm), h.kn, k7.own ho (fun g e1 e2 => by subst e2; exact own_blk_ne' ho h.blk (by decide) e1), h.ap, h.lo⟩,
  ⟨k7.mono fun g _ e => .inl e, fun g e => .inl e, fun g e => .inl e, fun x hx => .inl hx⟩⟩
theorem TbM.mapped (h : TbM B p M st hA hn hc fv ov os D iv ins w) (hg : w.grownBy w8 (some M)) : Kept (fun g => g = M) w w8 ∧ Blk w8 p 87 #[.int .i64 st, .slice hA hn hc, ov, .map (some M), iv, fv] ∧ OwnNA w8 B ov os ∧ OwnIA w8 B iv ins := by
 have k8 : Kept (fun g => g = M) w w8 := (Kept.refl _ w).grown hg fun g e => by injection e with e; exact .inl e.symm
 exact ⟨k8, k8.blk h.blk h.pM, h.out.kept k8 (fun g e1 e2 => by subst e2; exact own_map_ne h.out.1 h.mp e1) (fun x hx g e1 e2 => by subst e2; exact own_map_ne (h.out.2 x hx) h.mp e1), k8.own h.ir (fun g e1 e2 => by subst e2; exact own_map_ne h.ir h.mp e1)⟩
theorem TbM.node (h : TbM B p M st hA hn hc fv ov os D iv ins w) {ov0 iv0 : Value} {os0 : List Hd} (hv : TbV p M ov0 iv0 os0 W ov iv os w) (hg : w.grownBy w8 (some M)) (hM : MapA w8 M (os.length + 1) D') {x : Hd} (hkn : Known D' (os.map Hd.nd ++ [x.nd])) {v9 : Value}
  (hN : OwnNA w9 B v9 (os ++ [x])) (hk : Kept (fun g => ov.ownBlock = some g) w8 w9) (hm : v9.ownBlock = ov.ownBlock ∨ ∃ g, v9.ownBlock = some g ∧ w8.heap.size ≤ g) (hx : ∀ g, x.val.ownBlock = some g → W.heap.size ≤ g ∧ iv.ownBlock ≠ some g) :
  TbM B p M st hA hn hc fv v9 (os ++ [x]) D' iv ins (w9.setCell ⟨p, 2, none⟩ v9) ∧ TbV p M ov0 iv0 os0 W v9 iv (os ++ [x]) (w9.setCell ⟨p, 2, none⟩ v9) ∧ Blk w9 p 87 #[.int .i64 st, .slice hA hn hc, ov, .map (some M), iv, fv] := by
 obtain ⟨k8, b8, o8, i8⟩ := h.mapped hg; have b9 := hk.blk b8 (own_blk_ne' o8.1 b8 (by decide)); have m9 := hk.map hM (own_map_ne o8.1 hM); have i9 := hk.own i8 (fun g e1 e2 => own_ne i8 o8.1 (by decide) e1 e2); have k7 : Kept (fun g => g = p) w9 (w9.setCell ⟨p, 2, none⟩ v9) := (Kept.refl (fun g => g = p) w9).setCell (p := ⟨p, 2, none⟩) (Or.inl rfl) v9; have K : Kept (TbS p M ov iv) w (w9.setCell ⟨p, 2, none⟩ v9) := ((k8.mono fun g _ e => .inr (.inl e)).trans (hk.mono fun g _ e => .inr (.inr (.inl e)))).setCell (p := ⟨p, 2, none⟩) (.inl (.inl rfl)) v9; refine ⟨⟨b9.set_ 2 v9, hN.kept k7 (fun g e1 e2 => by subst e2; exact own_blk_ne' hN.1 b9 (by decide) e1) (fun y hy g e1 e2 => by subst e2; exact own_blk_ne' (hN.2 y hy) b9 (by decide) e1), ?_, by rw [List.map_append]; exact hkn, k7.own i9 (fun g e1 e2 => by subst e2; exact own_blk_ne' i9 b9 (by decide) e1), fun y hy g e1 => ?_, h.lo⟩, ?_, b9⟩
 ·rw [List.length_append]; exact k7.map m9 (fun e => h.pM e.symm)
 ·rcases List.mem_append.1 hy with hy | hy
  ·exact h.ap y hy g e1
  ·rw [List.mem_singleton.1 hy] at e1; exact (hx g e1).2
 ·have hv2 : TbV p M ov iv os w v9 iv os (w9.setCell ⟨p, 2, none⟩ v9) := ⟨K, fun g e => by
   rcases hm with hm | ⟨g', hg', hs⟩
   ·exact .inl (by rw [← hm]; exact e)
   ·rw [hg'] at e; injection e with e
    exact .inr (by have := k8.below.size; omega), fun g e => .inl e, fun y hy => .inl hy⟩
  have t := hv.trans hv2; refine ⟨t.kp, t.mo, t.mi, fun y hy => ?_⟩; rcases List.mem_append.1 hy with hy | hy
  ·exact t.new y hy
  ·rw [List.mem_singleton.1 hy]; exact .inr fun g e => (hx g e).1
end
structure TbL (B p M : Nat) (st : Int) (hA : Option Addr) (hn hc : Nat) (fv : Value) (W : World) (ov0 iv0 : Value) (os0 : List Hd) (gX : Nat) (lv : Int) (acc : List Int) (ka : List UInt8) (ov : Value) (os : List Hd) (D : DataW Unit) (iv : Value) (ins : List Int) (xv kv : Value) (wr : World) : Prop where
 tb : TbM B p M st hA hn hc fv ov os D iv ins wr
 mv : TbV p M ov0 iv0 os0 W ov iv os wr
 G : Blk wr gX 50 #[.int .i64 lv, xv]
 R : OwnIA wr W.heap.size xv acc
 K : OwnB wr W.heap.size kv ka
 ne : ∀ x ∈ os, ∀ g, x.val.ownBlock = some g → xv.ownBlock ≠ some g
 ni : ∀ g, iv.ownBlock = some g → xv.ownBlock ≠ some g
 neX : ov.ownBlock ≠ some gX
 hX : W.heap.size ≤ gX
 lp : p < W.heap.size ∧ M < W.heap.size
section
variable {B p M : Nat} {st : Int} {hA : Option Addr} {hn hc : Nat} {fv ov ov0 ov1 ov2 : Value} {os os0 os1 os2 : List Hd} {D D' : DataW Unit} {iv iv0 iv1 iv2 : Value} {ins ins' : List Int} {w w1 w2 w6 w8 w9 wr W : World} {gX : Nat} {lv : Int} {acc : List Int} {ka : List UInt8} {xv kv : Value}
theorem TbL.ext (h : TbL B p M st hA hn hc fv W ov0 iv0 os0 gX lv acc ka ov os D iv ins xv kv wr) (hb : Below wr.heap.size wr w) : TbL B p M st hA hn hc fv W ov0 iv0 os0 gX lv acc ka ov os D iv ins xv kv w :=
 ⟨h.tb.ext hb, h.mv.trans (TbV.of_new hb), h.G.below hb h.G.lt, h.R.ext hb, h.K.ext hb, h.ne, h.ni, h.neX, h.hX, h.lp⟩
theorem TbL.start (h : TbM B p M st hA hn hc fv ov os D iv ins W) (hb : Below W.heap.size W w) (hG : Blk w gX 50 #[.int .i64 lv, .slice none 0 0]) (hK : OwnB w W.heap.size kv ka) (hX : W.heap.size ≤ gX) :
  TbL B p M st hA hn hc fv W ov iv os gX lv [] ka ov os D iv ins (.slice none 0 0) kv w :=
 ⟨h.ext hb, TbV.of_new hb, hG, OwnI.nil _ _ _, hK, fun x hx g e => by simp [Value.ownBlock], fun g e => by simp [Value.ownBlock], fun he => by have := (own_lt' h.out.1 he).1; omega, hX, h.lt⟩
theorem TbL.far (h : TbL B p M st hA hn hc fv W ov0 iv0 os0 gX lv acc ka ov os D iv ins xv kv wr) : (∀ g, xv.ownBlock = some g → ¬ TbS p M ov iv g) ∧ (∀ g, kv.ownBlock = some g → ¬ TbS p M ov iv g) ∧ ¬ TbS p M ov iv gX := by
 have hp := h.lp; have hX := h.hX; refine ⟨fun g e => ?_, fun g e => ?_, ?_⟩
 ·have := (own_lt' h.R e).2; rintro (e2 | e2 | e2 | e2)
  ·omega
  ·omega
  ·exact own_ne h.R h.tb.out.1 (by decide) e e2
  ·exact h.ni g e2 e
 ·have := (own_lt' h.K e).2; rintro (e2 | e2 | e2 | e2)
  ·omega
  ·omega
  ·exact own_ne h.K h.tb.out.1 (by decide) e e2
  ·exact own_ne h.K h.tb.ir (by decide) e e2
 ·rintro (e2 | e2 | e2 | e2)
  ·omega
  ·omega
  ·exact h.neX e2
  ·exact own_blk_ne' h.tb.ir h.G (by decide) e2
theorem TbL.turn (h : TbL B p M st hA hn hc fv W ov0 iv0 os0 gX lv acc ka ov os D iv ins xv kv wr) (ht : TbM B p M st hA hn hc fv ov1 os1 D' iv1 ins' w) (hv : TbV p M ov iv os wr ov1 iv1 os1 w) : TbL B p M st hA hn hc fv W ov0 iv0 os0 gX lv acc ka ov1 os1 D' iv1 ins' xv kv w := by
 obtain ⟨f1, f2, f3⟩ := h.far; refine ⟨ht, h.mv.trans hv, hv.kp.blk h.G f3, hv.kp.own h.R f1, hv.kp.own h.K f2, fun x hx g e => ?_, fun g e => ?_, fun e => ?_, h.hX, h.lp⟩
 ·rcases hv.new x hx with hx | hx
  ·exact h.ne x hx g e
  ·intro e2; have := (own_lt' h.R e2).1; have := hx g e; omega
 ·rcases hv.mi g e with e2 | e2
  ·exact h.ni g e2
  ·intro e3; have := (own_lt' h.R e3).1; omega
 ·rcases hv.mo _ e with e2 | e2
  ·exact h.neX e2
  ·have := h.G.lt; omega
theorem TbL.push (h : TbL B p M st hA hn hc fv W ov0 iv0 os0 gX lv acc ka ov os D iv ins xv kv wr) {z : Int} {xv' : Value} (ho : OwnIA w6 W.heap.size xv' (acc ++ [z])) (hk : Kept (fun g => xv.ownBlock = some g) wr w6) (hm : xv'.ownBlock = xv.ownBlock ∨ ∃ g, xv'.ownBlock = some g ∧ wr.heap.size ≤ g) :
  TbL B p M st hA hn hc fv W ov0 iv0 os0 gX lv (acc ++ [z]) ka ov os D iv ins xv' kv (w6.setCell ⟨gX, 1, none⟩ xv') ∧ Blk w6 gX 50 #[.int .i64 lv, xv] := by
 obtain ⟨f1, f2, f3⟩ := h.far; have hX := h.hX; have hp := h.lp; have k7 : Kept (fun g => g = gX) w6 (w6.setCell ⟨gX, 1, none⟩ xv') := (Kept.refl (fun g => g = gX) w6).setCell (p := ⟨gX, 1, none⟩) (Or.inl rfl) xv'; have g6 := hk.blk h.G (own_blk_ne' h.R h.G (by decide)); have t6 := h.tb.kept hk (fun e => f1 _ e (.inl rfl)) (fun e => f1 _ e (.inr (.inl rfl))) (fun g e e2 => f1 g e2 (.inr (.inr (.inl e)))) (fun x hx g e e2 => h.ne x hx g e e2) (fun g e e2 => h.ni g e e2); have c6 : OwnB w6 W.heap.size kv ka := hk.own h.K (fun g e1 e2 => own_ne h.R h.K (by decide) e2 e1); have hlt := h.tb.lt; refine ⟨⟨t6.kept k7 (by omega) (by omega) (fun g e e2 => by subst e2; exact h.neX e) (fun x hx g e e2 => by subst e2; exact own_blk_ne' (t6.out.2 x hx) g6 (by decide) e) (fun g e e2 => by subst e2; exact own_blk_ne' t6.ir g6 (by decide) e),
  ⟨?_, h.mv.mo, h.mv.mi, h.mv.new⟩, g6.set_ 1 xv', k7.own ho (fun g e1 e2 => by subst e2; exact own_blk_ne' ho g6 (by decide) e1), k7.own c6 (fun g e1 e2 => by subst e2; exact own_blk_ne' c6 g6 (by decide) e1), fun x hx g e1 e2 => ?_, fun g e1 e2 => ?_, h.neX, h.hX, h.lp⟩, g6⟩
 ·exact (h.mv.kp.overB hk (fun g e => (own_lt' h.R e).2)).overB k7 (fun g e => by rw [e]; exact hX)
 ·rcases hm with hm | ⟨g', hg, hs⟩
  ·rw [hm] at e2; exact h.ne x hx g e1 e2
  ·rw [hg] at e2; injection e2 with e2
   have := (own_lt' (h.tb.out.2 x hx) e1).1; omega
 ·rcases hm with hm | ⟨g', hg, hs⟩
  ·rw [hm] at e2; exact h.ni g e1 e2
  ·rw [hg] at e2; injection e2 with e2
   have := (own_lt' h.tb.ir e1).1; omega
theorem TbL.key (h : TbL B p M st hA hn hc fv W ov0 iv0 os0 gX lv acc ka ov os D iv ins xv kv wr) {kv' : Value} {ka' : List UInt8} (ho : OwnB w W.heap.size kv' ka') (hk : Kept (U8 wr) wr w) (hB : Below W.heap.size wr w) :
  TbL B p M st hA hn hc fv W ov0 iv0 os0 gX lv acc ka' ov os D iv ins xv kv' w := by
 have hK : Kept (fun g => U8 wr g ∧ W.heap.size ≤ g) wr w := ⟨hk.below, fun g hg hs => by
  by_cases h1 : W.heap.size ≤ g
  ·exact hk.block g hg (fun e => hs ⟨e, h1⟩)
  ·exact hB.block g (by omega)⟩
 have hp := h.lp; refine ⟨h.tb.kept hK (fun e => by have := e.2; omega) (fun e => by have := e.2; omega) (fun g e1 e2 => u8_own h.tb.out.1 (by decide) g e1 e2.1) (fun x hx g e1 e2 => u8_own (h.tb.out.2 x hx) (by decide) g e1 e2.1) (fun g e1 e2 => u8_own h.tb.ir (by decide) g e1 e2.1),
  ⟨h.mv.kp.overB hK (fun g e => e.2), h.mv.mo, h.mv.mi, h.mv.new⟩, hK.blk h.G (fun e => u8_blk h.G (by decide) e.1), hK.own h.R (fun g e1 e2 => u8_own h.R (by decide) g e1 e2.1), ho, h.ne, h.ni, h.neX, h.hX, h.lp⟩
end
end Go.Proofs.YtlegfdllipkggaaDoor
