/-
  A range over an iterator that keeps its state in a box of its own: what it owes, and the law for the loop over it. No program in sight.
-/
import Derived.Test.YtblfeaapjloppaaDoorOwn
import Derived.RangeFuncNested
import Derived.RangeFuncBox
namespace Go.Proofs.YtblfeaapjloppaaDoor
open Go.RowKit
set_option linter.unusedVariables false

theorem wide_fn (f : FuncId) : Fence.wide.fn f = True := rfl
theorem wide_depth : Fence.wide.depth = none := rfl
theorem wide_call {n : Nat} {f : FuncId} {C : Prop} (h : C) : Fence.wide.fn f ∧ (Fence.wide.depth.isSome = true → 1 ≤ n) ∧ C := ⟨trivial, (fun hd => by cases hd), h⟩
theorem wide_round {n : Nat} {C : Prop} (h : C) : (Fence.wide.depth.isSome = true → 1 ≤ n) ∧ C := ⟨(fun hd => by cases hd), h⟩
/-- the blocks from lo to hi stay -/
def Held (lo hi : Nat) (w w' : World) : Prop := ∀ k, lo ≤ k → k < hi → w'.heap[k]? = w.heap[k]?
theorem Held.refl (lo hi : Nat) (w : World) : Held lo hi w w := fun _ _ _ => rfl
theorem Held.trans {lo hi : Nat} {u v w : World} (h : Held lo hi u v) (k : Held lo hi v w) : Held lo hi u w := fun i a b => (k i a b).trans (h i a b)
theorem Held.putObj {lo hi l : Nat} {u w : World} (h : Held lo hi u w) (hl : hi ≤ l) (o : Obj) : Held lo hi u (w.putObj l o) := fun i a b => (World.putObj_heap_other (by omega)).trans (h i a b)
theorem Held.alloc {lo hi : Nat} {u w : World} (h : Held lo hi u w) (hs : hi ≤ w.heap.size) (o : Obj) : Held lo hi u (w.alloc o) := fun i a b => (Below.heap_alloc w o i (by omega)).trans (h i a b)
theorem Held.setCell {lo hi : Nat} {u w : World} (h : Held lo hi u w) {p : Addr} (hp : p.block < lo ∨ hi ≤ p.block) (v : Value) : Held lo hi u (w.setCell p v) := fun i a b => (Below.heap_setCell w p v i (by omega)).trans (h i a b)
theorem Held.below {lo hi B : Nat} {u w w' : World} (h : Held lo hi u w) (hb : Below B w w') (hB : hi ≤ B) : Held lo hi u w' := fun i a b => (hb.block i (by omega)).trans (h i a b)
theorem Held.grown {lo hi : Nat} {u w w' : World} {row : Option Nat} (h : Held lo hi u w) (hb : w.grownBy w' row) (hs : hi ≤ w.heap.size) (hr : ∀ g, row = some g → hi ≤ g) : Held lo hi u w' :=
  fun i a b => (hb.block i (by omega) (fun e => by have := hr i e.symm; omega)).trans (h i a b)
/-- what the caller says between two rounds abides a store into the iterator's box -/
def Spare (b : Nat) (J : List ByteArray → World → Prop) : Prop := ∀ s A v, J s A → J s (A.setCell ⟨b, 0, none⟩ v)
/-- the iterator's contract: strings come one by one; its box b may be turned, lo to hi is what it reads behind a round -/
def SeqBox (P : Program) (g : Nat) (lb : Array Value) (b lo hi : Nat) (Ok : List ByteArray → ByteArray → Prop) (S : List ByteArray → Prop) (w : World) : Prop :=
  ∀ (n l : Nat) (J Jx : List ByteArray → World → Prop) (W : World), Below w.heap.size w W → Spare b J →
    (∀ pre x W1, J pre W1 → Ok pre x → YieldAt Fence.wide (n - 1) P l #[.string x] W1 fun e W' => (e = .returned (.bool true) ∧ J (pre ++ [x]) W' ∧ Held lo hi W1 W') ∨ (e = .returned (.bool false) ∧ Jx (pre ++ [x]) W')) →
    J [] W → CallsIn Fence.wide n P g (#[.func (.yield l) #[] #[]] ++ lb) W fun e W' => (∃ v, e = .returned v) ∧ ((∃ xs, S xs ∧ J xs W') ∨ ∃ pre rest, S (pre ++ rest) ∧ Jx pre W')
/-- how a round may end -/
def RoundEnds (lo hi : Nat) (I : List ByteArray → World → Prop) (Ix : List ByteArray → World → Prop) (xs : List ByteArray) (W : World) : Exit → Act → World → Prop
  | .normal, _, W' => KeepsOthers W W' ∧ Held lo hi W W' ∧ I xs W'
  | .ret, _, W' => KeepsOthers W W' ∧ Ix xs W'
  | _, _, _ => False
/-- the loop over such an iterator, at the wide fence -/
theorem wpIn_rangeBox {n : Nat} {P : Program} {g : Operand} {ps : Array Tmp} {assign body : Code} {Q : Exit → Act → World → Prop} {a : Act} {w w0 : World}
    {gf : Nat} {lb : Array Value} {b lo hi : Nat} {Ok : List ByteArray → ByteArray → Prop} {S : List ByteArray → Prop}
    (hg : a.eval g = .func (.func gf) #[] lb) (eg : ∀ args w, (callFunc gf args).run P w = .ok (.enter gf args) w) (hseq : SeqBox P gf lb b lo hi Ok S w0) (hb0 : Below w0.heap.size w0 w)
    (hbw : b < w.heap.size) (hhi : hi ≤ w.heap.size) (hps : ps.size = 1)
    (I Ix : List ByteArray → World → Prop) (hI : OwnFrom w.heap.size I) (hIx : OwnFrom w.heap.size Ix) (hIb : Spare b I) (h0 : I [] w) (a₁ : ByteArray → Act)
    (hassign : ∀ (l : Nat) (x : ByteArray) (W : World) (K : Act → World → Prop), K (a₁ x) W →
      assign.wpIn (Fence.wide.inRound l) (n - 1 - 1) P (Exit.then K (fun _ _ _ => False)) { tmps := (ps.zip #[.string x]).foldl (fun t (p, v) => t.setIfInBounds p v) a.tmps, defers := [] } W)
    (hbody : ∀ (l : Nat) (pre : List ByteArray) (x : ByteArray) (W : World), w.heap.size ≤ W.heap.size → I pre W → Ok pre x → body.wpIn (Fence.wide.inRound l) (n - 1 - 1) P (RoundEnds lo hi I Ix (pre ++ [x]) W) (a₁ x) W)
    (hdone : ∀ (D : Nat) (xs : List ByteArray) (W : World), w.heap.size ≤ D → S xs → I xs W → W.heap[D]? = some (.deferred (some [])) → Q .normal { a with defers := { target := .collected D, args := #[] } :: a.defers } W)
    (hstop : ∀ (D : Nat) (pre rest : List ByteArray) (W : World), w.heap.size ≤ D → S (pre ++ rest) → Ix pre W → W.heap[D]? = some (.deferred (some [])) → Code.ret.wpIn Fence.wide n P Q { a with defers := { target := .collected D, args := #[] } :: a.defers } W) :
    (Code.rangeFunc g ps assign body).wpIn Fence.wide n P Q a w := by
  refine wpIn_rangeFunc fun fn hfn => ?_
  obtain ⟨mk, hmk⟩ : ∃ mk : LoopState → Option Code → Obj, mk = fun st pe => .loop { state := st, pending := pe, fn, tmps := a.tmps, params := ps, assign, body, defers := w.heap.size } := ⟨_, rfl⟩
  obtain ⟨W1, hW1⟩ : ∃ W1, W1 = (w.alloc (.deferred (some []))).alloc (mk .ready none) := ⟨_, rfl⟩
  have hsz : W1.heap.size = w.heap.size + 1 + 1 := by rw [hW1]; simp
  have hL1 : W1.heap[w.heap.size + 1]? = some (mk .ready none) := by
    rw [hW1]
    have h := World.alloc_heap_new (w.alloc (.deferred (some []))) (mk .ready none)
    rwa [World.size_alloc] at h
  have hD1 : W1.heap[w.heap.size]? = some (.deferred (some [])) := by
    rw [hW1]
    exact (Below.heap_alloc _ _ _ (by simp)).trans (World.alloc_heap_new w _)
  have hcells : ∀ st pe, (mk st pe).isCells = false := fun st pe => by rw [hmk]; rfl
  refine ⟨w.heap.size + 1, [{ target := .collected w.heap.size, args := #[] }], W1, { target := .fn (.func gf) lb, args := #[.func (.yield (w.heap.size + 1)) #[] #[]] }, W1, gf,
    #[.func (.yield (w.heap.size + 1)) #[] #[]] ++ lb, W1, ?_, ?_, fun _ _ => trivial, ?_, fun h => by simp [Fence.wide] at h, ?_⟩
  · rw [hW1, hmk]
    exact run_enterLoop_outer _ _ _ _ _
  · simp only [resolve, hg]
    simp [go_sem]
  · simp [invoke, go_sem, eg]
  have hb1 : Below w0.heap.size w0 W1 := by
    rw [hW1]
    exact hb0.trans ((((Below.refl _ w).alloc (Nat.le_refl _) _).alloc (by simp) _).mono hb0.size)
  have hI1 : I [] W1 := by
    rw [hW1]
    exact hI.alloc _ (hI.alloc _ h0)
  refine (hseq (n - 1) (w.heap.size + 1)
    (fun pre W => I pre W ∧ W.heap[w.heap.size + 1]? = some (mk .ready none) ∧ W.heap[w.heap.size]? = some (.deferred (some [])))
    (fun pre W => Ix pre W ∧ W.heap[w.heap.size + 1]? = some (mk .done (some .ret)) ∧ W.heap[w.heap.size]? = some (.deferred (some [])))
    W1 hb1 ?sp ?rounds ⟨hI1, hL1, hD1⟩).mono ?behind
  case sp =>
    rintro s A v ⟨h1, h2, h3⟩
    exact ⟨hIb s A v h1, (Below.heap_setCell A ⟨b, 0, none⟩ v _ (by simp; omega)).trans h2, (Below.heap_setCell A ⟨b, 0, none⟩ v _ (by simp; omega)).trans h3⟩
  case rounds =>
    rintro pre x W ⟨hi1, hl, hk⟩ hok
    have hlt : w.heap.size + 1 < W.heap.size := (Array.getElem?_eq_some_iff.1 hl).1
    have hy := hl
    rw [hmk] at hy
    have hyr := run_yield (P := P) (args := #[.string x]) hy (by simp [hps])
    refine ⟨fn, _, assign, body, hyr, roundIn_of_wpIn hfn (hassign _ x W _ ⟨_, run_beginRound hy rfl, ?_⟩)⟩
    have eb : (Obj.loop { state := .busy, pending := none, fn, tmps := a.tmps, params := ps, assign, body, defers := w.heap.size }) = mk .busy none := by rw [hmk]
    obtain ⟨W2, hW2⟩ : ∃ W2, W2 = W.putObj (w.heap.size + 1) (mk .busy none) := ⟨_, rfl⟩
    have hgoal : body.wpIn (Fence.wide.inRound (w.heap.size + 1)) (n - 1 - 1) P (RoundEnds lo hi I Ix (pre ++ [x]) W2) (a₁ x) W2 :=
      hbody _ pre x W2 (by rw [hW2]; simp; omega) (by rw [hW2]; exact hI.putObj _ hi1 (by omega) hl (hcells _ _)) hok
    have hl2 : W2.heap[w.heap.size + 1]? = some (mk .busy none) := by rw [hW2]; exact World.putObj_heap_same hlt
    have hk2 : W2.heap[w.heap.size]? = some (.deferred (some [])) := by rw [hW2]; exact (World.putObj_heap_other (by omega)).trans hk
    have hh2 : Held lo hi W W2 := by rw [hW2]; exact (Held.refl lo hi W).putObj (by omega) _
    have fin : ∀ (st : LoopState) (jump : Option Code) (W3 : World), (st = if jump.isNone then .ready else .done) → KeepsOthers W2 W3 →
        (Instr.endRound (w.heap.size + 1) jump).run P W3 = .ok (.bool jump.isNone) (W3.putObj (w.heap.size + 1) (mk st jump)) ∧ W3.heap[w.heap.size + 1]? = some (mk .busy none) ∧
        (W3.putObj (w.heap.size + 1) (mk st jump)).heap[w.heap.size + 1]? = some (mk st jump) ∧ (W3.putObj (w.heap.size + 1) (mk st jump)).heap[w.heap.size]? = some (.deferred (some [])) := by
      intro st jump W3 hst hk3
      subst hst
      have hl3 := hk3.same _ _ hl2 (hcells _ _)
      have hl3' := hl3
      rw [hmk] at hl3'
      have hr := run_endRound (P := P) jump hl3'
      exact ⟨by rw [hmk]; exact hr, hl3, World.putObj_heap_same (Array.getElem?_eq_some_iff.1 hl3).1, (World.putObj_heap_other (by omega)).trans (hk3.same _ _ hk2 rfl)⟩
    show body.wpIn _ _ P _ _ (W.putObj (w.heap.size + 1) (.loop { state := .busy, pending := none, fn, tmps := a.tmps, params := ps, assign, body, defers := w.heap.size }))
    rw [eb, ← hW2]
    refine wpIn_mono hgoal ?_
    rintro e a3 W3 hp
    cases e with
    | normal =>
      obtain ⟨hk3, hh3, hi3⟩ := hp
      obtain ⟨hr, hl3, hl4, hk4⟩ := fin .ready none W3 rfl hk3
      exact ⟨_, _, hr, .inl ⟨rfl, ⟨hI.putObj _ hi3 (by omega) hl3 (hcells _ _), hl4, hk4⟩, (hh2.trans hh3).putObj (by omega) _⟩⟩
    | ret =>
      obtain ⟨hk3, hi3⟩ := hp
      obtain ⟨hr, hl3, hl4, hk4⟩ := fin .done (some .ret) W3 rfl hk3
      exact ⟨_, _, hr, .inr ⟨rfl, hIx.putObj _ hi3 (by omega) hl3 (hcells _ _), hl4, hk4⟩⟩
    | exit id => exact (hp : False).elim
    | goto t => exact (hp : False).elim
    | panic ch => exact (hp : False).elim
    | outgrown => exact (hp : False).elim
  case behind =>
    rintro e W2 ⟨⟨v, rfl⟩, (⟨xs, hS, hi1, hl, hk⟩ | ⟨pre, rest, hS, hi1, hl, hk⟩)⟩
    · have hl' := hl
      rw [hmk] at hl'
      have hr := run_endLoop (P := P) hl' (by simp)
      exact ⟨none, _, hr, hdone _ xs _ (Nat.le_refl _) hS (hI.putObj _ hi1 (by omega) hl (hcells _ _)) ((World.putObj_heap_other (by omega)).trans hk)⟩
    · have hl' := hl
      rw [hmk] at hl'
      have hr := run_endLoop (P := P) hl' (by simp)
      exact ⟨some .ret, _, hr, hstop _ pre rest _ (Nat.le_refl _) hS (hIx.putObj _ hi1 (by omega) hl (hcells _ _)) ((World.putObj_heap_other (by omega)).trans hk)⟩
end Go.Proofs.YtblfeaapjloppaaDoor
