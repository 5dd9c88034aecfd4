/-
  texts Nd Byte Node Clone: parts of the proof; conditions stand with each theorem.
-/
import Derived.Test.YtlegfdllipkggaaDoorYG0
import Derived.Test.YtlegfdllipkggaaDoorYG1
import Derived.Test.YtlegfdllipkggaaDoorProg
import Derived.Maps.OwnSet
import Derived.Maps.Keyed
import Derived.Maps.AppendAt
import Derived.Laws.IdiomStrings
import Derived.Lib.AppendIntMem
import Derived.Test.YtlegfdllipkggaaDoorShelf
import Derived.Lib.ItoaLen
import Derived.Lib.Slices
namespace Go.Proofs.YtlegfdllipkggaaDoor
set_option linter.unusedSimpArgs false
open Go.RowKit Go.Maps
set_option maxRecDepth 100000
set_option linter.unusedVariables false

structure Kept (S : Nat → Prop) (w w' : World) : Prop where
 below : Below 0 w w'
 block : ∀ g, g < w.heap.size → ¬ S g → w'.heap[g]? = w.heap[g]?
section
variable {S S' : Nat → Prop} {w w' w'' : World}
theorem Kept.refl (S : Nat → Prop) (w : World) : Kept S w w := ⟨Below.refl _ _, fun _ _ _ => rfl⟩
theorem Kept.trans (h : Kept S w w') (k : Kept S w' w'') : Kept S w w'' :=
 ⟨h.below.trans k.below, fun g hg hs => (k.block g (Nat.lt_of_lt_of_le hg h.below.size) hs).trans (h.block g hg hs)⟩
theorem Kept.mono (h : Kept S w w') (hs : ∀ g, g < w.heap.size → S g → S' g) : Kept S' w w' := ⟨h.below, fun g hg h' => h.block g hg fun x => h' (hs g hg x)⟩
theorem Kept.of_below {B : Nat} (h : Below B w w') : Kept (B ≤ ·) w w' := ⟨⟨h.os, h.tape, h.output, h.size, fun k hk => absurd hk (by omega)⟩, fun g _ hs => h.block g (by omega)⟩
theorem Kept.of_new (S : Nat → Prop) (h : Below w.heap.size w w') : Kept S w w' := (Kept.of_below h).mono fun g hg hs => absurd hg (by omega)
theorem Kept.to_below {B : Nat} (h : Kept S w w') (hB : B ≤ w.heap.size) (hs : ∀ g, g < B → ¬ S g) : Below B w w' :=
 ⟨h.below.os, h.below.tape, h.below.output, h.below.size, fun k hk => h.block k (by omega) (hs k hk)⟩
theorem Kept.drew (h : Kept S w w') : Kept S w w'.drew := ⟨h.below.drew, h.block⟩
theorem Kept.drewN (h : Kept S w w') (n : Nat) : Kept S w (w'.drewN n) := ⟨below_drewN h.below n, h.block⟩
theorem Kept.alloc (h : Kept S w w') (o : Obj) : Kept S w (w'.alloc o) :=
 ⟨h.below.alloc (Nat.zero_le _) o, fun g hg hs => (Below.heap_alloc w' o g (Nat.lt_of_lt_of_le hg h.below.size)).trans (h.block g hg hs)⟩
theorem Kept.setCell (h : Kept S w w') {p : Addr} (hp : S p.block ∨ w.heap.size ≤ p.block) (u : Value) : Kept S w (w'.setCell p u) :=
 ⟨h.below.setCell (Nat.zero_le _) u, fun g hg hs => (Below.heap_setCell w' p u g (by rintro rfl; rcases hp with hp | hp; exact hs hp; omega)).trans (h.block g hg hs)⟩
theorem Kept.grown (h : Kept S w w') {row : Option Nat} (hg : w'.grownBy w'' row) (hr : ∀ g, row = some g → S g ∨ w.heap.size ≤ g) : Kept S w w'' :=
 ⟨⟨hg.os.trans h.below.os, hg.tape.trans h.below.tape, hg.output.trans h.below.output, Nat.le_trans h.below.size hg.size, fun k hk => absurd hk (by omega)⟩,
  fun g hl hs => (hg.block g (Nat.lt_of_lt_of_le hl h.below.size) (fun e => by rcases hr g e.symm with h1 | h1; exact hs h1; omega)).trans (h.block g hl hs)⟩
theorem Kept.cell (h : Kept S w w') {p : Addr} (hl : p.block < w.heap.size) (hs : ¬ S p.block) : w'.cell? p = w.cell? p := World.cell?_of_block (h.block _ hl hs)
theorem Kept.blk (h : Kept S w w') {g : Nat} {t : TypeId} {cs : Array Value} (hb : Blk w g t cs) (hs : ¬ S g) : Blk w' g t cs := (h.block g hb.lt hs).trans hb
theorem Kept.own (h : Kept S w w') {base size n : Nat} {e : TypeId} {u : Value} {xs : List Value} (ho : w.ownsRow base e size u n xs) (hs : ∀ g, u.ownBlock = some g → ¬ S g) : w'.ownsRow base e size u n xs := by
 obtain ⟨h1, h2⟩ := ho; refine ⟨h1, ?_⟩; rcases h2 with h2 | ⟨g, cap, cur, rfl, h4, h5, h6⟩
 ·exact .inl h2
 ·have hl : g < w.heap.size := by
   rcases Nat.lt_or_ge g w.heap.size with hlt | hge
   ·exact hlt
   ·rw [Array.getElem?_eq_none hge] at h5; cases h5
  exact .inr ⟨g, cap, cur, rfl, h4, by rw [h.block g hl (hs g rfl)]; exact h5, h6⟩
theorem own_lt' {base size n : Nat} {e : TypeId} {u : Value} {xs : List Value} (h : w.ownsRow base e size u n xs) {g : Nat} (hg : u.ownBlock = some g) : g < w.heap.size ∧ base ≤ g := by
 rcases h.2 with ⟨rfl, _⟩ | ⟨g', cap, cur, rfl, h4, h5, _⟩
 ·simp [Value.ownBlock] at hg
 ·simp [Value.ownBlock] at hg; subst hg; refine ⟨?_, h4⟩; rcases Nat.lt_or_ge g' w.heap.size with hlt | hge
  ·exact hlt
  ·rw [Array.getElem?_eq_none hge] at h5; cases h5
theorem own_ne {base base' size size' n n' : Nat} {e e' : TypeId} {u v : Value} {xs ys : List Value} (h : w.ownsRow base e size u n xs) (k : w.ownsRow base' e' size' v n' ys) (hne : e ≠ e') {g : Nat} (hg : u.ownBlock = some g) : v.ownBlock ≠ some g := by
 intro hv; rcases h.2 with ⟨rfl, _⟩ | ⟨g1, _, c1, rfl, _, h5, _⟩
 ·simp [Value.ownBlock] at hg
 ·rcases k.2 with ⟨rfl, _⟩ | ⟨g2, _, c2, rfl, _, k5, _⟩
  ·simp [Value.ownBlock] at hv
  ·simp [Value.ownBlock] at hg hv; subst hg hv; rw [h5] at k5; injection k5 with k5
   injection k5 with _ k5
   exact hne k5
theorem own_map_ne {base size n : Nat} {e : TypeId} {u : Value} {xs : List Value} {P : Program} {k : TypeId} {R : Value → Option (DataW Unit × List MemPlace)} {b m : Nat} {D : DataW Unit}
  (h : w.ownsRow base e size u n xs) (hm : w.ownsMap P k R b m D) : u.ownBlock ≠ some b := by
 intro hv; rcases h.2 with ⟨rfl, _⟩ | ⟨g1, _, c1, rfl, _, h5, _⟩
 ·simp [Value.ownBlock] at hv
 ·simp [Value.ownBlock] at hv; subst hv; obtain ⟨es, clock, hb, _⟩ := hm; rw [h5] at hb; injection hb with hb
  cases hb
theorem blk_map_ne {g : Nat} {t : TypeId} {cs : Array Value} {P : Program} {k : TypeId} {R : Value → Option (DataW Unit × List MemPlace)} {b m : Nat} {D : DataW Unit} (h : Blk w g t cs) (hm : w.ownsMap P k R b m D) : g ≠ b := by
 rintro rfl; obtain ⟨es, clock, hb, _⟩ := hm; unfold Blk at h; rw [h] at hb; injection hb with hb
 cases hb
theorem own_blk_ne' {base size n : Nat} {e : TypeId} {u : Value} {xs : List Value} {g : Nat} {t : TypeId} {cs : Array Value} (h : w.ownsRow base e size u n xs) (hb : Blk w g t cs) (hne : e ≠ t) : u.ownBlock ≠ some g := by
 intro hv; rcases h.2 with ⟨rfl, _⟩ | ⟨g1, _, c1, rfl, _, h5, _⟩
 ·simp [Value.ownBlock] at hv
 ·simp [Value.ownBlock] at hv; subst hv; unfold Blk at hb; rw [h5] at hb; injection hb with hb
  injection hb with _ hb
  exact hne hb
theorem Kept.map (h : Kept S w w') {P : Program} {k : TypeId} {R : Value → Option (DataW Unit × List MemPlace)} {b n : Nat} {D : DataW Unit} (hm : w.ownsMap P k R b n D) (hs : ¬ S b) : w'.ownsMap P k R b n D := by
 have hl := hm.lt; obtain ⟨es, clock, hb, r⟩ := hm; exact ⟨es, clock, (h.block b hl hs).trans hb, r⟩
end

theorem below_new (w : World) (o : Obj) : Below w.heap.size w (w.alloc o) := (Below.refl _ _).alloc (Nat.le_refl _) _
structure Hd where
 lv : Int
 A : Option Addr
 c : Nat
 zs : List Int
def Hd.val (h : Hd) : Value := .slice h.A h.zs.length h.c
def Hd.cells (h : Hd) : List Value := [.int .i64 h.lv, .slice h.A h.zs.length h.c]
def Hd.nd (h : Hd) : Nd := (h.lv, h.zs)
theorem hd2 : ∀ (hs : List Hd) (k : Nat) (hk : k < hs.length), (hs.flatMap Hd.cells)[2 * k]? = some (.int .i64 hs[k].lv) ∧ (hs.flatMap Hd.cells)[2 * k + 1]? = some (.slice hs[k].A hs[k].zs.length hs[k].c)
 | p :: ps, 0, _ => by simp [Hd.cells]
 | p :: ps, k + 1, hk => by
  have h := hd2 ps k (by simpa using hk); have e1 : 2 * (k + 1) = (2 * k) + 1 + 1 := by omega
  have e2 : 2 * (k + 1) + 1 = (2 * k + 1) + 1 + 1 := by omega
  simp only [List.flatMap_cons, Hd.cells, List.cons_append, List.nil_append, e1, List.getElem?_cons_succ, List.getElem_cons_succ]; exact h
theorem hd_len : ∀ hs : List Hd, (hs.flatMap Hd.cells).length = hs.length * 2
 | [] => rfl
 | p :: r => by rw [List.flatMap_cons, List.length_append, hd_len r]; simp [Hd.cells]; omega
def Nds (w : World) (A : Option Addr) (hs : List Hd) : Prop := Reads w w.heap.size 2 A hs.length (hs.flatMap Hd.cells) ∧ hs.length ≤ 9223372036854775807 ∧ ∀ h ∈ hs, Ints w h.A h.zs
section
variable {w w' : World} {A : Option Addr} {hs : List Hd}
theorem Nds.at_ {k : Nat} (h : Nds w A hs) (hk : k < hs.length) : ∃ b o, A = some ⟨b, o, none⟩ ∧ b < w.heap.size ∧ w.cell? ⟨b, o + k * 2, none⟩ = some (.int .i64 hs[k].lv) ∧ w.cell? ⟨b, o + k * 2 + 1, none⟩ = some (.slice hs[k].A hs[k].zs.length hs[k].c) ∧ Ints w hs[k].A hs[k].zs := by
 obtain ⟨ad, e, hb, hc⟩ := h.1.2 (by omega); obtain ⟨f1, f2⟩ := hd2 hs k hk; obtain ⟨f0, _⟩ := hd2 hs 0 (by omega); have h0 := hc _ _ f0; obtain ⟨b, o, sp⟩ := ad; obtain rfl := spot_none h0; refine ⟨b, o, e, hb, ?_, ?_, h.2.2 _ (List.getElem_mem hk)⟩
 ·rw [Nat.mul_comm]; have := hc _ _ f1; rwa [addr_add] at this
 ·rw [Nat.mul_comm]; have := hc _ _ f2; rwa [addr_add] at this
theorem Nds.le (h : Nds w A hs) : hs.length ≤ 9223372036854775807 := h.2.1
theorem Nds.ext (h : Nds w A hs) (hb : Below w.heap.size w w') : Nds w' A hs := ⟨(Reads.below h.1 hb).more hb.size, h.2.1, fun x hx => (h.2.2 x hx).ext hb⟩
theorem Nds.drewN (h : Nds w A hs) (n : Nat) : Nds (w.drewN n) A hs := h
theorem Nds.nil : Nds w A [] := ⟨Reads.none_, by simp, fun _ h => absurd h (by simp)⟩
end
theorem own_down {w : World} {base base' size n : Nat} {e : TypeId} {u : Value} {xs : List Value} (h : w.ownsRow base e size u n xs) (hB : base' ≤ base) : w.ownsRow base' e size u n xs := by
 obtain ⟨h1, h2⟩ := h; refine ⟨h1, ?_⟩; rcases h2 with h2 | ⟨g, cap, cur, h3, h4, h5⟩
 ·exact .inl h2
 ·exact .inr ⟨g, cap, cur, h3, Nat.le_trans hB h4, h5⟩
theorem OwnI.down {I : TypeId} {w : World} {base base' : Nat} {v : Value} {zs : List Int} (h : OwnI I w base v zs) (hB : base' ≤ base) : OwnI I w base' v zs := own_down h hB
theorem OwnP.down {I : TypeId} {w : World} {base base' : Nat} {v : Value} {zs : List (Int × Int)} (h : OwnP I w base v zs) (hB : base' ≤ base) : OwnP I w base' v zs := own_down h hB
def OwnN (T I : TypeId) (w : World) (base : Nat) (v : Value) (hs : List Hd) : Prop := w.ownsRow base T 2 v hs.length (hs.flatMap Hd.cells) ∧ ∀ h ∈ hs, OwnI I w base h.val h.zs
section
variable {T I : TypeId} {w w' : World} {base : Nat} {v : Value} {hs : List Hd}
theorem OwnN.nil (T I : TypeId) (w : World) (base : Nat) : OwnN T I w base (.slice none 0 0) [] := ⟨World.ownsRow_nil _ _ _ _, fun _ h => absurd h (by simp)⟩
theorem OwnI.reads {A : Option Addr} {n c : Nat} {zs : List Int} (h : OwnI I w base (.slice A n c) zs) : Ints w A zs := by
 obtain ⟨A', c', e, hi, _⟩ := h.ints; injection e with e1 e2 e3
 subst e1; exact hi
theorem OwnN.nds (h : OwnN T I w base v hs) : ∃ A c, v = .slice A hs.length c ∧ Nds w A hs ∧ NewA base A := by
 obtain ⟨A, c, e, h1, h2⟩ := own_form h.1; exact ⟨A, c, e, ⟨h1.1, h1.2, fun x hx => OwnI.reads (h.2 x hx)⟩, h2⟩
theorem OwnN.ext (h : OwnN T I w base v hs) (hb : Below w.heap.size w w') : OwnN T I w' base v hs := ⟨own_below h.1 hb, fun x hx => (h.2 x hx).ext hb⟩
theorem OwnN.drewN (h : OwnN T I w base v hs) (n : Nat) : OwnN T I (w.drewN n) base v hs := h
theorem OwnN.kept (h : OwnN T I w base v hs) {S : Nat → Prop} (hk : Kept S w w') (hv : ∀ g, v.ownBlock = some g → ¬ S g) (hz : ∀ x ∈ hs, ∀ g, x.val.ownBlock = some g → ¬ S g) : OwnN T I w' base v hs :=
 ⟨hk.own h.1 hv, fun x hx => hk.own (h.2 x hx) (hz x hx)⟩
end

def Known (D : DataW Unit) (ns : List Nd) : Prop := IsMap D ∧ ∀ x : Nd, Maps.has D (.string (keyB x)) = (posOf ns x).isSome ∧ ∀ i, posOf ns x = some i → D.atKey (.string (keyB x)) (.lit (.int .i64 0)) = .lit (.int .i64 i)
theorem Known.nil : Known (.map []) [] := ⟨isMap_empty, fun x => ⟨rfl, fun i h => by cases h⟩⟩
theorem Known.push {D : DataW Unit} {ns : List Nd} (h : Known D ns) {x : Nd} (hx : posOf ns x = none) : Known (D.put (.string (keyB x)) (.lit (.int .i64 ns.length))) (ns ++ [x]) := by
 have hk : WideAt.IsKeyLit (.string (keyB x)) := trivial; refine ⟨h.1.put _ _, fun y => ?_⟩; rw [posOf_snoc]; by_cases e : x = y
 ·subst e; rw [hx, if_pos rfl]; refine ⟨has_put_same h.1 hk _, fun i hi => ?_⟩; simp at hi; subst hi; exact atKey_put_same h.1 hk _ _
 ·have hne : (Lit.string (keyB y)) ≠ .string (keyB x) := by
   intro he; injection he with he
   exact e (key_inj he).symm
  rw [if_neg e, Option.or_none, has_put_other hne]; refine ⟨(h.2 y).1, fun i hi => ?_⟩; rw [atKey_put_other hne]; exact (h.2 y).2 i hi

theorem Tryd.law : Keyed Tryd.prog 9 := string_keyed Tryd.underlying9
theorem Tryd.zeroInt (w : World) : (zeroValue 3).run Tryd.prog w = .ok (.int .i64 0) w := by kernel_rfl
theorem Tryd.infoNode : (Tryd.prog.info? 50).map (fun i => (i.zero, i.size, i.bytes)) = some (some (.agg #[.int .i64 0, .slice none 0 0]), 2, 32) := by kernel_rfl
theorem Tryd.infoInt : (Tryd.prog.info? 3).map (fun i => (i.zero, i.size, i.bytes)) = some (some (.int .i64 0), 1, 8) := by kernel_rfl
theorem Tryd.infoPt : (Tryd.prog.info? 67).map (fun i => (i.zero, i.size, i.bytes)) = some (some (.agg #[.int .i64 0, .int .i64 0]), 2, 16) := by kernel_rfl
theorem Tryd.infoByte : (Tryd.prog.info? 5).map (fun i => (i.zero, i.size, i.bytes)) = some (some (.int .u8 0), 1, 1) := by kernel_rfl
abbrev MapA (w : World) (M n : Nat) (D : DataW Unit) : Prop := w.ownsMap Tryd.prog 9 (plainElem Tryd.prog 3) M n D
abbrev OwnIA (w : World) (base : Nat) (v : Value) (zs : List Int) : Prop := OwnI 3 w base v zs
abbrev OwnNA (w : World) (base : Nat) (v : Value) (hs : List Hd) : Prop := OwnN 50 3 w base v hs
structure Bld (B p M : Nat) (T : TypeId) (cs : Array Value) (nv : Value) (hs : List Hd) (D : DataW Unit) (w : World) : Prop where
 blk : Blk w p T cs
 c0 : cs[0]? = some nv
 c1 : cs[1]? = some (.map (some M))
 own : OwnNA w B nv hs
 map : MapA w M hs.length D
 known : Known D (hs.map Hd.nd)
 bp : B ≤ p
 bm : B ≤ M
def BldS (p M : Nat) (nv : Value) : Nat → Prop := fun g => g = p ∨ g = M ∨ nv.ownBlock = some g
theorem Bld.kept {B p M : Nat} {T : TypeId} {cs : Array Value} {nv : Value} {hs : List Hd} {D : DataW Unit} {w w' : World} {S : Nat → Prop} (h : Bld B p M T cs nv hs D w) (hk : Kept S w w')
  (h1 : ¬ S p) (h2 : ¬ S M) (h3 : ∀ g, nv.ownBlock = some g → ¬ S g) (h4 : ∀ x ∈ hs, ∀ g, x.val.ownBlock = some g → ¬ S g) : Bld B p M T cs nv hs D w' :=
 ⟨hk.blk h.blk h1, h.c0, h.c1, h.own.kept hk h3 h4, hk.map h.map h2, h.known, h.bp, h.bm⟩
theorem Bld.ext {B p M : Nat} {T : TypeId} {cs : Array Value} {nv : Value} {hs : List Hd} {D : DataW Unit} {w w' : World} (h : Bld B p M T cs nv hs D w) (hb : Below w.heap.size w w') : Bld B p M T cs nv hs D w' :=
 h.kept (Kept.of_new (fun _ => False) hb) (fun h => h) (fun h => h) (fun _ _ h => h) (fun _ _ _ _ h => h)
theorem wpList_pushN {P : Program} {wr : World} {ops : Array Oper} {rest : List Oper} {o : Oper} {a : Act} {Q : Exit → Act → World → Prop} (hgd : o.guard = none) (s x : Operand) (t : TypeId)
  (ho : o.op = .call { callee := .builtin .append, args := #[s, x], argTypes := #[t, t] })
  (base : Nat) (T I : TypeId) (hTI : I ≠ T) (ht : P.underlying t = some (.slice T)) (hi : (P.info? T).map (fun i => (i.zero, i.size, i.bytes)) = some (some (.agg #[.int .i64 0, .slice none 0 0]), 2, 32))
  (v : Value) (hs : List Hd) (hse : a.eval s = v) (hown : OwnN T I wr base v hs)
  (lv : Int) (A : Option Addr) (c : Nat) (zs : List Int) (hI : OwnI I wr base (.slice A zs.length c) zs) (hx : a.eval x = .slice (some ⟨wr.heap.size, 0, none⟩) 1 1)
  (hn : hs.length < 1000000000000) (hbase : base ≤ wr.heap.size)
  (h : ∀ v' w', OwnN T I w' base v' (hs ++ [⟨lv, A, c, zs⟩]) → Kept (fun g => v.ownBlock = some g) wr w' → (v'.ownBlock = v.ownBlock ∨ ∃ g, v'.ownBlock = some g ∧ wr.heap.size ≤ g) → wpList P ops Q rest (a.put o.dst v') w') :
  wpList P ops Q (o :: rest) a (wr.alloc (.cells #[.int .i64 lv, .slice A zs.length c] T)) := by
 obtain ⟨i0, hi0, hz0, hz1, hz2⟩ := info_parts hi; refine wpList_append_own_at _ hgd s x t ho base T i0 _ 2 32 ht hi0 hz0 hz1 hz2 rfl (by decide) v hs.length _ hse (hown.1.alloc _) ⟨wr.heap.size, 0, none⟩ 1 1 [.int .i64 lv, .slice A zs.length c] hx (by simp) ?_ (by simp [Value.oneCell']) (by unfold maxLen; omega) (by omega) (by simp; omega) ?_
 ·intro j u hu; rw [addr_add]; have : (wr.alloc (.cells #[.int .i64 lv, .slice A zs.length c] T)).cell? ⟨wr.heap.size, 0 + j, none⟩ = #[Value.int .i64 lv, .slice A zs.length c][0 + j]? := cell_of_row _ _ _ _ _ _ (heap_alloc_new wr _); rw [this]; simpa using hu
 ·intro v' w' hown' hg _ hat; have hk : Kept (fun g => v.ownBlock = some g) wr w' := ((Kept.refl _ wr).alloc _).grown hg fun g hg => Or.inl hg; refine h v' w' ⟨?_, fun y hy => ?_⟩ hk ?_
  ·rw [List.length_append, List.flatMap_append]; exact hown'
  ·have hy1 : OwnI I wr base y.val y.zs := by
    rcases List.mem_append.1 hy with hy | hy
    ·exact hown.2 y hy
    ·rw [List.mem_singleton] at hy; subst hy; exact hI
   exact hk.own hy1 fun g hg hv => own_ne hy1 hown.1 hTI hg hv
  ·rcases hat with hat | hat
   ·exact .inl hat
   ·exact .inr ⟨_, hat, by simp⟩
theorem wpList_pushNn {P : Program} {wr : World} {ops : Array Oper} {rest : List Oper} {o : Oper} {a : Act} {Q : Exit → Act → World → Prop} (hgd : o.guard = none) (s x : Operand) (t : TypeId)
  (ho : o.op = .call { callee := .builtin .append, args := #[s, x], argTypes := #[t, t] })
  (base : Nat) (T I : TypeId) (hTI : I ≠ T) (ht : P.underlying t = some (.slice T)) (hi : (P.info? T).map (fun i => (i.zero, i.size, i.bytes)) = some (some (.agg #[.int .i64 0, .slice none 0 0]), 2, 32))
  (v : Value) (hs : List Hd) (hse : a.eval s = v) (hown : OwnN T I wr base v hs)
  (lv : Int) (A : Option Addr) (n c : Nat) (zs : List Int) (hnz : Hid (n = zs.length)) (hI : OwnI I wr base (.slice A n c) zs) (hx : a.eval x = .slice (some ⟨wr.heap.size, 0, none⟩) 1 1)
  (hn : hs.length < 1000000000000) (hbase : base ≤ wr.heap.size)
  (h : ∀ v' w', OwnN T I w' base v' (hs ++ [⟨lv, A, c, zs⟩]) → Kept (fun g => v.ownBlock = some g) wr w' → (v'.ownBlock = v.ownBlock ∨ ∃ g, v'.ownBlock = some g ∧ wr.heap.size ≤ g) → wpList P ops Q rest (a.put o.dst v') w') :
  wpList P ops Q (o :: rest) a (wr.alloc (.cells #[.int .i64 lv, .slice A n c] T)) := by
 have := hnz.out; subst this; exact wpList_pushN hgd s x t ho base T I hTI ht hi v hs hse hown lv A c zs hI hx hn hbase h
theorem wpList_pushIk {P : Program} {wr : World} {ops : Array Oper} {rest : List Oper} {o : Oper} {a : Act} {Q : Exit → Act → World → Prop} (hgd : o.guard = none) (s x : Operand) (t : TypeId)
  (ho : o.op = .call { callee := .builtin .append, args := #[s, x], argTypes := #[t, t] })
  (base : Nat) (e : TypeId) (ht : P.underlying t = some (.slice e)) (hi : (P.info? e).map (fun i => (i.zero, i.size, i.bytes)) = some (some (.int .i64 0), 1, 8))
  (v : Value) (zs : List Int) (hs : a.eval s = v) (hown : OwnI e wr base v zs)
  (z : Int) (hx : a.eval x = .slice (some ⟨wr.heap.size, 0, none⟩) 1 1)
  (hn : zs.length < 1000000000000) (hbase : base ≤ wr.heap.size)
  (h : ∀ v' w', OwnI e w' base v' (zs ++ [z]) → Kept (fun g => v.ownBlock = some g) wr w' → (v'.ownBlock = v.ownBlock ∨ ∃ g, v'.ownBlock = some g ∧ wr.heap.size ≤ g) → wpList P ops Q rest (a.put o.dst v') w') :
  wpList P ops Q (o :: rest) a (wr.alloc (.cells #[.int .i64 z] e)) := by
 obtain ⟨i0, hi0, hz0, hz1, hz2⟩ := info_parts hi; have hown0 : wr.ownsRow base e 1 v zs.length (zs.map (Value.int .i64)) := hown; refine wpList_append_own_at _ hgd s x t ho base e i0 (.int .i64 0) 1 8 ht hi0 hz0 hz1 hz2 rfl (by decide) v zs.length _ hs (hown0.alloc _) ⟨wr.heap.size, 0, none⟩ 1 1 [.int .i64 z] hx (by simp) ?_ (by simp [Value.oneCell']) (by unfold maxLen; omega) (by omega) (by simp; omega) ?_
 ·intro j u hu; rw [addr_add]; have : (wr.alloc (.cells #[.int .i64 z] e)).cell? ⟨wr.heap.size, 0 + j, none⟩ = #[Value.int .i64 z][0 + j]? := cell_of_row _ _ _ _ _ _ (heap_alloc_new wr _); rw [this]; cases j with
  | zero => simpa using hu
  | succ j => simp at hu
 ·intro v' w' hown' hg _ hat; refine h v' w' ?_ (((Kept.refl _ wr).alloc _).grown hg fun g hg => Or.inl hg) ?_
  ·unfold OwnI; rw [List.length_append, List.map_append]; exact hown'
  ·rcases hat with hat | hat
   ·exact .inl hat
   ·exact .inr ⟨_, hat, by simp⟩

def OwnB (w : World) (base : Nat) (v : Value) (l : List UInt8) : Prop := w.ownsRow base 5 1 v l.length (Lib.byteCells l)
theorem OwnB.nil (w : World) (base : Nat) : OwnB w base (.slice none 0 0) [] := World.ownsRow_nil _ _ _ _
theorem OwnB.ext {w w' : World} {base : Nat} {v : Value} {l : List UInt8} (h : OwnB w base v l) (hb : Below w.heap.size w w') : OwnB w' base v l := own_below h hb
theorem OwnB.form {w : World} {base : Nat} {v : Value} {l : List UInt8} (h : OwnB w base v l) : ∃ A c, v = .slice A l.length c := by
 obtain ⟨A, c, h1, -, -⟩ := own_form h; exact ⟨A, c, h1⟩
theorem wpList_pushB {wr : World} {ops : Array Oper} {rest : List Oper} {o : Oper} {a : Act} {Q : Exit → Act → World → Prop} (hgd : o.guard = none) (s x : Operand)
  (ho : o.op = .call { callee := .builtin .append, args := #[s, x], argTypes := #[102, 102] })
  (base : Nat) (v : Value) (l : List UInt8) (hs : a.eval s = v) (hown : OwnB wr base v l)
  (c : UInt8) (z : Int) (hz : z = (c.toNat : Int)) (hx : a.eval x = .slice (some ⟨wr.heap.size, 0, none⟩) 1 1)
  (hn : l.length < 1000000000000) (hbase : base ≤ wr.heap.size)
  (h : ∀ v' w', OwnB w' base v' (l ++ [c]) → Below base wr w' → (∀ g t' cs, 5 ≠ t' → Blk wr g t' cs → Blk w' g t' cs) → wpList Tryd.prog ops Q rest (a.put o.dst v') w') :
  wpList Tryd.prog ops Q (o :: rest) a (wr.alloc (.cells #[.int .u8 z] 5)) := by
 subst hz; obtain ⟨i0, hi0, hz0, hz1, hz2⟩ := info_parts Tryd.infoByte; refine wpList_append_own _ hgd s x _ ho base 5 i0 _ 1 1 Tryd.underlying102 hi0 hz0 hz1 hz2 rfl (by decide) v l.length (Lib.byteCells l) hs (World.ownsRow.alloc hown _) ⟨wr.heap.size, 0, none⟩ 1 1 [.int .u8 c.toNat] hx rfl ?_ (by simp [Value.oneCell']) (by unfold maxLen; omega) (by omega) (by simp; omega) ?_
 ·intro j u hu; rw [addr_add]; have : (wr.alloc (.cells #[.int .u8 c.toNat] 5)).cell? ⟨wr.heap.size, 0 + j, none⟩ = (#[.int .u8 c.toNat] : Array Value)[0 + j]? := cell_of_row _ _ _ _ _ _ (heap_alloc_new wr _); rw [this]; simpa using hu
 ·intro v' w' hown' hg _; have hrow : ∀ k, v.ownBlock = some k → base ≤ k ∧ ∃ cur, wr.heap[k]? = some (.cells cur 5 (0, 0)) := by
   intro k hk; rcases hown.2 with ⟨rfl, _⟩ | ⟨g, cap, cur, rfl, h4, h5, _⟩
   ·simp [Value.ownBlock] at hk
   ·simp [Value.ownBlock] at hk; subst hk; exact ⟨h4, cur, h5⟩
  refine h v' w' (by unfold OwnB Lib.byteCells; rw [List.length_append, List.map_append]; exact hown') ?_ ?_
  ·exact ((Below.refl base wr).alloc hbase _).grown hg (by simp; omega) (fun k hk => (hrow k hk).1)
  ·intro g t' cs hne hb; exact (hb.alloc _).grown hg (fun e' => by
    obtain ⟨-, cur, hc⟩ := hrow g e'.symm; unfold Blk at hb; rw [hb] at hc; injection hc with hc
    injection hc with _ hc
    exact hne hc.symm)
theorem back_nil (w : World) (c : Nat) : (convert 102 9 (.slice none 0 c)).run Tryd.prog w = .ok (.string ⟨#[]⟩) w := by
 rw [run_convert_bytes_string w _ _ 5 none 0 c Tryd.underlying102 Tryd.underlying5 Tryd.underlying9]; simp [Conv.bytesToString]; rfl
theorem back_any {w : World} {base : Nat} {A : Option Addr} {c : Nat} {l : List UInt8} (h : OwnB w base (.slice A l.length c) l) :
  (convert 102 9 (.slice A l.length c)).run Tryd.prog w = .ok (.string ⟨l.toArray⟩) w := by
 rcases h.2 with ⟨h1, h2⟩ | ⟨g, cap, cur, hv, -⟩
 ·obtain rfl := List.eq_nil_of_length_eq_zero h2; injection h1 with h1 _ h3
  subst h1 h3; exact back_nil w 0
 ·injection hv with h1 h2 h3
  subst h1; refine run_convert_bytes_back w _ _ 5 ⟨g, 0, none⟩ c l Tryd.underlying102 Tryd.underlying5 Tryd.underlying9 fun j hj => ?_; have h4 := World.ownsRow.cells h rfl j (.int .u8 (l[j].toNat : Int)) (by simp [Lib.byteCells, hj]); simpa using h4
def TabB (B : Nat) (w : World) : Prop := Lib.TabBelow Tryd.prog B w "internal/strconv.uint64pow10" .u64 Lib.pow10Tab
theorem TabB.on {B : Nat} {w w' : World} (h : TabB B w) (hb : Below B w w') : TabB B w' := Lib.TabBelow.on h hb
theorem TabB.up {B B' : Nat} {w : World} (h : TabB B w) (hb : B ≤ B') : TabB B' w := fun w' h' => h w' ⟨h'.os, h'.tape, h'.output, h'.size, fun k hk => h'.block k (by omega)⟩
theorem appInt (B : Nat) (l : List UInt8) (i : Int) (v : Value) (w : World) (ho : OwnB w B v l) (hB : B ≤ w.heap.size) (hl : l.length ≤ 1000000) (h0 : -9223372036854775808 ≤ i) (h1 : i ≤ 9223372036854775807) (ht : TabB B w) :
  Calls Tryd.prog 71 #[v, .int .i64 i, .int .i64 10] w fun e w' => ∃ v', e = .returned v' ∧ OwnB w' B v' (l ++ Lib.itoa i) ∧ Below B w w' := by
 refine (Tryd.strconv_AppendInt_10 B l.length i h0 h1 v (Lib.byteCells l) w ho hB (by omega) ht).mono ?_; rintro e w' ⟨v', rfl, h, hb, -⟩; refine ⟨v', rfl, ?_, hb⟩; unfold OwnB; rw [List.length_append, show Lib.byteCells (l ++ Lib.itoa i) = Lib.byteCells l ++ Lib.byteCells (Lib.itoa i) by simp [Lib.byteCells]]; exact h
theorem itoa_len21 {i : Int} (h0 : -9223372036854775808 ≤ i) (h1 : i ≤ 9223372036854775807) : (Lib.itoa i).length ≤ 21 := Lib.itoa_length_le i h0 h1
theorem tail_len : ∀ (zs : List Int), (∀ z ∈ zs, -9223372036854775808 ≤ z ∧ z ≤ 9223372036854775807) → (tailB zs).length ≤ 22 * zs.length
 | [], _ => by simp [tailB]
 | z :: r, h => by
  have h1 := tail_len r fun x hx => h x (by simp [hx]); have h2 := itoa_len21 (h z (by simp)).1 (h z (by simp)).2; simp only [tailB, List.flatMap_cons, List.length_append, List.length_cons] at h1 ⊢; omega
theorem key_len {x : Nd} (h0 : -9223372036854775808 ≤ x.1 ∧ x.1 ≤ 9223372036854775807) (h : ∀ z ∈ x.2, -9223372036854775808 ≤ z ∧ z ≤ 9223372036854775807) : (keyB x).length ≤ 21 + 22 * x.2.length := by
 unfold keyB; rw [List.length_append]; have := tail_len x.2 h; have := itoa_len21 h0.1 h0.2; omega
theorem key_snoc (lv : Int) (zs : List Int) (k : Nat) (hk : k < zs.length) : keyB (lv, zs.take (k + 1)) = keyB (lv, zs.take k) ++ [32] ++ Lib.itoa zs[k] := by
 unfold keyB; rw [List.take_succ_eq_append_getElem hk]; simp only [tail_snoc, List.append_assoc]; rfl

set_option maxHeartbeats 4000000 in
theorem node_any (B p M : Nat) (T : TypeId) (cs : Array Value) (nv : Value) (hs : List Hd) (D : DataW Unit) (w : World) (hb : Bld B p M T cs nv hs D w) (hB : B ≤ w.heap.size) (ht : TabB B w)
  (A : Option Addr) (c : Nat) (zs : List Int) (lv : Int) (ho : OwnIA w B (.slice A zs.length c) zs) (hz : ∀ z ∈ zs, 0 ≤ z ∧ z ≤ 1000000000000) (hl : 0 ≤ lv ∧ lv ≤ 1000000000000) (hzl : zs.length ≤ 1000)
  (hn : hs.length < 1000000000000) (hT : T ≠ 50) (hT2 : T ≠ 3) :
  Calls Tryd.prog 65 #[.pointer (some ⟨p, 0, none⟩), .int .i64 lv, .slice A zs.length c] w fun e w' => ∃ nv' hs' D' cs', e = .returned (.int .i64 ((addN (hs.map Hd.nd) (lv, zs)).1 : Nat)) ∧
   Bld B p M T cs' nv' hs' D' w' ∧ hs'.map Hd.nd = (addN (hs.map Hd.nd) (lv, zs)).2 ∧ Kept (BldS p M nv) w w' ∧ (nv'.ownBlock = nv.ownBlock ∨ ∃ g, nv'.ownBlock = some g ∧ w.heap.size ≤ g) ∧
   (∀ i, 1 ≤ i → cs'[i]? = cs[i]?) ∧ ∀ x ∈ hs', x ∈ hs ∨ x = ⟨lv, A, c, zs⟩ := by
 have hi := ho.reads; have hz2 : ∀ z ∈ zs, -9223372036854775808 ≤ z ∧ z ≤ 9223372036854775807 := fun z h => by have := hz z h; omega
 have HT0 := Lib.hid (ht.up hB); have HI := Lib.hid hi; have HZ := Lib.hid hz2; have HBL := Lib.hid hb; have HA0 := Lib.hid (appInt w.heap.size [] lv (.slice none 0 0) w (OwnB.nil _ _) (Nat.le_refl _) (by simp) (by omega) (by omega) HT0.out); have hn1 := hi.le; clear hb ht hi hz hz2; go_enter Tryd.func65, Tryd.ntmps65; go_wp2_with (go_at_call 71; refine HA0.out.mono ?_); rintro e w1 ⟨v1, rfl, ho1, hb1⟩; clear HA0; rw [List.nil_append] at ho1; have HO1 := Lib.hid ho1; have HB1 := Lib.hid hb1; clear ho1 hb1; have hkl : ∀ k, (keyB (lv, zs.take k)).length ≤ 1000000 := fun k => by
  have := key_len (x := (lv, zs.take k)) (by dsimp only; omega) (fun z h => HZ.out z (List.mem_of_mem_take h)); have h2 : (zs.take k).length ≤ zs.length := by rw [List.length_take]; omega
  dsimp only at this; omega
 have HKL := Lib.hid hkl; clear hkl; go_wp2; go_loopw [7, 16] (fun kv i wr => ∃ k : Nat, k ≤ zs.length ∧ i = .int .i64 k ∧ Hid (OwnB wr w.heap.size kv (keyB (lv, zs.take k))) ∧ Hid (Below w.heap.size w wr)) (fun _ i _ => zs.length - (intOf i).toNat)
 case atStart => exact ⟨0, Nat.zero_le _, rfl, Lib.hid (by have := HO1.out; simpa [keyB, tailB] using this), HB1⟩
 case round =>
  clear HB1 HO1; obtain ⟨k, hk, rfl, HO, HB⟩ := hrel; by_cases hlt : k < zs.length
  ·obtain ⟨b1, o1, e1, hbl, hc0⟩ := (HI.out.ext HB.out).at_ hlt; have HK := Lib.hid (key_snoc lv zs k hlt); have HZ1 := Lib.hid (HZ.out zs[k] (List.getElem_mem hlt)); obtain ⟨z, hz⟩ : ∃ z, z = zs[k] := ⟨_, rfl⟩
   rw [← hz] at HK HZ1 hc0; have hw1 : wrap64 ((k : Int) + 1) = (k : Int) + 1 := by unfold wrap64; omega
   have hown3 := HO.out; have hbs3 := HB.out.size; have hln3 : (keyB (lv, zs.take k)).length < 1000000000000 := Nat.lt_of_le_of_lt (HKL.out k) (by decide); subst e1; clear hz; go_wp2_with (at_builtin; refine wpList_pushB rfl _ _ rfl w.heap.size _ _ rfl hown3 32 _ rfl rfl hln3 hbs3 ?_); intro v' w9 ho9 hb9 hk9; have HA9 := Lib.hid (appInt w.heap.size _ z v' w9 ho9 (Nat.le_trans HB.out.size hb9.size) (by rw [List.length_append]; have := HKL.out (k + 1); rw [HK.out, List.length_append, List.length_append] at this; omega) HZ1.out.1 HZ1.out.2 (HT0.out.on (HB.out.trans hb9))); have HB9 := Lib.hid (HB.out.trans hb9); clear ho9 hb9 hk9 hown3 hbs3 hln3; go_wp2_with (go_at_call 71; refine HA9.out.mono ?_); rintro e w2 ⟨v2, rfl, ho2, hb2⟩; rw [← HK.out] at ho2; have HO2 := Lib.hid ho2; have HB2 := Lib.hid (HB9.out.trans hb2); clear ho2 hb2 HA9; go_wp2; go_roundw
   case rel => exact ⟨k + 1, hlt, rfl, HO2, HB2⟩
   case measure => simp [intOf]; omega
  ·obtain rfl : k = zs.length := by omega
   have HO1 := HO; rw [List.take_length] at HO1; clear HO hk hlt; have HBw := Lib.hid (HBL.out.ext HB.out); obtain ⟨A7, c7, hv7⟩ := HO1.out.form; subst hv7; have HCV : ∀ n, (convert 102 9 (.slice A7 (keyB (lv, zs)).length c7)).run Tryd.prog (wr.drewN n) = .ok (.string ⟨(keyB (lv, zs)).toArray⟩) (wr.drewN n) := fun n => back_any (w := wr.drewN n) (HO1.out.ext (below_drewN (Below.refl _ _) n)); have HKS : (keyB (lv, zs)).length ≤ maxLen := by have := HKL.out zs.length; rw [List.take_length] at this; unfold maxLen; omega
   have HKY : keyOf Tryd.prog 9 (.string ⟨(keyB (lv, zs)).toArray⟩) = some (.string (keyB (lv, zs))) := WideMaps.keyOf_string_mk Tryd.underlying9 HKS; have HLK : ∀ n, ∃ v : Int, (Instr.lookup 85 (.map (some M)) (.string ⟨(keyB (lv, zs)).toArray⟩) true).run Tryd.prog (wr.drewN n) = .ok (.tuple #[.int .i64 v, .bool (Maps.has D (.string (keyB (lv, zs))))]) (wr.drewN n) ∧
     D.atKey (.string (keyB (lv, zs))) (.lit (.int .i64 0)) = .lit (.int .i64 v) := by
    intro n; have hm : MapA (wr.drewN n) M hs.length D := HBw.out.map; obtain ⟨v, ps, hrun, hat⟩ := hm.look_ok Tryd.law Tryd.underlying85 (Tryd.zeroInt _) (plainElem_int Tryd.underlying3 (by decide)) HKY; obtain ⟨x, rfl, hx, -⟩ := plainElem_int_inv Tryd.underlying3 hat; exact ⟨x, hrun, congrArg Prod.fst hx⟩
   have hc0 : wr.cell? ⟨p, 0, none⟩ = some nv := HBw.out.blk.cell_ 0 _ HBw.out.c0; have hc1 : wr.cell? ⟨p, 1, none⟩ = some (.map (some M)) := HBw.out.blk.cell_ 1 _ HBw.out.c1; obtain ⟨KS, hKS⟩ : ∃ KS : ByteArray, KS = ⟨(keyB (lv, zs)).toArray⟩ := ⟨_, rfl⟩
   obtain ⟨L, hL⟩ : ∃ L, L = (keyB (lv, zs)).length := ⟨_, rfl⟩
   rw [← hKS] at HCV HLK HKY; rw [← hL] at HCV; have hO1 := HO1.out; rw [← hL] at hO1; have HL := Lib.hid hL; have HKSe := Lib.hid hKS; have HO2 := Lib.hid hO1; have HKS2 := Lib.hid HKS; have HKY2 := Lib.hid HKY; have HKN := Lib.hid (HBw.out.known.2 (lv, zs)); rw [← hL]; clear hL hKS hO1 HO1 HKS HKY; cases hpo : posOf (hs.map Hd.nd) (lv, zs) with
   | some i =>
    have HH : Maps.has D (.string (keyB (lv, zs))) = true := by have := HKN.out.1; rw [hpo] at this; exact this
    have HV := HKN.out.2 i hpo; rw [HH] at HLK; have hlk : ∀ n, (Instr.lookup 85 (.map (some M)) (.string KS) true).run Tryd.prog (wr.drewN n) = .ok (.tuple #[.int .i64 i, .bool true]) (wr.drewN n) := by
     intro n; obtain ⟨v, h1, h2⟩ := HLK n; rw [HV] at h2; injection h2 with h2
     injection h2 with _ h2
     rw [h1, h2]
    have HE : Hid ((addN (hs.map Hd.nd) (lv, zs)) = (i, hs.map Hd.nd)) := Lib.hid (by unfold addN; rw [hpo]); clear HLK HV HH hpo HKN; go_wp2; go_quiet (fail)
    go_wp2; go_ret; refine ⟨nv, hs, D, cs, by rw [HE.out] <;> rfl, HBw.out.ext (below_drewN (Below.refl _ _) _), by rw [HE.out], Kept.of_new _ (below_drewN HB.out _), .inl rfl, fun _ _ => rfl, fun x hx => .inl hx⟩
   | none =>
    have HH : Maps.has D (.string (keyB (lv, zs))) = false := by have := HKN.out.1; rw [hpo] at this; exact this
    rw [HH] at HLK; obtain ⟨v0, -, hv0⟩ := HLK 0; have hlk : ∀ n, (Instr.lookup 85 (.map (some M)) (.string KS) true).run Tryd.prog (wr.drewN n) = .ok (.tuple #[.int .i64 v0, .bool false]) (wr.drewN n) := by
     intro n; obtain ⟨v, h1, h2⟩ := HLK n; rw [hv0] at h2; injection h2 with h2
     injection h2 with _ h2
     rw [h1, h2]
    have HE : Hid ((addN (hs.map Hd.nd) (lv, zs)) = (hs.length, hs.map Hd.nd ++ [(lv, zs)])) := Lib.hid (by unfold addN; rw [hpo]; simp); have HPO := Lib.hid hpo; clear HLK hv0 HH hpo HKN; go_wp2; go_quiet (fail)
    obtain ⟨wq, hwq⟩ : ∃ wq, wq = wr.drewN nq := ⟨_, rfl⟩
    have HBq : Hid (Below w.heap.size w wq) := Lib.hid (by rw [hwq]; exact below_drewN HB.out _); have HBB : Hid (Bld B p M T cs nv hs D wq) := Lib.hid (by rw [hwq]; exact HBw.out.ext (below_drewN (Below.refl _ _) _)); have HOq : Hid (OwnB wq w.heap.size (.slice A7 L c7) (keyB (lv, zs))) := Lib.hid (by rw [hwq]; exact HO2.out.ext (below_drewN (Below.refl _ _) _)); have hcq0 : wq.cell? ⟨p, 0, none⟩ = some nv := HBB.out.blk.cell_ 0 _ HBB.out.c0; have hcq1 : wq.cell? ⟨p, 1, none⟩ = some (.map (some M)) := HBB.out.blk.cell_ 1 _ HBB.out.c1; have hfq := HBB.out.blk.frozen 0; rw [← hwq]; clear HBw HO2 HB hlk HCV hc0 hc1 hwq; have HIq : Hid (OwnIA wq B (.slice A zs.length c) zs) := Lib.hid (ho.ext HBq.out); have hbq := Nat.le_trans hB HBq.out.size; have hown := HBB.out.own; have hIq := HIq.out; go_wp2_with (at_builtin; refine wpList_pushN rfl _ _ _ rfl B 50 3 (by decide) Tryd.underlying23 Tryd.infoNode _ _ rfl hown _ _ _ _ hIq rfl hn hbq ?_); intro v9 w9 hN9 hK9 hA9; have hpne : ¬ nv.ownBlock = some p := own_blk_ne' hown.1 HBB.out.blk (fun e => hT e.symm); have hMne : ¬ nv.ownBlock = some M := own_map_ne hown.1 HBB.out.map; have hpM : p ≠ M := blk_map_ne HBB.out.blk HBB.out.map; have hb9 : Blk w9 p T cs := hK9.blk HBB.out.blk hpne; have hM9 : MapA w9 M hs.length D := hK9.map HBB.out.map hMne; have hO9 : OwnB w9 w.heap.size (.slice A7 L c7) (keyB (lv, zs)) := hK9.own HOq.out (fun g hg hv => own_ne HOq.out hown.1 (by decide) hg hv); obtain ⟨A9, c9, hv9, -, -⟩ := hN9.nds; rw [List.length_append, List.length_singleton] at hv9; have hcs : 0 < cs.size := (Array.getElem?_eq_some_iff.1 HBB.out.c0).1; obtain ⟨w10, hw10⟩ : ∃ w10, w10 = w9.setCell ⟨p, 0, none⟩ v9 := ⟨_, rfl⟩
    have hb10 : Blk w10 p T (cs.setIfInBounds 0 v9) := by rw [hw10]; exact hb9.set_ 0 v9
    have hM10 : MapA w10 M hs.length D := by rw [hw10]; exact hM9.setCell (a := ⟨p, 0, none⟩) (fun e => hpM e.symm) v9
    have hK10 : Kept (BldS p M nv) wq w10 := by rw [hw10]; exact (hK9.mono (S' := BldS p M nv) (fun g _ hg => Or.inr (Or.inr hg))).setCell (p := ⟨p, 0, none⟩) (Or.inl (Or.inl rfl)) v9
    have hplt : p < w.heap.size := HBL.out.blk.lt; have hO10 : OwnB w10 w.heap.size (.slice A7 L c7) (keyB (lv, zs)) := by
     rw [hw10]; refine ((Kept.refl (fun g => g = p) w9).setCell (p := ⟨p, 0, none⟩) (Or.inl rfl) v9).own hO9 fun g hg hgp => ?_; have := (own_lt' hO9 hg).2; subst hgp; omega
    have hN10 : OwnNA w10 B v9 (hs ++ [⟨lv, A, c, zs⟩]) := by
     rw [hw10]; refine OwnN.kept hN9 ((Kept.refl (fun g => g = p) w9).setCell (p := ⟨p, 0, none⟩) (Or.inl rfl) v9) (fun g hg hgp => ?_) (fun x hx g hg hgp => ?_)
     ·subst hgp; exact own_blk_ne' hN9.1 hb9 (fun e => hT e.symm) hg
     ·subst hgp; exact own_blk_ne' (hN9.2 x hx) hb9 (fun e => hT2 e.symm) hg
    obtain ⟨w11, hrun, hM11, hg11⟩ := World.ownsMap.update (w := w10.drew) hM10.drew Tryd.law Tryd.underlying85 (by unfold maxLen; omega) HKY2.out (plainElem_int (q := .i64) (a := (hs.length : Int)) Tryd.underlying3 (WalkArith.wf_i64 (by omega))); have hK11 : Kept (BldS p M nv) wq w11 := hK10.trans (((Kept.refl _ w10).drew).grown hg11 (fun g hg => Or.inl (Or.inr (Or.inl (by injection hg with hg; exact hg.symm))))); have hBld : Bld B p M T (cs.setIfInBounds 0 v9) v9 (hs ++ [⟨lv, A, c, zs⟩]) (D.put (.string (keyB (lv, zs))) (.lit (.int .i64 hs.length))) w11 := by
     have hk : Kept (fun g => g = M) w10.drew w11 := (Kept.refl _ w10.drew).grown hg11 (fun g hg => Or.inl (by injection hg with hg; exact hg.symm)); refine ⟨hk.blk (w := w10.drew) hb10 hpM, ?_, ?_, OwnN.kept (w := w10.drew) hN10 hk (fun g hg hgp => ?_) (fun x hx g hg hgp => ?_), ?_, ?_, HBL.out.bp, HBL.out.bm⟩
     ·simp [hcs]
     ·rw [Array.getElem?_setIfInBounds_ne (by omega)]; exact HBB.out.c1
     ·subst hgp; exact own_map_ne hN10.1 hM10 hg
     ·subst hgp; exact own_map_ne (hN10.2 x hx) hM10 hg
     ·rw [List.length_append]; exact hM11
     ·rw [List.map_append]; have := HBB.out.known.push HPO.out; rw [List.length_map] at this; exact this
    have HBld := Lib.hid hBld; have hKa : Kept (BldS p M nv) w w11 := (Kept.of_new _ HBq.out).trans hK11; have HKa := Lib.hid hKa; have hcv : ∀ n, (convert 102 9 (.slice A7 L c7)).run Tryd.prog (w10.drewN n) = .ok (.string KS) (w10.drewN n) := by
     intro n; have := back_any (w := w10.drewN n) (base := w.heap.size) (A := A7) (c := c7) (l := keyB (lv, zs)) (by rw [← HL.out]; exact hO10); rw [← HL.out, ← HKSe.out] at this; exact this
    have hc10 : w10.cell? ⟨p, 0, none⟩ = some (.slice A9 (hs.length + 1) c9) := by rw [hb10.cell_ 0 v9 (by simp [hcs]), hv9]
    have hc11 : w10.cell? ⟨p, 1, none⟩ = some (.map (some M)) := hb10.cell_ 1 _ (by rw [Array.getElem?_setIfInBounds_ne (by omega)]; exact HBB.out.c1); have hf9 := hb9.frozen 0; have hc9 := hb9.cell_ 0 _ HBB.out.c0; have hBl : Blk w11 p T (cs.setIfInBounds 0 v9) := hBld.blk; have hc12 : w11.cell? ⟨p, 0, none⟩ = some (.slice A9 (hs.length + 1) c9) := by rw [hBl.cell_ 0 v9 (by simp [hcs]), hv9]
    have hA' : v9.ownBlock = nv.ownBlock ∨ ∃ g, v9.ownBlock = some g ∧ w.heap.size ≤ g := hA9.imp id (fun ⟨g, h1, h2⟩ => ⟨g, h1, Nat.le_trans HBq.out.size h2⟩); have HA' := Lib.hid hA'; have hwr : wrap64 ((hs.length : Int) + 1 - 1) = hs.length := by unfold wrap64; omega
    have hwr2 : wrap64 (((hs.length + 1 : Nat) : Int) - 1) = hs.length := by unfold wrap64; omega
    clear hN9 hK9 hA9 hpne hMne hM9 hO9 hb10 hM10 hK10 hO10 hN10 hM11 hg11 hK11 hBld hKa hBl hA' hown hIq hcq0 hcq1 hfq; clear HOq HBB; subst hv9; go_wp2; rw [← hw10]; have hcv1 : (convert 102 9 (.slice A7 L c7)).run Tryd.prog w10.drew = .ok (.string KS) w10.drew := hcv 1; clear hw10; go_region
    go_wp2; go_ret; exact ⟨_, _, _, _, by rw [HE.out] <;> rfl, HBld.out, by rw [HE.out, List.map_append] <;> rfl, HKa.out, HA'.out, fun i hi => Array.getElem?_setIfInBounds_ne (by omega), fun x hx => by
     rcases List.mem_append.1 hx with hx | hx
     ·exact .inl hx
     ·exact .inr (List.mem_singleton.1 hx)⟩
end Go.Proofs.YtlegfdllipkggaaDoor
namespace Go.Proofs.YtlegfdllipkggaaDoor
open Go.RowKit
set_option maxRecDepth 100000
set_option linter.unusedVariables false
set_option linter.unusedSimpArgs false

set_option maxHeartbeats 2000000 in
theorem clone_ints (A : Option Addr) (c : Nat) (zs : List Int) (w : World) (ha : Ints w A zs) (hl : zs.length ≤ 1000000) :
  Calls Tryd.prog 64 #[.slice A zs.length c] w fun e w' => ∃ v, e = .returned v ∧ OwnI 3 w' w.heap.size v zs ∧ Below w.heap.size w w' := by
 have q24 : ∀ (w : World) (a : Option Addr) (n c n' c' : Nat), (binOp .eql 41 (.slice a n c) (.slice none n' c')).run Tryd.prog w = .ok (.bool a.isNone) w := fun w a n c n' c' => Lib.run_eql_slice_nil w _ _ a n c n' c' Tryd.underlying41; obtain ⟨i0, hi, hz0, hz1, hz2⟩ := info_parts Tryd.infoInt; have HA := Lib.hid ha; clear ha; cases A with
 | none =>
  have e : zs = [] := by
   by_cases h : 0 < zs.length
   ·obtain ⟨ad, e, _⟩ := HA.out.1.2 h; cases e
   ·exact List.eq_nil_of_length_eq_zero (by omega)
  subst e; go_enter Tryd.func64, Tryd.ntmps64; go_wp2; go_ret; exact ⟨_, rfl, OwnI.nil _ _ _, Below.refl _ _⟩
 | some ad =>
  go_enter Tryd.func64, Tryd.ntmps64; go_wp2_with (at_builtin; refine wpList_append_own _ rfl _ _ 41 rfl w.heap.size 3 i0 _ 1 8 Tryd.underlying41 hi hz0 hz1 hz2 rfl (by decide) _ _ _ rfl (World.ownsRow_made w #[] 0 (Nat.le_refl _) (Nat.zero_le _) rfl) ad zs.length c (zs.map (Value.int .i64)) rfl ?qc1 ?qc2 ?qc3 ?qc4 ?qc5 ?qc6 ?_)
  case qc1 => exact HA.out.1.1
  case qc2 =>
   intro j u hj; refine Lib.cell?_alloc_some _ ?_; have hn : 0 < zs.length := by
    have h1 := (List.getElem?_eq_some_iff.1 hj).1; have h2 := HA.out.1.1; omega
   obtain ⟨ad', e, _, h⟩ := HA.out.1.2 hn; cases e
   exact h j u hj
  case qc3 => intro u hu; obtain ⟨z, -, rfl⟩ := List.mem_map.1 hu; rfl
  case qc4 => unfold maxLen; omega
  case qc5 => omega
  case qc6 => simp
  intro v' w1 hown hgrow hnil; go_wp2; go_ret; refine ⟨v', rfl, ?_, ?_⟩
  ·unfold OwnI; simpa using hown
  ·exact ((Below.refl _ w).alloc (Nat.le_refl _) _).grown hgrow (by simp) (by intro k hk; simp [Value.ownBlock] at hk; omega)
set_option maxHeartbeats 2000000 in
theorem clone_pts (A : Option Addr) (c : Nat) (zs : List (Int × Int)) (w : World) (ha : Pts w A zs) (hl : zs.length ≤ 1000000) :
  Calls Tryd.prog 66 #[.slice A zs.length c] w fun e w' => ∃ v, e = .returned v ∧ OwnP 67 w' w.heap.size v zs ∧ Below w.heap.size w w' := by
 have q24 : ∀ (w : World) (a : Option Addr) (n c n' c' : Nat), (binOp .eql 22 (.slice a n c) (.slice none n' c')).run Tryd.prog w = .ok (.bool a.isNone) w := fun w a n c n' c' => Lib.run_eql_slice_nil w _ _ a n c n' c' Tryd.underlying22; obtain ⟨i0, hi, hz0, hz1, hz2⟩ := info_parts Tryd.infoPt; have HA := Lib.hid ha; clear ha; cases A with
 | none =>
  have e : zs = [] := by
   by_cases h : 0 < zs.length
   ·obtain ⟨ad, e, _⟩ := HA.out.1.2 h; cases e
   ·exact List.eq_nil_of_length_eq_zero (by omega)
  subst e; go_enter Tryd.func66, Tryd.ntmps66; go_wp2; go_ret; exact ⟨_, rfl, OwnP.nil _ _ _, Below.refl _ _⟩
 | some ad =>
  go_enter Tryd.func66, Tryd.ntmps66; go_wp2_with (at_builtin; refine wpList_append_own _ rfl _ _ 22 rfl w.heap.size 67 i0 _ 2 16 Tryd.underlying22 hi hz0 hz1 hz2 rfl (by decide) _ _ _ rfl (World.ownsRow_made w #[] 0 (Nat.le_refl _) (Nat.zero_le _) rfl) ad zs.length c (zs.flatMap ptCells) rfl ?qc1 ?qc2 ?qc3 ?qc4 ?qc5 ?qc6 ?_)
  case qc1 => exact HA.out.1.1
  case qc2 =>
   intro j u hj; refine Lib.cell?_alloc_some _ ?_; have hn : 0 < zs.length := by
    have h1 := (List.getElem?_eq_some_iff.1 hj).1; have h2 := HA.out.1.1; omega
   obtain ⟨ad', e, _, h⟩ := HA.out.1.2 hn; cases e
   exact h j u hj
  case qc3 => intro u hu; obtain ⟨z, -, hz⟩ := List.mem_flatMap.1 hu; simp [ptCells] at hz; rcases hz with rfl | rfl <;> rfl
  case qc4 => unfold maxLen; omega
  case qc5 => omega
  case qc6 => simp
  intro v' w1 hown hgrow hnil; go_wp2; go_ret; refine ⟨v', rfl, ?_, ?_⟩
  ·unfold OwnP; simpa using hown
  ·exact ((Below.refl _ w).alloc (Nat.le_refl _) _).grown hgrow (by simp) (by intro k hk; simp [Value.ownBlock] at hk; omega)
end Go.Proofs.YtlegfdllipkggaaDoor
