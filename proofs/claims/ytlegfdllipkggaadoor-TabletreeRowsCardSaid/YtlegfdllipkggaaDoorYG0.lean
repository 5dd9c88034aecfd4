/-
  texts Base Ints Own: parts of the proof; conditions stand with each theorem.
-/
import Derived.WalkKit
import Derived.WalkSpells
import Derived.WalkLawsBesides
import Derived.Below
import Derived.Laws.OwnMore
import Derived.Laws.Rows
import Derived.Laws.MakeOwn
import Derived.Laws.Entries
import Derived.Deep.AppendLies
import Derived.Deep.Draws
import Derived.Deep.QuietTactic
import Derived.Deep.OwnRows
import Derived.BigQuiet
import Derived.Maps.AppendAt
import Derived.RegionTactic
import Derived.OwnWalk
import Derived.Lib.Hide
import Derived.IntWalk
namespace Go.Proofs.YtlegfdllipkggaaDoor
section
universe u0 u1 u2 u3 u4 u5 u6 u7
theorem e_8 {α0 : Sort u0} {α1 : Sort u1} {α2 : Sort u2} {α3 : Sort u3} {α4 : Sort u4} {α5 : Sort u5} {α6 : Sort u6} {α7 : Sort u7} {p : α0 → α1 → α2 → α3 → α4 → α5 → α6 → α7 → Prop} {a0 : α0} {a1 : α1} {a2 : α2} {a3 : α3} {a4 : α4} {a5 : α5} {a6 : α6} {a7 : α7} (h : p a0 a1 a2 a3 a4 a5 a6 a7) : ∃ a0 a1 a2 a3 a4 a5 a6 a7, p a0 a1 a2 a3 a4 a5 a6 a7 := ⟨a0, a1, a2, a3, a4, a5, a6, a7, h⟩
theorem e_4 {α0 : Sort u0} {α1 : Sort u1} {α2 : Sort u2} {α3 : Sort u3} {p : α0 → α1 → α2 → α3 → Prop} {a0 : α0} {a1 : α1} {a2 : α2} {a3 : α3} (h : p a0 a1 a2 a3) : ∃ a0 a1 a2 a3, p a0 a1 a2 a3 := ⟨a0, a1, a2, a3, h⟩
theorem e_2 {α0 : Sort u0} {α1 : Sort u1} {p : α0 → α1 → Prop} {a0 : α0} {a1 : α1} (h : p a0 a1) : ∃ a0 a1, p a0 a1 := ⟨a0, a1, h⟩
theorem e_1 {α0 : Sort u0} {p : α0 → Prop} {a0 : α0} (h : p a0) : ∃ a0, p a0 := ⟨a0, h⟩
end
set_option linter.unusedSimpArgs false
open Go.RowKit
set_option linter.unusedVariables false

theorem block_of_add (a : Addr) (n : Nat) : (a.add n).block = a.block := by unfold Addr.add; split <;> rfl
theorem add_of_add (a : Addr) (i j : Nat) : (a.add i).add j = a.add (i + j) := by
 unfold Addr.add; by_cases hi : i = 0 <;> by_cases hj : j = 0 <;> simp [hi, hj, Nat.add_assoc]

def Reads (w : World) (B size : Nat) (A : Option Addr) (n : Nat) (xs : List Value) : Prop :=
 xs.length = n * size ∧ (0 < n → ∃ ad, A = some ad ∧ ad.block < B ∧ ∀ j u, xs[j]? = some u → w.cell? (ad.add j) = some u)

section
variable {w w' : World} {B B' size n : Nat} {A : Option Addr} {xs : List Value}
theorem Reads.none_ : Reads w B size A 0 [] := ⟨by simp, fun h => absurd h (by omega)⟩
theorem Reads.at_ {k : Nat} (h : Reads w B 1 A n xs) (hk : k < n) : ∃ ad u, A = some ad ∧ ad.block < B ∧ xs[k]? = some u ∧ w.cell? (ad.add k) = some u := by
 obtain ⟨ad, e, hb, hc⟩ := h.2 (by omega); have hl : k < xs.length := by have := h.1; omega
 exact ⟨ad, xs[k], e, hb, List.getElem?_eq_getElem hl, hc k _ (List.getElem?_eq_getElem hl)⟩
theorem Reads.keep (h : Reads w B size A n xs) (hk : ∀ p : Addr, p.block < B → w'.cell? p = w.cell? p) : Reads w' B size A n xs :=
 ⟨h.1, fun hn => by
  obtain ⟨ad, e, hb, hc⟩ := h.2 hn; exact ⟨ad, e, hb, fun j u hu => (hk _ (by rw [block_of_add]; exact hb)).trans (hc j u hu)⟩⟩
theorem Reads.more (h : Reads w B size A n xs) (hB : B ≤ B') : Reads w B' size A n xs :=
 ⟨h.1, fun hn => by
  obtain ⟨ad, e, hb, hc⟩ := h.2 hn; exact ⟨ad, e, by omega, hc⟩⟩
theorem Reads.below (h : Reads w B size A n xs) (hb : Below B w w') : Reads w' B size A n xs := h.keep fun _ hp => hb.cell hp
theorem Reads.drew (h : Reads w B size A n xs) : Reads w.drew B size A n xs := h
theorem Reads.drewN (h : Reads w B size A n xs) (k : Nat) : Reads (w.drewN k) B size A n xs := h
theorem Reads.alloc (h : Reads w B size A n xs) (hB : B ≤ w.heap.size) (o : Obj) : Reads (w.alloc o) B size A n xs := h.keep fun p hp => World.cell?_alloc_lt w o p (by omega)
theorem Reads.setCell (h : Reads w B size A n xs) {p : Addr} (hB : B ≤ p.block) (u : Value) : Reads (w.setCell p u) B size A n xs :=
 h.keep fun q hq => World.cell?_setCell_other w p q u (fun e => by subst e; omega)
theorem Reads.grown (h : Reads w B size A n xs) {row : Option Nat} (hg : w.grownBy w' row) (hB : B ≤ w.heap.size) (hr : ∀ g, row = some g → B ≤ g) : Reads w' B size A n xs :=
 h.keep fun p hp => World.cell?_of_block (hg.block p.block (by omega) (fun e => by have := hr _ e.symm; omega))
theorem Reads.cut (h : Reads w B size A n xs) {k cap : Nat} (hk : k ≤ n) (hc : n ≤ cap) :
  Reads w B size (if cap = k then A else A.map (·.add (k * size))) (n - k) (xs.drop (k * size)) := by
 refine ⟨by rw [List.length_drop, h.1, Nat.sub_mul], fun hn => ?_⟩; obtain ⟨ad, rfl, hb, hcell⟩ := h.2 (by omega); rw [if_neg (by omega)]; refine ⟨ad.add (k * size), rfl, by rw [block_of_add]; exact hb, fun j u hu => ?_⟩; rw [add_of_add]; exact hcell _ u (by rw [← hu, List.getElem?_drop])
theorem Reads.of_own {base : Nat} {e : TypeId} {c : Nat} (h : w.ownsRow base e size (.slice A n c) n xs) : Reads w w.heap.size size A n xs := by
 refine ⟨h.1, fun hn => ?_⟩; obtain ⟨g, cap, hv, _, hlt⟩ := h.form hn; have hA : A = some ⟨g, 0, none⟩ := by injection hv
 subst hA; exact ⟨_, rfl, hlt, h.cells (g := g) rfl⟩
end

def Blk (w : World) (g : Nat) (t : TypeId) (cs : Array Value) : Prop := w.heap[g]? = some (.cells cs t (0, 0))

section
variable {w w' : World} {g : Nat} {t : TypeId} {cs : Array Value}
theorem Blk.lt (h : Blk w g t cs) : g < w.heap.size := by
 rcases Nat.lt_or_ge g w.heap.size with hlt | hge
 ·exact hlt
 ·unfold Blk at h; rw [Array.getElem?_eq_none hge] at h; cases h
theorem Blk.cell (h : Blk w g t cs) (i : Nat) : w.cell? ⟨g, i, none⟩ = cs[i]? := cell_of_row w g i cs t (0, 0) h
theorem Blk.frozen (h : Blk w g t cs) (i : Nat) : w.frozen? ⟨g, i, none⟩ = false := by
 unfold Blk at h; simp [World.frozen?, h]
theorem Blk.new (w : World) (t : TypeId) (cs : Array Value) : Blk (w.alloc (.cells cs t)) w.heap.size t cs := heap_alloc_new w _
theorem Blk.drew (h : Blk w g t cs) : Blk w.drew g t cs := h
theorem Blk.drewN (h : Blk w g t cs) (n : Nat) : Blk (w.drewN n) g t cs := h
theorem Blk.alloc (h : Blk w g t cs) (o : Obj) : Blk (w.alloc o) g t cs := (Below.heap_alloc w o g h.lt).trans h
theorem Blk.set_ (h : Blk w g t cs) (i : Nat) (u : Value) : Blk (w.setCell ⟨g, i, none⟩ u) g t (cs.setIfInBounds i u) := by
 unfold Blk at h ⊢; simp [World.setCell, Array.getElem?_modify, h]
theorem Blk.far (h : Blk w g t cs) {p : Addr} (hp : g ≠ p.block) (u : Value) : Blk (w.setCell p u) g t cs := (Below.heap_setCell w p u g hp).trans h
theorem Blk.below {B : Nat} (h : Blk w g t cs) (hb : Below B w w') (hg : g < B) : Blk w' g t cs := (hb.block g hg).trans h
theorem Blk.grown {row : Option Nat} (h : Blk w g t cs) (hb : w.grownBy w' row) (hg : some g ≠ row) : Blk w' g t cs := (hb.block g h.lt hg).trans h
theorem Blk.ne_ {g' : Nat} {t' : TypeId} {cs' : Array Value} (h : Blk w g t cs) (h' : Blk w g' t' cs') (hne : t ≠ t') : g ≠ g' := by
 rintro rfl; unfold Blk at h h'; rw [h] at h'; injection h' with h'
 injection h' with _ ht
 exact hne ht
theorem own_blk_ne {base : Nat} {e : TypeId} {size n : Nat} {v : Value} {xs : List Value} (h : w.ownsRow base e size v n xs) (hg : Blk w g t cs) (hne : e ≠ t) : v.ownBlock ≠ some g := by
 rcases h.2 with ⟨rfl, _⟩ | ⟨g', cap, cur, rfl, _, hh, _⟩
 ·simp [Value.ownBlock]
 ·intro he; have : g' = g := by simpa [Value.ownBlock] using he
  subst this; exact Blk.ne_ (t := e) hh hg hne rfl
end

section
variable {P : Program} (w : World)

theorem run_append_of_nil (base : Nat) (t ty e : TypeId) (i : TypeInfo) (size : Nat) (ht : P.underlying t = some (.slice e)) (hi : P.info? e = some i)
  (v : Value) (n : Nat) (xs : List Value) (hown : w.ownsRow base e size v n xs) (c : Nat) : (Builtin.append_ #[t, t] ty #[v, .slice none 0 c]).run P w = .ok v w := by
 rcases hown.2 with ⟨rfl, rfl⟩ | ⟨g, cap, cur, rfl, _, _, hnc, _⟩
 ·simp [Builtin.append_, run_underlying ht, sizeOf, typeInfo, hi, Builtin.lenOf, Builtin.firstCells]
 ·simp [Builtin.append_, run_underlying ht, sizeOf, typeInfo, hi, Builtin.lenOf, Builtin.firstCells, hnc, storeCells]

theorem run_append_any (base : Nat) (t ty e : TypeId) (i : TypeInfo) (z : Value) (size bytes : Nat) (ht : P.underlying t = some (.slice e)) (hi : P.info? e = some i) (hz : i.zero = some z)
  (hsize : i.size = size) (hby : i.bytes = bytes) (hzs : z.cells.size = size) (hsz : 0 < size)
  (v : Value) (n : Nat) (xs : List Value) (hown : w.ownsRow base e size v n xs)
  (B : Nat) (A : Option Addr) (m c : Nat) (news : List Value) (hr : Reads w B size A m news) (h1 : ∀ u ∈ news, u.oneCell' = true)
  (h63 : n + m ≤ maxLen) (hbytes : (n + m) * bytes ≤ 140737488355328) (hbase : base ≤ w.heap.size) :
  ∃ v' w', (Builtin.append_ #[t, t] ty #[v, .slice A m c]).run P w = .ok v' w' ∧ w'.ownsRow base e size v' (n + m) (xs ++ news) ∧ w.grownBy w' v.ownBlock ∧
   (v'.ownBlock = v.ownBlock ∨ v'.ownBlock = some w.heap.size) := by
 rcases A with _ | ad
 ·have hm : m = 0 := by
   rcases Nat.eq_zero_or_pos m with h0 | h0
   ·exact h0
   ·obtain ⟨ad, h, _⟩ := hr.2 h0; cases h
  subst hm; have hn : news = [] := List.eq_nil_of_length_eq_zero (by simpa using hr.1); subst hn; exact ⟨v, w, run_append_of_nil w base t ty e i size ht hi v n xs hown c, by simpa using hown, World.grownBy.refl w _, .inl rfl⟩
 ·have hcells : ∀ j u, news[j]? = some u → w.cell? (ad.add j) = some u := by
   intro j u hu; rcases Nat.eq_zero_or_pos m with h0 | h0
   ·subst h0; have hn : news = [] := List.eq_nil_of_length_eq_zero (by simpa using hr.1); subst hn; simp at hu
   ·obtain ⟨ad', h, _, hc⟩ := hr.2 h0; injection h with h
    subst h; exact hc j u hu
  obtain ⟨v', w', hrun, h2, h3, _, h5⟩ := run_append_own_at (P := P) w base t ty e i z size bytes ht hi hz hsize hby hzs hsz v n xs hown ad m c news hr.1 hcells h1 h63 hbytes hbase; exact ⟨v', w', hrun, h2, h3, h5⟩

theorem wp_append_any {o : Oper} {a : Act} {K : Act → World → Prop} {Q : Exit → Act → World → Prop} (s x : Operand) (t : TypeId)
  (ho : o.op = .call { callee := .builtin .append, args := #[s, x], argTypes := #[t, t] })
  (base : Nat) (e : TypeId) (i : TypeInfo) (z : Value) (size bytes : Nat) (ht : P.underlying t = some (.slice e)) (hi : P.info? e = some i) (hz : i.zero = some z)
  (hsize : i.size = size) (hby : i.bytes = bytes) (hzs : z.cells.size = size) (hsz : 0 < size)
  (v : Value) (n : Nat) (xs : List Value) (hs : a.eval s = v) (hown : w.ownsRow base e size v n xs)
  (B : Nat) (A : Option Addr) (m c : Nat) (news : List Value) (hx : a.eval x = .slice A m c) (hr : Reads w B size A m news) (h1 : ∀ u ∈ news, u.oneCell' = true)
  (h63 : n + m ≤ maxLen) (hbytes : (n + m) * bytes ≤ 140737488355328) (hbase : base ≤ w.heap.size)
  (h : ∀ v' w', w'.ownsRow base e size v' (n + m) (xs ++ news) → w.grownBy w' v.ownBlock → (v'.ownBlock = v.ownBlock ∨ v'.ownBlock = some w.heap.size) → K (a.put o.dst v') w') : o.wp P a w K Q := by
 obtain ⟨v', w', hrun, h2, h3, h4⟩ := run_append_any (P := P) w base t o.type e i z size bytes ht hi hz hsize hby hzs hsz v n xs hown B A m c news hr h1 h63 hbytes hbase; unfold Oper.wp execOp; simp only [ho, resolve, invoke, builtin, Sem.run_bind, Sem.run_pure, Result.andThen_ok, List.map_toArray, List.map_cons, List.map_nil, hs, hx, hrun]; exact h v' w' h2 h3 h4

theorem wpList_append_any {ops : Array Oper} {rest : List Oper} {o : Oper} {a : Act} {Q : Exit → Act → World → Prop} (hgd : o.guard = none) (s x : Operand) (t : TypeId)
  (ho : o.op = .call { callee := .builtin .append, args := #[s, x], argTypes := #[t, t] })
  (base : Nat) (e : TypeId) (i : TypeInfo) (z : Value) (size bytes : Nat) (ht : P.underlying t = some (.slice e)) (hi : P.info? e = some i) (hz : i.zero = some z)
  (hsize : i.size = size) (hby : i.bytes = bytes) (hzs : z.cells.size = size) (hsz : 0 < size)
  (v : Value) (n : Nat) (xs : List Value) (hs : a.eval s = v) (hown : w.ownsRow base e size v n xs)
  (B : Nat) (A : Option Addr) (m c : Nat) (news : List Value) (hx : a.eval x = .slice A m c) (hr : Reads w B size A m news) (h1 : ∀ u ∈ news, u.oneCell' = true)
  (h63 : n + m ≤ maxLen) (hbytes : (n + m) * bytes ≤ 140737488355328) (hbase : base ≤ w.heap.size)
  (h : ∀ v' w', w'.ownsRow base e size v' (n + m) (xs ++ news) → w.grownBy w' v.ownBlock → (v'.ownBlock = v.ownBlock ∨ v'.ownBlock = some w.heap.size) → wpList P ops Q rest (a.put o.dst v') w') : wpList P ops Q (o :: rest) a w :=
 wpList_plain hgd fun _ hK => wp_append_any w s x t ho base e i z size bytes ht hi hz hsize hby hzs hsz v n xs hs hown B A m c news hx hr h1 h63 hbytes hbase fun v' w' h2 h3 h4 => hK _ _ (h v' w' h2 h3 h4)

theorem step_append_any {ops : Array Oper} {o : Oper} {a : Act} {K : Act → World → Prop} {Q : Exit → Act → World → Prop} {E : Prop} (hgd : o.guard = none) (s x : Operand) (t : TypeId)
  (ho : o.op = .call { callee := .builtin .append, args := #[s, x], argTypes := #[t, t] })
  (base : Nat) (e : TypeId) (i : TypeInfo) (z : Value) (size bytes : Nat) (ht : P.underlying t = some (.slice e)) (hi : P.info? e = some i) (hz : i.zero = some z)
  (hsize : i.size = size) (hby : i.bytes = bytes) (hzs : z.cells.size = size) (hsz : 0 < size)
  (v : Value) (n : Nat) (xs : List Value) (hs : a.eval s = v) (hown : w.ownsRow base e size v n xs)
  (B : Nat) (A : Option Addr) (m c : Nat) (news : List Value) (hx : a.eval x = .slice A m c) (hr : Reads w B size A m news) (h1 : ∀ u ∈ news, u.oneCell' = true)
  (h63 : n + m ≤ maxLen) (hbytes : (n + m) * bytes ≤ 140737488355328) (hbase : base ≤ w.heap.size)
  (h : ∀ v' w', w'.ownsRow base e size v' (n + m) (xs ++ news) → w.grownBy w' v.ownBlock → (v'.ownBlock = v.ownBlock ∨ v'.ownBlock = some w.heap.size) → K (a.put o.dst v') w') :
  if Region.wanted o (yielded ops a.tmps) = true then Oper.wp P o a w K Q else E := by
 have hw : Region.wanted o (yielded ops a.tmps) = true := by simp [Region.wanted, hgd]
 rw [if_pos hw]; exact wp_append_any w s x t ho base e i z size bytes ht hi hz hsize hby hzs hsz v n xs hs hown B A m c news hx hr h1 h63 hbytes hbase h
end

theorem quiet_add {P : Program} {f : FuncId} {args : Array Value} {w : World} {a n : Nat} {v : Value}
  (h : Calls P f args (w.drewN (a + n)) fun e w' => e = .returned v ∧ ∃ m, w' = (w.drewN (a + n)).drewN m) :
  Calls P f args (w.drewN (a + n)) fun e w'' => e = .returned v ∧ ∃ m, w'' = w.drewN (a + m) :=
 h.mono fun _ _ ⟨he, m, hm⟩ => ⟨he, n + m, by rw [hm, World.drewN_drewN, Nat.add_assoc]⟩
theorem quiet_add_same {P : Program} {f : FuncId} {args : Array Value} {w : World} {a n : Nat} {v : Value}
  (h : Calls P f args (w.drewN (a + n)) fun e w' => e = .returned v ∧ w' = w.drewN (a + n)) :
  Calls P f args (w.drewN (a + n)) fun e w'' => e = .returned v ∧ ∃ m, w'' = w.drewN (a + m) :=
 h.mono fun _ _ ⟨he, hm⟩ => ⟨he, n, hm⟩
theorem quiet_add_left {P : Program} {f : FuncId} {args : Array Value} {w : World} {a n : Nat} {v : Value}
  (h : Calls P f args (w.drewN (a + n)) fun e w' => e = .returned v ∧ w.drewN (a + n) = w') :
  Calls P f args (w.drewN (a + n)) fun e w'' => e = .returned v ∧ ∃ m, w'' = w.drewN (a + m) :=
 h.mono fun _ _ ⟨he, hm⟩ => ⟨he, n, hm.symm⟩
theorem quiet_left {P : Program} {f : FuncId} {args : Array Value} {w : World} {n : Nat} {v : Value}
  (h : Calls P f args (w.drewN n) fun e w' => e = .returned v ∧ w.drewN n = w') : Calls P f args (w.drewN n) fun e w'' => e = .returned v ∧ ∃ m, w'' = w.drewN m :=
 h.mono fun _ _ ⟨he, hm⟩ => ⟨he, n, hm.symm⟩

theorem results_tmp4 {fn : Func} {t u v x : Tmp} (h : fn.results = #[.tmp t, .tmp u, .tmp v, .tmp x]) (tmps : Array Value) (P : Program) (w : World) :
  (results fn tmps).run P w = .ok (.tuple #[tmps.getD t undef, tmps.getD u undef, tmps.getD v undef, tmps.getD x undef]) w := by simp [results, h]
theorem results_tmp5 {fn : Func} {t u v x y : Tmp} (h : fn.results = #[.tmp t, .tmp u, .tmp v, .tmp x, .tmp y]) (tmps : Array Value) (P : Program) (w : World) :
  (results fn tmps).run P w = .ok (.tuple #[tmps.getD t undef, tmps.getD u undef, tmps.getD v undef, tmps.getD x undef, tmps.getD y undef]) w := by simp [results, h]

theorem below_drewN {B : Nat} {a w : World} (h : Below B a w) (n : Nat) : Below B a (w.drewN n) := ⟨h.os, h.tape, h.output, h.size, h.block⟩
theorem rowIs_drewN {w : World} {b : Nat} {t : TypeId} {n : Nat} {f : Nat → Value} (h : w.rowIs b t n f) (k : Nat) : (w.drewN k).rowIs b t n f := h
theorem grown_trans {a b c : World} (h : Grown a b) (k : Grown b c) : Grown a c :=
 ⟨World.keptBut_trans h.1 k.1, fun x => (k.2.1 x).trans (h.2.1 x), Nat.le_trans h.2.2 k.2.2⟩

theorem only_drewN {a w : World} {row : Option Nat} (h : a.grownBy w row) (n : Nat) : a.grownBy (w.drewN n) row := ⟨h.os, h.tape, h.output, h.size, h.block⟩
theorem only_drew {a w : World} {row : Option Nat} (h : a.grownBy w row) : a.grownBy w.drew row := ⟨h.os, h.tape, h.output, h.size, h.block⟩
theorem only_alloc {a w : World} {row : Option Nat} (h : a.grownBy w row) (o : Obj) : a.grownBy (w.alloc o) row :=
 ⟨h.os, h.tape, h.output, Nat.le_trans h.size (by simp), fun i hi hne => (Below.heap_alloc w o i (Nat.lt_of_lt_of_le hi h.size)).trans (h.block i hi hne)⟩
theorem only_setCell {a w : World} {g : Nat} (h : a.grownBy w (some g)) {p : Addr} (hp : p.block = g ∨ a.heap.size ≤ p.block) (u : Value) : a.grownBy (w.setCell p u) (some g) :=
 ⟨h.os, h.tape, h.output, by simpa [World.setCell] using h.size, fun i hi hne => (Below.heap_setCell w p u i (by
  rintro rfl; rcases hp with hp | hp
  ·exact hne (by rw [hp])
  ·omega)).trans (h.block i hi hne)⟩
theorem only_of_below {a w : World} (h : Below a.heap.size a w) (row : Option Nat) : a.grownBy w row := ⟨h.os, h.tape, h.output, h.size, fun i hi _ => h.block i hi⟩

theorem run_make_rowN {P : Program} (t e : TypeId) (i : TypeInfo) (z : Value) (ht : P.underlying t = some (.slice e)) (hi : P.info? e = some i) (hz : i.zero = some z)
  (kl kc : IntKind) (n c : Nat) (hnc : n ≤ c) (hbytes : i.bytes * c ≤ 281474976710656) (h63 : c ≤ 9223372036854775807) (w : World) :
  (Instr.makeSlice t (.int kl (n : Int)) (.int kc (c : Int))).run P w = .ok (.slice (some ⟨w.heap.size, 0, none⟩) n c) (w.alloc (.cells (madeCells z.cells (c * i.size)) e)) := by
 have hb : (i.bytes : Int) * (c : Int) ≤ 281474976710656 := by
  have h : ((i.bytes * c : Nat) : Int) ≤ 281474976710656 := by omega
  rwa [Int.natCast_mul] at h
 have hr := run_make (P := P) w t e i z ht hi hz kl kc n c (by omega) (by omega) hb (by omega); simp only [Int.toNat_natCast] at hr; exact hr
theorem run_makeMap_hint {P : Program} (t k e : TypeId) (kd : IntKind) (n : Int) (ht : P.underlying t = some (.map k e)) (w : World) :
  (Instr.makeMap t (some (.int kd n))).run P w = .ok (.map (some w.heap.size)) (w.alloc (.map #[] 0)) := by
 simp [Instr.makeMap, run_underlying ht]; rfl

end Go.Proofs.YtlegfdllipkggaaDoor
namespace Go.Proofs.YtlegfdllipkggaaDoor
set_option linter.unusedSimpArgs false
set_option linter.unusedVariables false
open Go.RowKit

theorem addr_add (b o i : Nat) : (⟨b, o, none⟩ : Addr).add i = ⟨b, o + i, none⟩ := by
 unfold Addr.add
 split
 ·subst i; rfl
 ·rfl
theorem spot_none {w : World} {b o : Nat} {sp : Option Nat} {u : Value} (h : w.cell? ((⟨b, o, sp⟩ : Addr).add 0) = some u) : sp = none := by
 cases sp with
 | none => rfl
 | some x =>
  simp only [Addr.add, if_pos, World.cell?] at h
  split at h <;> simp at h
def Ints (w : World) (A : Option Addr) (xs : List Int) : Prop := Reads w w.heap.size 1 A xs.length (xs.map (Value.int .i64)) ∧ xs.length ≤ 9223372036854775807

section
variable {w w' : World} {A : Option Addr} {xs : List Int}
theorem Ints.at_ {k : Nat} (h : Ints w A xs) (hk : k < xs.length) : ∃ b o, A = some ⟨b, o, none⟩ ∧ b < w.heap.size ∧ w.cell? ⟨b, o + k, none⟩ = some (.int .i64 xs[k]) := by
 obtain ⟨ad, e, hb, hc⟩ := h.1.2 (by omega); have h0 := hc 0 (.int .i64 xs[0]) (by simp); have hk' := hc k (.int .i64 xs[k]) (by simp [List.getElem?_eq_getElem hk]); obtain ⟨b, o, sp⟩ := ad; obtain rfl := spot_none h0; rw [addr_add] at hk'; exact ⟨b, o, e, hb, hk'⟩
theorem Ints.le (h : Ints w A xs) : xs.length ≤ 9223372036854775807 := h.2
theorem Ints.ext (h : Ints w A xs) (hb : Below w.heap.size w w') : Ints w' A xs := ⟨(Reads.below h.1 hb).more hb.size, h.2⟩
theorem Ints.drewN (h : Ints w A xs) (n : Nat) : Ints (w.drewN n) A xs := h
theorem Ints.nil : Ints w A [] := ⟨Reads.none_, by simp⟩
end

def ptCells (p : Int × Int) : List Value := [.int .i64 p.1, .int .i64 p.2]
def Pts (w : World) (A : Option Addr) (ps : List (Int × Int)) : Prop := Reads w w.heap.size 2 A ps.length (ps.flatMap ptCells) ∧ ps.length ≤ 9223372036854775807
theorem flat2 : ∀ (ps : List (Int × Int)) (k : Nat) (hk : k < ps.length), (ps.flatMap ptCells)[2 * k]? = some (.int .i64 ps[k].1) ∧ (ps.flatMap ptCells)[2 * k + 1]? = some (.int .i64 ps[k].2)
 | p :: ps, 0, _ => by simp [ptCells]
 | p :: ps, k + 1, hk => by
  have h := flat2 ps k (by simpa using hk); have e1 : 2 * (k + 1) = (2 * k) + 1 + 1 := by omega
  have e2 : 2 * (k + 1) + 1 = (2 * k + 1) + 1 + 1 := by omega
  simp only [List.flatMap_cons, ptCells, List.cons_append, List.nil_append, e1, List.getElem?_cons_succ, List.getElem_cons_succ]; exact h
section
variable {w w' : World} {A : Option Addr} {ps : List (Int × Int)}
theorem Pts.at_ {k : Nat} (h : Pts w A ps) (hk : k < ps.length) : ∃ b o, A = some ⟨b, o, none⟩ ∧ b < w.heap.size ∧ w.cell? ⟨b, o + k * 2, none⟩ = some (.int .i64 ps[k].1) ∧ w.cell? ⟨b, o + k * 2 + 1, none⟩ = some (.int .i64 ps[k].2) := by
 obtain ⟨ad, e, hb, hc⟩ := h.1.2 (by omega); obtain ⟨f1, f2⟩ := flat2 ps k hk; obtain ⟨f0, _⟩ := flat2 ps 0 (by omega); have h0 := hc _ _ f0; obtain ⟨b, o, sp⟩ := ad; obtain rfl := spot_none h0; refine ⟨b, o, e, hb, ?_, ?_⟩
 ·rw [Nat.mul_comm]; have := hc _ _ f1; rwa [addr_add] at this
 ·rw [Nat.mul_comm]; have := hc _ _ f2; rwa [addr_add] at this
theorem Pts.le (h : Pts w A ps) : ps.length ≤ 9223372036854775807 := h.2
theorem Pts.ext (h : Pts w A ps) (hb : Below w.heap.size w w') : Pts w' A ps := ⟨(Reads.below h.1 hb).more hb.size, h.2⟩
theorem Pts.drewN (h : Pts w A ps) (n : Nat) : Pts (w.drewN n) A ps := h
theorem Pts.nil : Pts w A [] := ⟨Reads.none_, by simp⟩
end

def Qt (w w' : World) : Prop := ∃ k, w' = w.drewN k
theorem Qt.refl (w : World) : Qt w w := ⟨0, rfl⟩
theorem Qt.drewN (w : World) (k : Nat) : Qt w (w.drewN k) := ⟨k, rfl⟩
theorem Qt.trans {a b c : World} (h : Qt a b) (k : Qt b c) : Qt a c := by
 obtain ⟨m, rfl⟩ := h; obtain ⟨n, rfl⟩ := k; exact ⟨m + n, by rw [World.drewN_drewN]⟩
theorem Qt.below {a b : World} (h : Qt a b) (B : Nat) : Below B a b := by
 obtain ⟨k, rfl⟩ := h; exact below_drewN (Below.refl _ _) k
theorem Qt.step {a b : World} (h : Qt a b) (k : Nat) : Qt a (b.drewN k) := h.trans (Qt.drewN _ _)
theorem ret_bool {a b : Bool} (h : a = b) : Ending.returned (.bool a) = .returned (.bool b) := by rw [h]
theorem ret_int {k : IntKind} {a b : Int} (h : a = b) : Ending.returned (.int k a) = .returned (.int k b) := by rw [h]
theorem box_cell {w w1 : World} {cs : Array Value} {T : TypeId} (hb : Below (w.alloc (.cells cs T)).heap.size (w.alloc (.cells cs T)) w1) (i : Nat) (v : Value) (h : cs[i]? = some v) : w1.cell? ⟨w.heap.size, i, none⟩ = some v := by
 rw [hb.cell (by simp), cell_of_row _ _ _ _ _ _ (heap_alloc_new w _), h]
theorem box_free {w w1 : World} {cs : Array Value} {T : TypeId} (hb : Below (w.alloc (.cells cs T)).heap.size (w.alloc (.cells cs T)) w1) (i : Nat) : w1.frozen? ⟨w.heap.size, i, none⟩ = false := by
 rw [hb.frozen (by simp)]; unfold World.frozen?; rw [heap_alloc_new]
 simp
def ptNe (a b c d : Int) : Bool := !(a == c && b == d)
def ptEq (a b c d : Int) : Bool := a == c && b == d
theorem ptNe_true {p q : Int × Int} (h : ptNe p.1 p.2 q.1 q.2 = true) : ¬ p = q := by
 rintro rfl; simp [ptNe] at h
theorem ptNe_false {p q : Int × Int} (h : ptNe p.1 p.2 q.1 q.2 = false) : p = q := by
 simp [ptNe] at h; exact Prod.ext h.1 h.2
theorem ptEq_true {p q : Int × Int} (h : ptEq p.1 p.2 q.1 q.2 = true) : p = q := by
 simp [ptEq] at h; exact Prod.ext h.1 h.2
theorem ptEq_false {p q : Int × Int} (h : ptEq p.1 p.2 q.1 q.2 = false) : ¬ p = q := by
 rintro rfl; simp [ptEq] at h
def NewA (B : Nat) (A : Option Addr) : Prop := ∀ ad, A = some ad → B ≤ ad.block
theorem NewA.none_ (B : Nat) : NewA B none := by intro ad h; cases h
theorem NewA.mono {B B' : Nat} {A : Option Addr} (h : NewA B A) (hB : B' ≤ B) : NewA B' A := fun ad e => Nat.le_trans hB (h ad e)
theorem Reads.set_ne {w : World} {B size n : Nat} {A : Option Addr} {xs : List Value} (h : Reads w B size A n xs) {p : Addr} (hne : ∀ ad, A = some ad → ad.block ≠ p.block) (u : Value) : Reads (w.setCell p u) B size A n xs :=
 ⟨h.1, fun hn => by
  obtain ⟨ad, e, hb, hc⟩ := h.2 hn; refine ⟨ad, e, hb, fun j v hv => ?_⟩; rw [World.cell?_setCell_other w p (ad.add j) u (fun e2 => hne ad e (by rw [e2, block_of_add]))]; exact hc j v hv⟩
theorem Reads.size_set {w : World} {size n : Nat} {A : Option Addr} {xs : List Value} {p : Addr} {u : Value} (h : Reads (w.setCell p u) w.heap.size size A n xs) : Reads (w.setCell p u) (w.setCell p u).heap.size size A n xs := h.more (by simp [World.setCell])
section
variable {w w0 : World} {A : Option Addr} {ps : List (Int × Int)} {zs : List Int} {p : Addr}
theorem Pts.set_new (h : Pts w A ps) {B : Nat} (hn : NewA B A) (hp : p.block < B) (u : Value) : Pts (w.setCell p u) A ps :=
 ⟨(h.1.set_ne (fun ad e => by have := hn ad e; omega) u).size_set, h.2⟩
theorem Ints.set_new (h : Ints w A zs) {B : Nat} (hn : NewA B A) (hp : p.block < B) (u : Value) : Ints (w.setCell p u) A zs :=
 ⟨(h.1.set_ne (fun ad e => by have := hn ad e; omega) u).size_set, h.2⟩
theorem Pts.set_old (h : Pts w A ps) (h0 : Pts w0 A ps) (hp : w0.heap.size ≤ p.block) (u : Value) : Pts (w.setCell p u) A ps := by
 refine ⟨⟨h.1.1, fun hn => ?_⟩, h.2⟩; obtain ⟨ad, e, hb, hc⟩ := h.1.2 hn; obtain ⟨ad', e', hb', _⟩ := h0.1.2 hn; obtain rfl : ad = ad' := by rw [e] at e'; injection e'
 refine ⟨ad, e, by simpa [World.setCell] using hb, fun j v hv => ?_⟩; rw [World.cell?_setCell_other w p (ad.add j) u (fun e2 => by have := block_of_add ad j; rw [← e2] at this; omega)]; exact hc j v hv
theorem Ints.set_old (h : Ints w A zs) (h0 : Ints w0 A zs) (hp : w0.heap.size ≤ p.block) (u : Value) : Ints (w.setCell p u) A zs := by
 refine ⟨⟨h.1.1, fun hn => ?_⟩, h.2⟩; obtain ⟨ad, e, hb, hc⟩ := h.1.2 hn; obtain ⟨ad', e', hb', _⟩ := h0.1.2 hn; obtain rfl : ad = ad' := by rw [e] at e'; injection e'
 refine ⟨ad, e, by simpa [World.setCell] using hb, fun j v hv => ?_⟩; rw [World.cell?_setCell_other w p (ad.add j) u (fun e2 => by have := block_of_add ad j; rw [← e2] at this; omega)]; exact hc j v hv
end
def RetPts (ps : List (Int × Int)) (w : World) (e : Ending) (w' : World) : Prop := ∃ A c, e = .returned (.slice A ps.length c) ∧ Pts w' A ps ∧ NewA w.heap.size A ∧ Below w.heap.size w w'
def RetInts (zs : List Int) (w : World) (e : Ending) (w' : World) : Prop := ∃ A c, e = .returned (.slice A zs.length c) ∧ Ints w' A zs ∧ NewA w.heap.size A ∧ Below w.heap.size w w'
def RetIntsB (zs : List Int) (b : Bool) (w : World) (e : Ending) (w' : World) : Prop := ∃ A c, e = .returned (.tuple #[.slice A zs.length c, .bool b]) ∧ Ints w' A zs ∧ NewA w.heap.size A ∧ Below w.heap.size w w'
theorem below_set4 {B b : Nat} {a w : World} (h : Below B a w) (hb : B ≤ b) (v0 v1 v2 v3 : Value) : Below B a ((((w.setCell ⟨b, 0, none⟩ v0).setCell ⟨b, 1, none⟩ v1).setCell ⟨b, 2, none⟩ v2).setCell ⟨b, 3, none⟩ v3) :=
 (((h.setCell (p := ⟨b, 0, none⟩) hb v0).setCell (p := ⟨b, 1, none⟩) hb v1).setCell (p := ⟨b, 2, none⟩) hb v2).setCell (p := ⟨b, 3, none⟩) hb v3
theorem Blk.cell_ {w : World} {g : Nat} {t : TypeId} {cs : Array Value} (h : Blk w g t cs) (i : Nat) (v : Value) (hv : cs[i]? = some v) : w.cell? ⟨g, i, none⟩ = some v := (h.cell i).trans hv

def OwnI (e : TypeId) (w : World) (base : Nat) (v : Value) (zs : List Int) : Prop := w.ownsRow base e 1 v zs.length (zs.map (Value.int .i64))
def OwnP (e : TypeId) (w : World) (base : Nat) (v : Value) (ps : List (Int × Int)) : Prop := w.ownsRow base e 2 v ps.length (ps.flatMap ptCells)

theorem own_form {w : World} {base : Nat} {e : TypeId} {size n : Nat} {v : Value} {xs : List Value} (h : w.ownsRow base e size v n xs) :
  ∃ A c, v = .slice A n c ∧ (Reads w w.heap.size size A n xs ∧ n ≤ 9223372036854775807) ∧ NewA base A := by
 rcases h.2 with ⟨rfl, rfl⟩ | ⟨g, cap, cur, rfl, h2⟩
 ·exact ⟨none, 0, rfl, ⟨Reads.of_own (c := 0) h, by simp⟩, NewA.none_ _⟩
 ·refine ⟨_, cap, rfl, ⟨Reads.of_own h, ?_⟩, ?_⟩
  ·have := h2.2.2.1; have := h2.2.2.2.1; unfold maxLen at this; omega
  ·intro ad e; injection e with e
   subst e; exact h2.1
section
variable {w w' : World} {e : TypeId} {base : Nat} {v : Value} {zs : List Int} {ps : List (Int × Int)}
theorem OwnI.nil (e : TypeId) (w : World) (base : Nat) : OwnI e w base (.slice none 0 0) [] := World.ownsRow_nil _ _ _ _
theorem OwnP.nil (e : TypeId) (w : World) (base : Nat) : OwnP e w base (.slice none 0 0) [] := World.ownsRow_nil _ _ _ _
theorem OwnI.ints (h : OwnI e w base v zs) : ∃ A c, v = .slice A zs.length c ∧ Ints w A zs ∧ NewA base A := own_form h
theorem OwnP.pts (h : OwnP e w base v ps) : ∃ A c, v = .slice A ps.length c ∧ Pts w A ps ∧ NewA base A := own_form h
theorem OwnI.drewN (h : OwnI e w base v zs) (n : Nat) : OwnI e (w.drewN n) base v zs := h
theorem OwnP.drewN (h : OwnP e w base v ps) (n : Nat) : OwnP e (w.drewN n) base v ps := h
theorem own_below {size n : Nat} {xs : List Value} (h : w.ownsRow base e size v n xs) (hb : Below w.heap.size w w') : w'.ownsRow base e size v n xs := by
 obtain ⟨h1, h2⟩ := h; refine ⟨h1, ?_⟩; rcases h2 with h2 | ⟨g, cap, cur, h3, h4, h5, h6⟩
 ·exact .inl h2
 ·refine .inr ⟨g, cap, cur, h3, h4, ?_, h6⟩; rw [hb.block g ?_]
  ·exact h5
  ·rcases Nat.lt_or_ge g w.heap.size with hlt | hge
   ·exact hlt
   ·rw [Array.getElem?_eq_none hge] at h5; cases h5
theorem OwnI.ext (h : OwnI e w base v zs) (hb : Below w.heap.size w w') : OwnI e w' base v zs := own_below h hb
theorem OwnP.ext (h : OwnP e w base v ps) (hb : Below w.heap.size w w') : OwnP e w' base v ps := own_below h hb
end

theorem wpList_push {P : Program} {wr : World} {ops : Array Oper} {rest : List Oper} {o : Oper} {a : Act} {Q : Exit → Act → World → Prop} (hgd : o.guard = none) (s x : Operand) (t : TypeId)
  (ho : o.op = .call { callee := .builtin .append, args := #[s, x], argTypes := #[t, t] })
  (base : Nat) (e : TypeId) (z : Value) (size bytes : Nat) (ht : P.underlying t = some (.slice e)) (hi : (P.info? e).map (fun i => (i.zero, i.size, i.bytes)) = some (some z, size, bytes))
  (hzs : z.cells.size = size) (hsz : 0 < size)
  (v : Value) (n : Nat) (xs : List Value) (hs : a.eval s = v) (hown : wr.ownsRow base e size v n xs)
  (cs : List Value) (hcs : cs.length = size) (hx : a.eval x = .slice (some ⟨wr.heap.size, 0, none⟩) 1 1) (h1 : ∀ u ∈ cs, u.oneCell' = true)
  (h63 : n + 1 ≤ maxLen) (hbytes : (n + 1) * bytes ≤ 140737488355328) (hbase : base ≤ wr.heap.size)
  (h : ∀ v' w', w'.ownsRow base e size v' (n + 1) (xs ++ cs) → Below base wr w' → wpList P ops Q rest (a.put o.dst v') w') :
  wpList P ops Q (o :: rest) a (wr.alloc (.cells cs.toArray e)) := by
 obtain ⟨i0, hi0, hz0, hz1, hz2⟩ := info_parts hi; refine wpList_append_own _ hgd s x t ho base e i0 z size bytes ht hi0 hz0 hz1 hz2 hzs hsz v n xs hs (hown.alloc _) ⟨wr.heap.size, 0, none⟩ 1 1 cs hx (by omega) ?_ h1 h63 hbytes (by simp; omega) ?_
 ·intro j u hu; rw [addr_add]; have : (wr.alloc (.cells cs.toArray e)).cell? ⟨wr.heap.size, 0 + j, none⟩ = cs.toArray[0 + j]? := cell_of_row _ _ _ _ _ _ (heap_alloc_new wr _); rw [this]; simpa using hu
 ·intro v' w' hown' hg _; refine h v' w' hown' ?_; refine ((Below.refl base wr).alloc hbase _).grown hg (by simp; omega) ?_; intro k hk; rcases hown.2 with ⟨rfl, _⟩ | ⟨g, cap, cur, rfl, h4, _⟩
  ·simp [Value.ownBlock] at hk
  ·simp [Value.ownBlock] at hk; omega
theorem wpList_pushI {P : Program} {wr : World} {ops : Array Oper} {rest : List Oper} {o : Oper} {a : Act} {Q : Exit → Act → World → Prop} (hgd : o.guard = none) (s x : Operand) (t : TypeId)
  (ho : o.op = .call { callee := .builtin .append, args := #[s, x], argTypes := #[t, t] })
  (base : Nat) (e : TypeId) (ht : P.underlying t = some (.slice e)) (hi : (P.info? e).map (fun i => (i.zero, i.size, i.bytes)) = some (some (.int .i64 0), 1, 8))
  (v : Value) (zs : List Int) (hs : a.eval s = v) (hown : OwnI e wr base v zs)
  (z : Int) (hx : a.eval x = .slice (some ⟨wr.heap.size, 0, none⟩) 1 1)
  (hn : zs.length < 1000000000000) (hbase : base ≤ wr.heap.size)
  (h : ∀ v' w', OwnI e w' base v' (zs ++ [z]) → Below base wr w' → wpList P ops Q rest (a.put o.dst v') w') :
  wpList P ops Q (o :: rest) a (wr.alloc (.cells #[.int .i64 z] e)) :=
 wpList_push hgd s x t ho base e (.int .i64 0) 1 8 ht hi rfl (by decide) v zs.length _ hs hown [.int .i64 z] rfl hx (by simp [Value.oneCell']) (by unfold maxLen; omega) (by omega) hbase
  (fun v' w' h1 h2 => h v' w' (by unfold OwnI; rw [List.length_append, List.map_append]; exact h1) h2)
theorem wpList_pushP {P : Program} {wr : World} {ops : Array Oper} {rest : List Oper} {o : Oper} {a : Act} {Q : Exit → Act → World → Prop} (hgd : o.guard = none) (s x : Operand) (t : TypeId)
  (ho : o.op = .call { callee := .builtin .append, args := #[s, x], argTypes := #[t, t] })
  (base : Nat) (e : TypeId) (ht : P.underlying t = some (.slice e)) (hi : (P.info? e).map (fun i => (i.zero, i.size, i.bytes)) = some (some (.agg #[.int .i64 0, .int .i64 0]), 2, 16))
  (v : Value) (ps : List (Int × Int)) (hs : a.eval s = v) (hown : OwnP e wr base v ps)
  (p q : Int) (hx : a.eval x = .slice (some ⟨wr.heap.size, 0, none⟩) 1 1)
  (hn : ps.length < 1000000000000) (hbase : base ≤ wr.heap.size)
  (h : ∀ v' w', OwnP e w' base v' (ps ++ [(p, q)]) → Below base wr w' → wpList P ops Q rest (a.put o.dst v') w') :
  wpList P ops Q (o :: rest) a (wr.alloc (.cells #[.int .i64 p, .int .i64 q] e)) :=
 wpList_push hgd s x t ho base e _ 2 16 ht hi rfl (by decide) v ps.length _ hs hown [.int .i64 p, .int .i64 q] rfl hx (by simp [Value.oneCell']) (by unfold maxLen; omega) (by omega) hbase
  (fun v' w' h1 h2 => h v' w' (by unfold OwnP; rw [List.length_append, List.flatMap_append]; exact h1) h2)
end Go.Proofs.YtlegfdllipkggaaDoor
