/-
  Words for memory, turned from the guide's pages extra-words and extra-small: slices that read as lists, blocks known whole, appends. No condition.
  Slices of numbers: a slice that reads as a list of numbers; kept over what only lays new memory. No condition.
  A slice of the call's own that grows by one element: the append's law with a new one-element source, in the form of a walk's arm. No condition but the bounds.
  Nodes, walked from a root: what the walk yields is told by what the root leads to. No condition.
  A node's key: its numerals, parted by blanks: two nodes with one key are one node. No condition.
-/
import Derived.WalkKit
import Derived.WalkSpells
import Derived.WalkLawsBesides
import Derived.Below
import Derived.Laws.OwnMore
import Derived.Laws.Rows
import Derived.Laws.MakeOwn
import Derived.Laws.Entries
import Derived.Deep.AppendLies
import Derived.Deep.Draws
import Derived.Deep.QuietTactic
import Derived.Deep.OwnRows
import Derived.BigQuiet
import Derived.Maps.AppendAt
import Derived.RegionTactic
import Derived.OwnWalk
import Derived.Lib.Hide
import Derived.IntWalk
import Derived.Lib.ItoaNum
namespace Go.Proofs.YtojnnfihpiegoaaDoor
set_option linter.unusedSimpArgs false
open Go.RowKit
set_option linter.unusedVariables false

theorem block_of_add (a : Addr) (n : Nat) : (a.add n).block = a.block := by unfold Addr.add; split <;> rfl
theorem add_of_add (a : Addr) (i j : Nat) : (a.add i).add j = a.add (i + j) := by
  unfold Addr.add
  by_cases hi : i = 0 <;> by_cases hj : j = 0 <;> simp [hi, hj, Nat.add_assoc]

def Reads (w : World) (B size : Nat) (A : Option Addr) (n : Nat) (xs : List Value) : Prop :=
  xs.length = n * size ∧ (0 < n → ∃ ad, A = some ad ∧ ad.block < B ∧ ∀ j u, xs[j]? = some u → w.cell? (ad.add j) = some u)

section
variable {w w' : World} {B B' size n : Nat} {A : Option Addr} {xs : List Value}
theorem Reads.none_ : Reads w B size A 0 [] := ⟨by simp, fun h => absurd h (by omega)⟩
theorem Reads.at_ {k : Nat} (h : Reads w B 1 A n xs) (hk : k < n) : ∃ ad u, A = some ad ∧ ad.block < B ∧ xs[k]? = some u ∧ w.cell? (ad.add k) = some u := by
  obtain ⟨ad, e, hb, hc⟩ := h.2 (by omega)
  have hl : k < xs.length := by have := h.1; omega
  exact ⟨ad, xs[k], e, hb, List.getElem?_eq_getElem hl, hc k _ (List.getElem?_eq_getElem hl)⟩
theorem Reads.keep (h : Reads w B size A n xs) (hk : ∀ p : Addr, p.block < B → w'.cell? p = w.cell? p) : Reads w' B size A n xs :=
  ⟨h.1, fun hn => by
    obtain ⟨ad, e, hb, hc⟩ := h.2 hn
    exact ⟨ad, e, hb, fun j u hu => (hk _ (by rw [block_of_add]; exact hb)).trans (hc j u hu)⟩⟩
theorem Reads.more (h : Reads w B size A n xs) (hB : B ≤ B') : Reads w B' size A n xs :=
  ⟨h.1, fun hn => by
    obtain ⟨ad, e, hb, hc⟩ := h.2 hn
    exact ⟨ad, e, by omega, hc⟩⟩
theorem Reads.below (h : Reads w B size A n xs) (hb : Below B w w') : Reads w' B size A n xs := h.keep fun _ hp => hb.cell hp
theorem Reads.drew (h : Reads w B size A n xs) : Reads w.drew B size A n xs := h
theorem Reads.drewN (h : Reads w B size A n xs) (k : Nat) : Reads (w.drewN k) B size A n xs := h
theorem Reads.alloc (h : Reads w B size A n xs) (hB : B ≤ w.heap.size) (o : Obj) : Reads (w.alloc o) B size A n xs := h.keep fun p hp => World.cell?_alloc_lt w o p (by omega)
theorem Reads.setCell (h : Reads w B size A n xs) {p : Addr} (hB : B ≤ p.block) (u : Value) : Reads (w.setCell p u) B size A n xs :=
  h.keep fun q hq => World.cell?_setCell_other w p q u (fun e => by subst e; omega)
theorem Reads.grown (h : Reads w B size A n xs) {row : Option Nat} (hg : w.grownBy w' row) (hB : B ≤ w.heap.size) (hr : ∀ g, row = some g → B ≤ g) : Reads w' B size A n xs :=
  h.keep fun p hp => World.cell?_of_block (hg.block p.block (by omega) (fun e => by have := hr _ e.symm; omega))
theorem Reads.cut (h : Reads w B size A n xs) {k cap : Nat} (hk : k ≤ n) (hc : n ≤ cap) :
    Reads w B size (if cap = k then A else A.map (·.add (k * size))) (n - k) (xs.drop (k * size)) := by
  refine ⟨by rw [List.length_drop, h.1, Nat.sub_mul], fun hn => ?_⟩
  obtain ⟨ad, rfl, hb, hcell⟩ := h.2 (by omega)
  rw [if_neg (by omega)]
  refine ⟨ad.add (k * size), rfl, by rw [block_of_add]; exact hb, fun j u hu => ?_⟩
  rw [add_of_add]
  exact hcell _ u (by rw [← hu, List.getElem?_drop])
theorem Reads.of_own {base : Nat} {e : TypeId} {c : Nat} (h : w.ownsRow base e size (.slice A n c) n xs) : Reads w w.heap.size size A n xs := by
  refine ⟨h.1, fun hn => ?_⟩
  obtain ⟨g, cap, hv, _, hlt⟩ := h.form hn
  have hA : A = some ⟨g, 0, none⟩ := by injection hv
  subst hA
  exact ⟨_, rfl, hlt, h.cells (g := g) rfl⟩
end

def Blk (w : World) (g : Nat) (t : TypeId) (cs : Array Value) : Prop := w.heap[g]? = some (.cells cs t (0, 0))

section
variable {w w' : World} {g : Nat} {t : TypeId} {cs : Array Value}
theorem Blk.lt (h : Blk w g t cs) : g < w.heap.size := by
  rcases Nat.lt_or_ge g w.heap.size with hlt | hge
  · exact hlt
  · unfold Blk at h; rw [Array.getElem?_eq_none hge] at h; cases h
theorem Blk.cell (h : Blk w g t cs) (i : Nat) : w.cell? ⟨g, i, none⟩ = cs[i]? := cell_of_row w g i cs t (0, 0) h
theorem Blk.frozen (h : Blk w g t cs) (i : Nat) : w.frozen? ⟨g, i, none⟩ = false := by
  unfold Blk at h
  simp [World.frozen?, h]
theorem Blk.new (w : World) (t : TypeId) (cs : Array Value) : Blk (w.alloc (.cells cs t)) w.heap.size t cs := heap_alloc_new w _
theorem Blk.drew (h : Blk w g t cs) : Blk w.drew g t cs := h
theorem Blk.drewN (h : Blk w g t cs) (n : Nat) : Blk (w.drewN n) g t cs := h
theorem Blk.alloc (h : Blk w g t cs) (o : Obj) : Blk (w.alloc o) g t cs := (Below.heap_alloc w o g h.lt).trans h
theorem Blk.set_ (h : Blk w g t cs) (i : Nat) (u : Value) : Blk (w.setCell ⟨g, i, none⟩ u) g t (cs.setIfInBounds i u) := by
  unfold Blk at h ⊢
  simp [World.setCell, Array.getElem?_modify, h]
theorem Blk.far (h : Blk w g t cs) {p : Addr} (hp : g ≠ p.block) (u : Value) : Blk (w.setCell p u) g t cs := (Below.heap_setCell w p u g hp).trans h
theorem Blk.below {B : Nat} (h : Blk w g t cs) (hb : Below B w w') (hg : g < B) : Blk w' g t cs := (hb.block g hg).trans h
theorem Blk.grown {row : Option Nat} (h : Blk w g t cs) (hb : w.grownBy w' row) (hg : some g ≠ row) : Blk w' g t cs := (hb.block g h.lt hg).trans h
theorem Blk.ne_ {g' : Nat} {t' : TypeId} {cs' : Array Value} (h : Blk w g t cs) (h' : Blk w g' t' cs') (hne : t ≠ t') : g ≠ g' := by
  rintro rfl
  unfold Blk at h h'
  rw [h] at h'
  injection h' with h'
  injection h' with _ ht
  exact hne ht
theorem own_blk_ne {base : Nat} {e : TypeId} {size n : Nat} {v : Value} {xs : List Value} (h : w.ownsRow base e size v n xs) (hg : Blk w g t cs) (hne : e ≠ t) : v.ownBlock ≠ some g := by
  rcases h.2 with ⟨rfl, _⟩ | ⟨g', cap, cur, rfl, _, hh, _⟩
  · simp [Value.ownBlock]
  · intro he
    have : g' = g := by simpa [Value.ownBlock] using he
    subst this
    exact Blk.ne_ (t := e) hh hg hne rfl
end

section
variable {P : Program} (w : World)

theorem run_append_of_nil (base : Nat) (t ty e : TypeId) (i : TypeInfo) (size : Nat) (ht : P.underlying t = some (.slice e)) (hi : P.info? e = some i)
    (v : Value) (n : Nat) (xs : List Value) (hown : w.ownsRow base e size v n xs) (c : Nat) : (Builtin.append_ #[t, t] ty #[v, .slice none 0 c]).run P w = .ok v w := by
  rcases hown.2 with ⟨rfl, rfl⟩ | ⟨g, cap, cur, rfl, _, _, hnc, _⟩
  · simp [Builtin.append_, run_underlying ht, sizeOf, typeInfo, hi, Builtin.lenOf, Builtin.firstCells]
  · simp [Builtin.append_, run_underlying ht, sizeOf, typeInfo, hi, Builtin.lenOf, Builtin.firstCells, hnc, storeCells]

theorem run_append_any (base : Nat) (t ty e : TypeId) (i : TypeInfo) (z : Value) (size bytes : Nat) (ht : P.underlying t = some (.slice e)) (hi : P.info? e = some i) (hz : i.zero = some z)
    (hsize : i.size = size) (hby : i.bytes = bytes) (hzs : z.cells.size = size) (hsz : 0 < size)
    (v : Value) (n : Nat) (xs : List Value) (hown : w.ownsRow base e size v n xs)
    (B : Nat) (A : Option Addr) (m c : Nat) (news : List Value) (hr : Reads w B size A m news) (h1 : ∀ u ∈ news, u.oneCell' = true)
    (h63 : n + m ≤ maxLen) (hbytes : (n + m) * bytes ≤ 140737488355328) (hbase : base ≤ w.heap.size) :
    ∃ v' w', (Builtin.append_ #[t, t] ty #[v, .slice A m c]).run P w = .ok v' w' ∧ w'.ownsRow base e size v' (n + m) (xs ++ news) ∧ w.grownBy w' v.ownBlock ∧
      (v'.ownBlock = v.ownBlock ∨ v'.ownBlock = some w.heap.size) := by
  rcases A with _ | ad
  · have hm : m = 0 := by
      rcases Nat.eq_zero_or_pos m with h0 | h0
      · exact h0
      · obtain ⟨ad, h, _⟩ := hr.2 h0
        cases h
    subst hm
    have hn : news = [] := List.eq_nil_of_length_eq_zero (by simpa using hr.1)
    subst hn
    exact ⟨v, w, run_append_of_nil w base t ty e i size ht hi v n xs hown c, by simpa using hown, World.grownBy.refl w _, .inl rfl⟩
  · have hcells : ∀ j u, news[j]? = some u → w.cell? (ad.add j) = some u := by
      intro j u hu
      rcases Nat.eq_zero_or_pos m with h0 | h0
      · subst h0
        have hn : news = [] := List.eq_nil_of_length_eq_zero (by simpa using hr.1)
        subst hn
        simp at hu
      · obtain ⟨ad', h, _, hc⟩ := hr.2 h0
        injection h with h
        subst h
        exact hc j u hu
    obtain ⟨v', w', hrun, h2, h3, _, h5⟩ := run_append_own_at (P := P) w base t ty e i z size bytes ht hi hz hsize hby hzs hsz v n xs hown ad m c news hr.1 hcells h1 h63 hbytes hbase
    exact ⟨v', w', hrun, h2, h3, h5⟩

theorem wp_append_any {o : Oper} {a : Act} {K : Act → World → Prop} {Q : Exit → Act → World → Prop} (s x : Operand) (t : TypeId)
    (ho : o.op = .call { callee := .builtin .append, args := #[s, x], argTypes := #[t, t] })
    (base : Nat) (e : TypeId) (i : TypeInfo) (z : Value) (size bytes : Nat) (ht : P.underlying t = some (.slice e)) (hi : P.info? e = some i) (hz : i.zero = some z)
    (hsize : i.size = size) (hby : i.bytes = bytes) (hzs : z.cells.size = size) (hsz : 0 < size)
    (v : Value) (n : Nat) (xs : List Value) (hs : a.eval s = v) (hown : w.ownsRow base e size v n xs)
    (B : Nat) (A : Option Addr) (m c : Nat) (news : List Value) (hx : a.eval x = .slice A m c) (hr : Reads w B size A m news) (h1 : ∀ u ∈ news, u.oneCell' = true)
    (h63 : n + m ≤ maxLen) (hbytes : (n + m) * bytes ≤ 140737488355328) (hbase : base ≤ w.heap.size)
    (h : ∀ v' w', w'.ownsRow base e size v' (n + m) (xs ++ news) → w.grownBy w' v.ownBlock → (v'.ownBlock = v.ownBlock ∨ v'.ownBlock = some w.heap.size) → K (a.put o.dst v') w') : o.wp P a w K Q := by
  obtain ⟨v', w', hrun, h2, h3, h4⟩ := run_append_any (P := P) w base t o.type e i z size bytes ht hi hz hsize hby hzs hsz v n xs hown B A m c news hr h1 h63 hbytes hbase
  unfold Oper.wp execOp
  simp only [ho, resolve, invoke, builtin, Sem.run_bind, Sem.run_pure, Result.andThen_ok, List.map_toArray, List.map_cons, List.map_nil, hs, hx, hrun]
  exact h v' w' h2 h3 h4

theorem wpList_append_any {ops : Array Oper} {rest : List Oper} {o : Oper} {a : Act} {Q : Exit → Act → World → Prop} (hgd : o.guard = none) (s x : Operand) (t : TypeId)
    (ho : o.op = .call { callee := .builtin .append, args := #[s, x], argTypes := #[t, t] })
    (base : Nat) (e : TypeId) (i : TypeInfo) (z : Value) (size bytes : Nat) (ht : P.underlying t = some (.slice e)) (hi : P.info? e = some i) (hz : i.zero = some z)
    (hsize : i.size = size) (hby : i.bytes = bytes) (hzs : z.cells.size = size) (hsz : 0 < size)
    (v : Value) (n : Nat) (xs : List Value) (hs : a.eval s = v) (hown : w.ownsRow base e size v n xs)
    (B : Nat) (A : Option Addr) (m c : Nat) (news : List Value) (hx : a.eval x = .slice A m c) (hr : Reads w B size A m news) (h1 : ∀ u ∈ news, u.oneCell' = true)
    (h63 : n + m ≤ maxLen) (hbytes : (n + m) * bytes ≤ 140737488355328) (hbase : base ≤ w.heap.size)
    (h : ∀ v' w', w'.ownsRow base e size v' (n + m) (xs ++ news) → w.grownBy w' v.ownBlock → (v'.ownBlock = v.ownBlock ∨ v'.ownBlock = some w.heap.size) → wpList P ops Q rest (a.put o.dst v') w') : wpList P ops Q (o :: rest) a w :=
  wpList_plain hgd fun _ hK => wp_append_any w s x t ho base e i z size bytes ht hi hz hsize hby hzs hsz v n xs hs hown B A m c news hx hr h1 h63 hbytes hbase fun v' w' h2 h3 h4 => hK _ _ (h v' w' h2 h3 h4)

theorem step_append_any {ops : Array Oper} {o : Oper} {a : Act} {K : Act → World → Prop} {Q : Exit → Act → World → Prop} {E : Prop} (hgd : o.guard = none) (s x : Operand) (t : TypeId)
    (ho : o.op = .call { callee := .builtin .append, args := #[s, x], argTypes := #[t, t] })
    (base : Nat) (e : TypeId) (i : TypeInfo) (z : Value) (size bytes : Nat) (ht : P.underlying t = some (.slice e)) (hi : P.info? e = some i) (hz : i.zero = some z)
    (hsize : i.size = size) (hby : i.bytes = bytes) (hzs : z.cells.size = size) (hsz : 0 < size)
    (v : Value) (n : Nat) (xs : List Value) (hs : a.eval s = v) (hown : w.ownsRow base e size v n xs)
    (B : Nat) (A : Option Addr) (m c : Nat) (news : List Value) (hx : a.eval x = .slice A m c) (hr : Reads w B size A m news) (h1 : ∀ u ∈ news, u.oneCell' = true)
    (h63 : n + m ≤ maxLen) (hbytes : (n + m) * bytes ≤ 140737488355328) (hbase : base ≤ w.heap.size)
    (h : ∀ v' w', w'.ownsRow base e size v' (n + m) (xs ++ news) → w.grownBy w' v.ownBlock → (v'.ownBlock = v.ownBlock ∨ v'.ownBlock = some w.heap.size) → K (a.put o.dst v') w') :
    if Region.wanted o (yielded ops a.tmps) = true then Oper.wp P o a w K Q else E := by
  have hw : Region.wanted o (yielded ops a.tmps) = true := by simp [Region.wanted, hgd]
  rw [if_pos hw]
  exact wp_append_any w s x t ho base e i z size bytes ht hi hz hsize hby hzs hsz v n xs hs hown B A m c news hx hr h1 h63 hbytes hbase h
end

theorem quiet_add {P : Program} {f : FuncId} {args : Array Value} {w : World} {a n : Nat} {v : Value}
    (h : Calls P f args (w.drewN (a + n)) fun e w' => e = .returned v ∧ ∃ m, w' = (w.drewN (a + n)).drewN m) :
    Calls P f args (w.drewN (a + n)) fun e w'' => e = .returned v ∧ ∃ m, w'' = w.drewN (a + m) :=
  h.mono fun _ _ ⟨he, m, hm⟩ => ⟨he, n + m, by rw [hm, World.drewN_drewN, Nat.add_assoc]⟩
theorem quiet_add_same {P : Program} {f : FuncId} {args : Array Value} {w : World} {a n : Nat} {v : Value}
    (h : Calls P f args (w.drewN (a + n)) fun e w' => e = .returned v ∧ w' = w.drewN (a + n)) :
    Calls P f args (w.drewN (a + n)) fun e w'' => e = .returned v ∧ ∃ m, w'' = w.drewN (a + m) :=
  h.mono fun _ _ ⟨he, hm⟩ => ⟨he, n, hm⟩
theorem quiet_add_left {P : Program} {f : FuncId} {args : Array Value} {w : World} {a n : Nat} {v : Value}
    (h : Calls P f args (w.drewN (a + n)) fun e w' => e = .returned v ∧ w.drewN (a + n) = w') :
    Calls P f args (w.drewN (a + n)) fun e w'' => e = .returned v ∧ ∃ m, w'' = w.drewN (a + m) :=
  h.mono fun _ _ ⟨he, hm⟩ => ⟨he, n, hm.symm⟩
theorem quiet_left {P : Program} {f : FuncId} {args : Array Value} {w : World} {n : Nat} {v : Value}
    (h : Calls P f args (w.drewN n) fun e w' => e = .returned v ∧ w.drewN n = w') : Calls P f args (w.drewN n) fun e w'' => e = .returned v ∧ ∃ m, w'' = w.drewN m :=
  h.mono fun _ _ ⟨he, hm⟩ => ⟨he, n, hm.symm⟩

theorem results_tmp4 {fn : Func} {t u v x : Tmp} (h : fn.results = #[.tmp t, .tmp u, .tmp v, .tmp x]) (tmps : Array Value) (P : Program) (w : World) :
    (results fn tmps).run P w = .ok (.tuple #[tmps.getD t undef, tmps.getD u undef, tmps.getD v undef, tmps.getD x undef]) w := by simp [results, h]
theorem results_tmp5 {fn : Func} {t u v x y : Tmp} (h : fn.results = #[.tmp t, .tmp u, .tmp v, .tmp x, .tmp y]) (tmps : Array Value) (P : Program) (w : World) :
    (results fn tmps).run P w = .ok (.tuple #[tmps.getD t undef, tmps.getD u undef, tmps.getD v undef, tmps.getD x undef, tmps.getD y undef]) w := by simp [results, h]

theorem below_drewN {B : Nat} {a w : World} (h : Below B a w) (n : Nat) : Below B a (w.drewN n) := ⟨h.os, h.tape, h.output, h.size, h.block⟩
theorem rowIs_drewN {w : World} {b : Nat} {t : TypeId} {n : Nat} {f : Nat → Value} (h : w.rowIs b t n f) (k : Nat) : (w.drewN k).rowIs b t n f := h
theorem grown_trans {a b c : World} (h : Grown a b) (k : Grown b c) : Grown a c :=
  ⟨World.keptBut_trans h.1 k.1, fun x => (k.2.1 x).trans (h.2.1 x), Nat.le_trans h.2.2 k.2.2⟩

theorem only_drewN {a w : World} {row : Option Nat} (h : a.grownBy w row) (n : Nat) : a.grownBy (w.drewN n) row := ⟨h.os, h.tape, h.output, h.size, h.block⟩
theorem only_drew {a w : World} {row : Option Nat} (h : a.grownBy w row) : a.grownBy w.drew row := ⟨h.os, h.tape, h.output, h.size, h.block⟩
theorem only_alloc {a w : World} {row : Option Nat} (h : a.grownBy w row) (o : Obj) : a.grownBy (w.alloc o) row :=
  ⟨h.os, h.tape, h.output, Nat.le_trans h.size (by simp), fun i hi hne => (Below.heap_alloc w o i (Nat.lt_of_lt_of_le hi h.size)).trans (h.block i hi hne)⟩
theorem only_setCell {a w : World} {g : Nat} (h : a.grownBy w (some g)) {p : Addr} (hp : p.block = g ∨ a.heap.size ≤ p.block) (u : Value) : a.grownBy (w.setCell p u) (some g) :=
  ⟨h.os, h.tape, h.output, by simpa [World.setCell] using h.size, fun i hi hne => (Below.heap_setCell w p u i (by
    rintro rfl
    rcases hp with hp | hp
    · exact hne (by rw [hp])
    · omega)).trans (h.block i hi hne)⟩
theorem only_of_below {a w : World} (h : Below a.heap.size a w) (row : Option Nat) : a.grownBy w row := ⟨h.os, h.tape, h.output, h.size, fun i hi _ => h.block i hi⟩

theorem run_make_rowN {P : Program} (t e : TypeId) (i : TypeInfo) (z : Value) (ht : P.underlying t = some (.slice e)) (hi : P.info? e = some i) (hz : i.zero = some z)
    (kl kc : IntKind) (n c : Nat) (hnc : n ≤ c) (hbytes : i.bytes * c ≤ 281474976710656) (h63 : c ≤ 9223372036854775807) (w : World) :
    (Instr.makeSlice t (.int kl (n : Int)) (.int kc (c : Int))).run P w = .ok (.slice (some ⟨w.heap.size, 0, none⟩) n c) (w.alloc (.cells (madeCells z.cells (c * i.size)) e)) := by
  have hb : (i.bytes : Int) * (c : Int) ≤ 281474976710656 := by
    have h : ((i.bytes * c : Nat) : Int) ≤ 281474976710656 := by omega
    rwa [Int.natCast_mul] at h
  have hr := run_make (P := P) w t e i z ht hi hz kl kc n c (by omega) (by omega) hb (by omega)
  simp only [Int.toNat_natCast] at hr
  exact hr
theorem run_makeMap_hint {P : Program} (t k e : TypeId) (kd : IntKind) (n : Int) (ht : P.underlying t = some (.map k e)) (w : World) :
    (Instr.makeMap t (some (.int kd n))).run P w = .ok (.map (some w.heap.size)) (w.alloc (.map #[] 0)) := by
  simp [Instr.makeMap, run_underlying ht]; rfl

end Go.Proofs.YtojnnfihpiegoaaDoor
namespace Go.Proofs.YtojnnfihpiegoaaDoor
set_option linter.unusedSimpArgs false
set_option linter.unusedVariables false
open Go.RowKit

theorem addr_add (b o i : Nat) : (⟨b, o, none⟩ : Addr).add i = ⟨b, o + i, none⟩ := by
  unfold Addr.add
  split
  · subst i; rfl
  · rfl
theorem spot_none {w : World} {b o : Nat} {sp : Option Nat} {u : Value} (h : w.cell? ((⟨b, o, sp⟩ : Addr).add 0) = some u) : sp = none := by
  cases sp with
  | none => rfl
  | some x =>
    simp only [Addr.add, if_pos, World.cell?] at h
    split at h <;> simp at h
/-- the slice at A reads as the numbers xs -/
def Ints (w : World) (A : Option Addr) (xs : List Int) : Prop := Reads w w.heap.size 1 A xs.length (xs.map (Value.int .i64)) ∧ xs.length ≤ 9223372036854775807

section
variable {w w' : World} {A : Option Addr} {xs : List Int}
theorem Ints.at_ {k : Nat} (h : Ints w A xs) (hk : k < xs.length) : ∃ b o, A = some ⟨b, o, none⟩ ∧ b < w.heap.size ∧ w.cell? ⟨b, o + k, none⟩ = some (.int .i64 xs[k]) := by
  obtain ⟨ad, e, hb, hc⟩ := h.1.2 (by omega)
  have h0 := hc 0 (.int .i64 xs[0]) (by simp)
  have hk' := hc k (.int .i64 xs[k]) (by simp [List.getElem?_eq_getElem hk])
  obtain ⟨b, o, sp⟩ := ad
  obtain rfl := spot_none h0
  rw [addr_add] at hk'
  exact ⟨b, o, e, hb, hk'⟩
theorem Ints.le (h : Ints w A xs) : xs.length ≤ 9223372036854775807 := h.2
theorem Ints.ext (h : Ints w A xs) (hb : Below w.heap.size w w') : Ints w' A xs := ⟨(Reads.below h.1 hb).more hb.size, h.2⟩
theorem Ints.drewN (h : Ints w A xs) (n : Nat) : Ints (w.drewN n) A xs := h
theorem Ints.nil : Ints w A [] := ⟨Reads.none_, by simp⟩
end

/-- a point's cells -/
def ptCells (p : Int × Int) : List Value := [.int .i64 p.1, .int .i64 p.2]
/-- the slice at A reads as the points ps -/
def Pts (w : World) (A : Option Addr) (ps : List (Int × Int)) : Prop := Reads w w.heap.size 2 A ps.length (ps.flatMap ptCells) ∧ ps.length ≤ 9223372036854775807
theorem flat2 : ∀ (ps : List (Int × Int)) (k : Nat) (hk : k < ps.length), (ps.flatMap ptCells)[2 * k]? = some (.int .i64 ps[k].1) ∧ (ps.flatMap ptCells)[2 * k + 1]? = some (.int .i64 ps[k].2)
  | p :: ps, 0, _ => by simp [ptCells]
  | p :: ps, k + 1, hk => by
    have h := flat2 ps k (by simpa using hk)
    have e1 : 2 * (k + 1) = (2 * k) + 1 + 1 := by omega
    have e2 : 2 * (k + 1) + 1 = (2 * k + 1) + 1 + 1 := by omega
    simp only [List.flatMap_cons, ptCells, List.cons_append, List.nil_append, e1, List.getElem?_cons_succ, List.getElem_cons_succ]
    exact h
section
variable {w w' : World} {A : Option Addr} {ps : List (Int × Int)}
theorem Pts.at_ {k : Nat} (h : Pts w A ps) (hk : k < ps.length) : ∃ b o, A = some ⟨b, o, none⟩ ∧ b < w.heap.size ∧ w.cell? ⟨b, o + k * 2, none⟩ = some (.int .i64 ps[k].1) ∧ w.cell? ⟨b, o + k * 2 + 1, none⟩ = some (.int .i64 ps[k].2) := by
  obtain ⟨ad, e, hb, hc⟩ := h.1.2 (by omega)
  obtain ⟨f1, f2⟩ := flat2 ps k hk
  obtain ⟨f0, _⟩ := flat2 ps 0 (by omega)
  have h0 := hc _ _ f0
  obtain ⟨b, o, sp⟩ := ad
  obtain rfl := spot_none h0
  refine ⟨b, o, e, hb, ?_, ?_⟩
  · rw [Nat.mul_comm]; have := hc _ _ f1; rwa [addr_add] at this
  · rw [Nat.mul_comm]; have := hc _ _ f2; rwa [addr_add] at this
theorem Pts.le (h : Pts w A ps) : ps.length ≤ 9223372036854775807 := h.2
theorem Pts.ext (h : Pts w A ps) (hb : Below w.heap.size w w') : Pts w' A ps := ⟨(Reads.below h.1 hb).more hb.size, h.2⟩
theorem Pts.drewN (h : Pts w A ps) (n : Nat) : Pts (w.drewN n) A ps := h
theorem Pts.nil : Pts w A [] := ⟨Reads.none_, by simp⟩
end

/-- the world after reads in an open order -/
def Qt (w w' : World) : Prop := ∃ k, w' = w.drewN k
theorem Qt.refl (w : World) : Qt w w := ⟨0, rfl⟩
theorem Qt.drewN (w : World) (k : Nat) : Qt w (w.drewN k) := ⟨k, rfl⟩
theorem Qt.trans {a b c : World} (h : Qt a b) (k : Qt b c) : Qt a c := by
  obtain ⟨m, rfl⟩ := h
  obtain ⟨n, rfl⟩ := k
  exact ⟨m + n, by rw [World.drewN_drewN]⟩
theorem Qt.below {a b : World} (h : Qt a b) (B : Nat) : Below B a b := by
  obtain ⟨k, rfl⟩ := h
  exact below_drewN (Below.refl _ _) k
theorem Qt.step {a b : World} (h : Qt a b) (k : Nat) : Qt a (b.drewN k) := h.trans (Qt.drewN _ _)
theorem ret_bool {a b : Bool} (h : a = b) : Ending.returned (.bool a) = .returned (.bool b) := by rw [h]
theorem ret_int {k : IntKind} {a b : Int} (h : a = b) : Ending.returned (.int k a) = .returned (.int k b) := by rw [h]
/-- a cell of a new block, in a later world -/
theorem box_cell {w w1 : World} {cs : Array Value} {T : TypeId} (hb : Below (w.alloc (.cells cs T)).heap.size (w.alloc (.cells cs T)) w1) (i : Nat) (v : Value) (h : cs[i]? = some v) : w1.cell? ⟨w.heap.size, i, none⟩ = some v := by
  rw [hb.cell (by simp), cell_of_row _ _ _ _ _ _ (heap_alloc_new w _), h]
theorem box_free {w w1 : World} {cs : Array Value} {T : TypeId} (hb : Below (w.alloc (.cells cs T)).heap.size (w.alloc (.cells cs T)) w1) (i : Nat) : w1.frozen? ⟨w.heap.size, i, none⟩ = false := by
  rw [hb.frozen (by simp)]
  unfold World.frozen?
  rw [heap_alloc_new]
  simp
/-- two points differ; two are equal (no abbreviation: the walk leaves it whole) -/
def ptNe (a b c d : Int) : Bool := !(a == c && b == d)
def ptEq (a b c d : Int) : Bool := a == c && b == d
theorem ptNe_true {p q : Int × Int} (h : ptNe p.1 p.2 q.1 q.2 = true) : ¬ p = q := by
  rintro rfl
  simp [ptNe] at h
theorem ptNe_false {p q : Int × Int} (h : ptNe p.1 p.2 q.1 q.2 = false) : p = q := by
  simp [ptNe] at h
  exact Prod.ext h.1 h.2
theorem ptEq_true {p q : Int × Int} (h : ptEq p.1 p.2 q.1 q.2 = true) : p = q := by
  simp [ptEq] at h
  exact Prod.ext h.1 h.2
theorem ptEq_false {p q : Int × Int} (h : ptEq p.1 p.2 q.1 q.2 = false) : ¬ p = q := by
  rintro rfl
  simp [ptEq] at h
/-- a slice's memory lies from block B on -/
def NewA (B : Nat) (A : Option Addr) : Prop := ∀ ad, A = some ad → B ≤ ad.block
theorem NewA.none_ (B : Nat) : NewA B none := by intro ad h; cases h
theorem NewA.mono {B B' : Nat} {A : Option Addr} (h : NewA B A) (hB : B' ≤ B) : NewA B' A := fun ad e => Nat.le_trans hB (h ad e)
theorem Reads.set_ne {w : World} {B size n : Nat} {A : Option Addr} {xs : List Value} (h : Reads w B size A n xs) {p : Addr} (hne : ∀ ad, A = some ad → ad.block ≠ p.block) (u : Value) : Reads (w.setCell p u) B size A n xs :=
  ⟨h.1, fun hn => by
    obtain ⟨ad, e, hb, hc⟩ := h.2 hn
    refine ⟨ad, e, hb, fun j v hv => ?_⟩
    rw [World.cell?_setCell_other w p (ad.add j) u (fun e2 => hne ad e (by rw [e2, block_of_add]))]
    exact hc j v hv⟩
theorem Reads.size_set {w : World} {size n : Nat} {A : Option Addr} {xs : List Value} {p : Addr} {u : Value} (h : Reads (w.setCell p u) w.heap.size size A n xs) : Reads (w.setCell p u) (w.setCell p u).heap.size size A n xs := h.more (by simp [World.setCell])
section
variable {w w0 : World} {A : Option Addr} {ps : List (Int × Int)} {zs : List Int} {p : Addr}
/-- behind a store into a block that was there before the slice was made -/
theorem Pts.set_new (h : Pts w A ps) {B : Nat} (hn : NewA B A) (hp : p.block < B) (u : Value) : Pts (w.setCell p u) A ps :=
  ⟨(h.1.set_ne (fun ad e => by have := hn ad e; omega) u).size_set, h.2⟩
theorem Ints.set_new (h : Ints w A zs) {B : Nat} (hn : NewA B A) (hp : p.block < B) (u : Value) : Ints (w.setCell p u) A zs :=
  ⟨(h.1.set_ne (fun ad e => by have := hn ad e; omega) u).size_set, h.2⟩
/-- behind a store into a block that was made behind the slice -/
theorem Pts.set_old (h : Pts w A ps) (h0 : Pts w0 A ps) (hp : w0.heap.size ≤ p.block) (u : Value) : Pts (w.setCell p u) A ps := by
  refine ⟨⟨h.1.1, fun hn => ?_⟩, h.2⟩
  obtain ⟨ad, e, hb, hc⟩ := h.1.2 hn
  obtain ⟨ad', e', hb', _⟩ := h0.1.2 hn
  obtain rfl : ad = ad' := by rw [e] at e'; injection e'
  refine ⟨ad, e, by simpa [World.setCell] using hb, fun j v hv => ?_⟩
  rw [World.cell?_setCell_other w p (ad.add j) u (fun e2 => by have := block_of_add ad j; rw [← e2] at this; omega)]
  exact hc j v hv
theorem Ints.set_old (h : Ints w A zs) (h0 : Ints w0 A zs) (hp : w0.heap.size ≤ p.block) (u : Value) : Ints (w.setCell p u) A zs := by
  refine ⟨⟨h.1.1, fun hn => ?_⟩, h.2⟩
  obtain ⟨ad, e, hb, hc⟩ := h.1.2 hn
  obtain ⟨ad', e', hb', _⟩ := h0.1.2 hn
  obtain rfl : ad = ad' := by rw [e] at e'; injection e'
  refine ⟨ad, e, by simpa [World.setCell] using hb, fun j v hv => ?_⟩
  rw [World.cell?_setCell_other w p (ad.add j) u (fun e2 => by have := block_of_add ad j; rw [← e2] at this; omega)]
  exact hc j v hv
end
/-- it hands back a slice that reads as ps; nothing that was there has turned -/
def RetPts (ps : List (Int × Int)) (w : World) (e : Ending) (w' : World) : Prop := ∃ A c, e = .returned (.slice A ps.length c) ∧ Pts w' A ps ∧ NewA w.heap.size A ∧ Below w.heap.size w w'
def RetInts (zs : List Int) (w : World) (e : Ending) (w' : World) : Prop := ∃ A c, e = .returned (.slice A zs.length c) ∧ Ints w' A zs ∧ NewA w.heap.size A ∧ Below w.heap.size w w'
/-- .. beside a bool -/
def RetIntsB (zs : List Int) (b : Bool) (w : World) (e : Ending) (w' : World) : Prop := ∃ A c, e = .returned (.tuple #[.slice A zs.length c, .bool b]) ∧ Ints w' A zs ∧ NewA w.heap.size A ∧ Below w.heap.size w w'
theorem below_set4 {B b : Nat} {a w : World} (h : Below B a w) (hb : B ≤ b) (v0 v1 v2 v3 : Value) : Below B a ((((w.setCell ⟨b, 0, none⟩ v0).setCell ⟨b, 1, none⟩ v1).setCell ⟨b, 2, none⟩ v2).setCell ⟨b, 3, none⟩ v3) :=
  (((h.setCell (p := ⟨b, 0, none⟩) hb v0).setCell (p := ⟨b, 1, none⟩) hb v1).setCell (p := ⟨b, 2, none⟩) hb v2).setCell (p := ⟨b, 3, none⟩) hb v3
theorem Blk.cell_ {w : World} {g : Nat} {t : TypeId} {cs : Array Value} (h : Blk w g t cs) (i : Nat) (v : Value) (hv : cs[i]? = some v) : w.cell? ⟨g, i, none⟩ = some v := (h.cell i).trans hv
end Go.Proofs.YtojnnfihpiegoaaDoor
namespace Go.Proofs.YtojnnfihpiegoaaDoor
set_option linter.unusedSimpArgs false
set_option linter.unusedVariables false
open Go.RowKit

/-- v holds the numbers zs, in memory from base on -/
def OwnI (e : TypeId) (w : World) (base : Nat) (v : Value) (zs : List Int) : Prop := w.ownsRow base e 1 v zs.length (zs.map (Value.int .i64))
/-- v holds the points ps, in memory from base on -/
def OwnP (e : TypeId) (w : World) (base : Nat) (v : Value) (ps : List (Int × Int)) : Prop := w.ownsRow base e 2 v ps.length (ps.flatMap ptCells)

theorem own_form {w : World} {base : Nat} {e : TypeId} {size n : Nat} {v : Value} {xs : List Value} (h : w.ownsRow base e size v n xs) :
    ∃ A c, v = .slice A n c ∧ (Reads w w.heap.size size A n xs ∧ n ≤ 9223372036854775807) ∧ NewA base A := by
  rcases h.2 with ⟨rfl, rfl⟩ | ⟨g, cap, cur, rfl, h2⟩
  · exact ⟨none, 0, rfl, ⟨Reads.of_own (c := 0) h, by simp⟩, NewA.none_ _⟩
  · refine ⟨_, cap, rfl, ⟨Reads.of_own h, ?_⟩, ?_⟩
    · have := h2.2.2.1
      have := h2.2.2.2.1
      unfold maxLen at this
      omega
    · intro ad e
      injection e with e
      subst e
      exact h2.1
section
variable {w w' : World} {e : TypeId} {base : Nat} {v : Value} {zs : List Int} {ps : List (Int × Int)}
theorem OwnI.nil (e : TypeId) (w : World) (base : Nat) : OwnI e w base (.slice none 0 0) [] := World.ownsRow_nil _ _ _ _
theorem OwnP.nil (e : TypeId) (w : World) (base : Nat) : OwnP e w base (.slice none 0 0) [] := World.ownsRow_nil _ _ _ _
theorem OwnI.ints (h : OwnI e w base v zs) : ∃ A c, v = .slice A zs.length c ∧ Ints w A zs ∧ NewA base A := own_form h
theorem OwnP.pts (h : OwnP e w base v ps) : ∃ A c, v = .slice A ps.length c ∧ Pts w A ps ∧ NewA base A := own_form h
theorem OwnI.drewN (h : OwnI e w base v zs) (n : Nat) : OwnI e (w.drewN n) base v zs := h
theorem OwnP.drewN (h : OwnP e w base v ps) (n : Nat) : OwnP e (w.drewN n) base v ps := h
theorem own_below {size n : Nat} {xs : List Value} (h : w.ownsRow base e size v n xs) (hb : Below w.heap.size w w') : w'.ownsRow base e size v n xs := by
  obtain ⟨h1, h2⟩ := h
  refine ⟨h1, ?_⟩
  rcases h2 with h2 | ⟨g, cap, cur, h3, h4, h5, h6⟩
  · exact .inl h2
  · refine .inr ⟨g, cap, cur, h3, h4, ?_, h6⟩
    rw [hb.block g ?_]
    · exact h5
    · rcases Nat.lt_or_ge g w.heap.size with hlt | hge
      · exact hlt
      · rw [Array.getElem?_eq_none hge] at h5; cases h5
theorem OwnI.ext (h : OwnI e w base v zs) (hb : Below w.heap.size w w') : OwnI e w' base v zs := own_below h hb
theorem OwnP.ext (h : OwnP e w base v ps) (hb : Below w.heap.size w w') : OwnP e w' base v ps := own_below h hb
end

theorem wpList_push {P : Program} {wr : World} {ops : Array Oper} {rest : List Oper} {o : Oper} {a : Act} {Q : Exit → Act → World → Prop} (hgd : o.guard = none) (s x : Operand) (t : TypeId)
    (ho : o.op = .call { callee := .builtin .append, args := #[s, x], argTypes := #[t, t] })
    (base : Nat) (e : TypeId) (z : Value) (size bytes : Nat) (ht : P.underlying t = some (.slice e)) (hi : (P.info? e).map (fun i => (i.zero, i.size, i.bytes)) = some (some z, size, bytes))
    (hzs : z.cells.size = size) (hsz : 0 < size)
    (v : Value) (n : Nat) (xs : List Value) (hs : a.eval s = v) (hown : wr.ownsRow base e size v n xs)
    (cs : List Value) (hcs : cs.length = size) (hx : a.eval x = .slice (some ⟨wr.heap.size, 0, none⟩) 1 1) (h1 : ∀ u ∈ cs, u.oneCell' = true)
    (h63 : n + 1 ≤ maxLen) (hbytes : (n + 1) * bytes ≤ 140737488355328) (hbase : base ≤ wr.heap.size)
    (h : ∀ v' w', w'.ownsRow base e size v' (n + 1) (xs ++ cs) → Below base wr w' → wpList P ops Q rest (a.put o.dst v') w') :
    wpList P ops Q (o :: rest) a (wr.alloc (.cells cs.toArray e)) := by
  obtain ⟨i0, hi0, hz0, hz1, hz2⟩ := info_parts hi
  refine wpList_append_own _ hgd s x t ho base e i0 z size bytes ht hi0 hz0 hz1 hz2 hzs hsz v n xs hs (hown.alloc _) ⟨wr.heap.size, 0, none⟩ 1 1 cs hx (by omega) ?_ h1 h63 hbytes (by simp; omega) ?_
  · intro j u hu
    rw [addr_add]
    have : (wr.alloc (.cells cs.toArray e)).cell? ⟨wr.heap.size, 0 + j, none⟩ = cs.toArray[0 + j]? := cell_of_row _ _ _ _ _ _ (heap_alloc_new wr _)
    rw [this]
    simpa using hu
  · intro v' w' hown' hg _
    refine h v' w' hown' ?_
    refine ((Below.refl base wr).alloc hbase _).grown hg (by simp; omega) ?_
    intro k hk
    rcases hown.2 with ⟨rfl, _⟩ | ⟨g, cap, cur, rfl, h4, _⟩
    · simp [Value.ownBlock] at hk
    · simp [Value.ownBlock] at hk
      omega
theorem wpList_pushI {P : Program} {wr : World} {ops : Array Oper} {rest : List Oper} {o : Oper} {a : Act} {Q : Exit → Act → World → Prop} (hgd : o.guard = none) (s x : Operand) (t : TypeId)
    (ho : o.op = .call { callee := .builtin .append, args := #[s, x], argTypes := #[t, t] })
    (base : Nat) (e : TypeId) (ht : P.underlying t = some (.slice e)) (hi : (P.info? e).map (fun i => (i.zero, i.size, i.bytes)) = some (some (.int .i64 0), 1, 8))
    (v : Value) (zs : List Int) (hs : a.eval s = v) (hown : OwnI e wr base v zs)
    (z : Int) (hx : a.eval x = .slice (some ⟨wr.heap.size, 0, none⟩) 1 1)
    (hn : zs.length < 1000000000000) (hbase : base ≤ wr.heap.size)
    (h : ∀ v' w', OwnI e w' base v' (zs ++ [z]) → Below base wr w' → wpList P ops Q rest (a.put o.dst v') w') :
    wpList P ops Q (o :: rest) a (wr.alloc (.cells #[.int .i64 z] e)) :=
  wpList_push hgd s x t ho base e (.int .i64 0) 1 8 ht hi rfl (by decide) v zs.length _ hs hown [.int .i64 z] rfl hx (by simp [Value.oneCell']) (by unfold maxLen; omega) (by omega) hbase
    (fun v' w' h1 h2 => h v' w' (by unfold OwnI; rw [List.length_append, List.map_append]; exact h1) h2)
theorem wpList_pushP {P : Program} {wr : World} {ops : Array Oper} {rest : List Oper} {o : Oper} {a : Act} {Q : Exit → Act → World → Prop} (hgd : o.guard = none) (s x : Operand) (t : TypeId)
    (ho : o.op = .call { callee := .builtin .append, args := #[s, x], argTypes := #[t, t] })
    (base : Nat) (e : TypeId) (ht : P.underlying t = some (.slice e)) (hi : (P.info? e).map (fun i => (i.zero, i.size, i.bytes)) = some (some (.agg #[.int .i64 0, .int .i64 0]), 2, 16))
    (v : Value) (ps : List (Int × Int)) (hs : a.eval s = v) (hown : OwnP e wr base v ps)
    (p q : Int) (hx : a.eval x = .slice (some ⟨wr.heap.size, 0, none⟩) 1 1)
    (hn : ps.length < 1000000000000) (hbase : base ≤ wr.heap.size)
    (h : ∀ v' w', OwnP e w' base v' (ps ++ [(p, q)]) → Below base wr w' → wpList P ops Q rest (a.put o.dst v') w') :
    wpList P ops Q (o :: rest) a (wr.alloc (.cells #[.int .i64 p, .int .i64 q] e)) :=
  wpList_push hgd s x t ho base e _ 2 16 ht hi rfl (by decide) v ps.length _ hs hown [.int .i64 p, .int .i64 q] rfl hx (by simp [Value.oneCell']) (by unfold maxLen; omega) (by omega) hbase
    (fun v' w' h1 h2 => h v' w' (by unfold OwnP; rw [List.length_append, List.flatMap_append]; exact h1) h2)
end Go.Proofs.YtojnnfihpiegoaaDoor
namespace Go.Proofs.YtojnnfihpiegoaaDoor
set_option linter.unusedSimpArgs false
set_option linter.unusedVariables false

/-- a node: its level and its elements -/
abbrev Nd := Int × List Int
def ndAt (ns : List Nd) (i : Nat) : Nd := ns.getD i (0, [])
/-- where a node leads to -/
def val (ns : List Nd) (k : Int) : List Nat → Int
  | [] => k
  | s :: r => val ns ((ndAt ns k.toNat).2.getD s 0) r
/-- the nodes of P are in range, have q elements, and lead to nodes of P one level below -/
structure Lev (q : Nat) (ns : List Nd) (P : Nat → Prop) : Prop where
  lt : ∀ i, P i → i < ns.length
  len : ∀ i, P i → (ndAt ns i).2.length = q
  one : ∀ i, P i → 1 ≤ (ndAt ns i).1
  kids : ∀ i, P i → 1 < (ndAt ns i).1 → ∀ k ∈ (ndAt ns i).2, 0 ≤ k ∧ P k.toNat ∧ (ndAt ns k.toNat).1 = (ndAt ns i).1 - 1
/-- different nodes of P are different -/
def Dis (ns : List Nd) (P : Nat → Prop) : Prop := ∀ i j, P i → P j → ndAt ns i = ndAt ns j → i = j
/-- two nodes lead to the same -/
def Eqv (q : Nat) (A : List Nd) (a : Nat) (B : List Nd) (b : Nat) : Prop :=
  (ndAt A a).1 = (ndAt B b).1 ∧ ∀ ins : List Nat, (ins.length : Int) = (ndAt A a).1 → (∀ s ∈ ins, s < q) → val A (a : Int) ins = val B (b : Int) ins
section
variable {q : Nat} {A B C : List Nd} {a b c : Nat}
theorem Eqv.rfl' : Eqv q A a A a := ⟨rfl, fun _ _ _ => rfl⟩
theorem Eqv.symm (h : Eqv q A a B b) : Eqv q B b A a := ⟨h.1.symm, fun ins hl hs => (h.2 ins (by rw [hl, h.1]) hs).symm⟩
theorem Eqv.trans (h : Eqv q A a B b) (k : Eqv q B b C c) : Eqv q A a C c := ⟨h.1.trans k.1, fun ins hl hs => (h.2 ins hl hs).trans (k.2 ins (by rw [hl, h.1]) hs)⟩
theorem toNat_cast {k : Int} (h : 0 ≤ k) : ((k.toNat : Nat) : Int) = k := Int.toNat_of_nonneg h
/-- the kids of nodes that lead to the same -/
theorem Eqv.kid {P Q : Nat → Prop} (hA : Lev q A P) (hB : Lev q B Q) (ha : P a) (hb : Q b) (h : Eqv q A a B b) (hl : 1 < (ndAt A a).1) (s : Nat) (hs : s < q) :
    Eqv q A ((ndAt A a).2.getD s 0).toNat B ((ndAt B b).2.getD s 0).toNat := by
  have la := hA.len a ha
  have lb := hB.len b hb
  have e1 : (ndAt A a).2.getD s 0 ∈ (ndAt A a).2 := by rw [List.getD_eq_getElem?_getD, List.getElem?_eq_getElem (by omega)]; exact List.getElem_mem _
  have e2 : (ndAt B b).2.getD s 0 ∈ (ndAt B b).2 := by rw [List.getD_eq_getElem?_getD, List.getElem?_eq_getElem (by omega)]; exact List.getElem_mem _
  obtain ⟨p1, p2, p3⟩ := hA.kids a ha hl _ e1
  obtain ⟨r1, r2, r3⟩ := hB.kids b hb (by rw [← h.1]; exact hl) _ e2
  refine ⟨by rw [p3, r3, h.1], fun ins hi hq => ?_⟩
  have := h.2 (s :: ins) (by rw [List.length_cons]; rw [p3] at hi; omega) (by intro t ht; rcases List.mem_cons.1 ht with rfl | ht; exact hs; exact hq t ht)
  simp only [val, Int.toNat_natCast] at this
  rw [toNat_cast p1, toNat_cast r1]
  exact this
/-- in distinct nodes, those that lead to the same are the same -/
theorem Eqv.uniq {P : Nat → Prop} (hA : Lev q A P) (hd : Dis A P) : ∀ (n : Nat) (a b : Nat), (ndAt A a).1 ≤ n → P a → P b → Eqv q A a A b → a = b
  | 0, a, b, hn, ha, hb, h => by have := hA.one a ha; omega
  | n + 1, a, b, hn, ha, hb, h => by
    refine hd a b ha hb (Prod.ext h.1 ?_)
    have la := hA.len a ha
    have lb := hA.len b hb
    refine List.ext_getElem (by rw [la, lb]) fun s h1 h2 => ?_
    have hs : s < q := by omega
    have g1 : (ndAt A a).2.getD s 0 = (ndAt A a).2[s] := by rw [List.getD_eq_getElem?_getD, List.getElem?_eq_getElem h1]; rfl
    have g2 : (ndAt A b).2.getD s 0 = (ndAt A b).2[s] := by rw [List.getD_eq_getElem?_getD, List.getElem?_eq_getElem h2]; rfl
    have ho := hA.one a ha
    rcases Int.lt_or_le 1 (ndAt A a).1 with hl | hl
    · have hk := Eqv.kid hA hA ha hb h hl s hs
      rw [g1, g2] at hk
      obtain ⟨p1, p2, p3⟩ := hA.kids a ha hl _ (List.getElem_mem h1)
      obtain ⟨r1, r2, r3⟩ := hA.kids b hb (by rw [← h.1]; exact hl) _ (List.getElem_mem h2)
      have := Eqv.uniq hA hd n _ _ (by rw [p3]; omega) p2 r2 hk
      omega
    · have := h.2 [s] (by simp; omega) (by simpa using hs)
      simp only [val, Int.toNat_natCast] at this
      rw [g1, g2] at this
      exact this
end

/-- the state of the walk: the new numbers (and 1 more), the nodes -/
abbrev St := List Int × List Nd
def dfs (ns : List Nd) : Nat → Nat → St → St
  | 0, _, s => s
  | f + 1, k, s =>
    if 0 < s.1.getD k 0 then s else
    let x := ndAt ns k
    let r := if 1 < x.1 then x.2.foldl (fun (a : St × List Int) kd => (dfs ns f kd.toNat a.1, a.2 ++ [(dfs ns f kd.toNat a.1).1.getD kd.toNat 0 - 1])) (s, []) else (s, x.2)
    (r.1.1.set k (r.1.2.length + 1 : Nat), r.1.2 ++ [(x.1, r.2)])
def kidStep (ns : List Nd) (f : Nat) (a : St × List Int) (kd : Int) : St × List Int := (dfs ns f kd.toNat a.1, a.2 ++ [(dfs ns f kd.toNat a.1).1.getD kd.toNat 0 - 1])
theorem dfs_succ (ns : List Nd) (f k : Nat) (s : St) : dfs ns (f + 1) k s = if 0 < s.1.getD k 0 then s else
    let x := ndAt ns k
    let r := if 1 < x.1 then x.2.foldl (kidStep ns f) (s, []) else (s, x.2)
    (r.1.1.set k (r.1.2.length + 1 : Nat), r.1.2 ++ [(x.1, r.2)]) := rfl

/-- two walks stand alike -/
structure SRel (q : Nat) (A : List Nd) (P : Nat → Prop) (B : List Nd) (Q : Nat → Prop) (s t : St) : Prop where
  out : s.2 = t.2
  lenA : s.1.length = A.length
  lenB : t.1.length = B.length
  num : ∀ a b, P a → Q b → Eqv q A a B b → s.1.getD a 0 = t.1.getD b 0
theorem getD_set {l : List Int} {i j : Nat} {v : Int} (hi : i < l.length) : (l.set i v).getD j 0 = if j = i then v else l.getD j 0 := by
  by_cases h : j = i
  · subst h; simp [List.getD_eq_getElem?_getD, hi]
  · rw [if_neg h, List.getD_eq_getElem?_getD, List.getD_eq_getElem?_getD, List.getElem?_set_ne (by omega)]
theorem dfs_rel {q : Nat} {A B : List Nd} {P Q : Nat → Prop} (hA : Lev q A P) (hB : Lev q B Q) (dA : Dis A P) (dB : Dis B Q) :
    ∀ (f g : Nat) (a b : Nat) (s t : St), (ndAt A a).1 ≤ f → (ndAt A a).1 ≤ g → P a → Q b → Eqv q A a B b → SRel q A P B Q s t → SRel q A P B Q (dfs A f a s) (dfs B g b t)
  | 0, g, a, b, s, t, h1, h2, ha, hb, h, hr => by have := hA.one a ha; omega
  | f + 1, 0, a, b, s, t, h1, h2, ha, hb, h, hr => by have := hA.one a ha; omega
  | f + 1, g + 1, a, b, s, t, h1, h2, ha, hb, h, hr => by
    rw [dfs_succ, dfs_succ]
    have hn := hr.num a b ha hb h
    by_cases hd : 0 < s.1.getD a 0
    · rw [if_pos hd, if_pos (by rw [← hn]; exact hd)]; exact hr
    · rw [if_neg hd, if_neg (by rw [← hn]; exact hd)]
      have la := hA.len a ha
      have lb := hB.len b hb
      have key : ∀ m, m ≤ q → 1 < (ndAt A a).1 → SRel q A P B Q (((ndAt A a).2.take m).foldl (kidStep A f) (s, [])).1 (((ndAt B b).2.take m).foldl (kidStep B g) (t, [])).1 ∧
          (((ndAt A a).2.take m).foldl (kidStep A f) (s, [])).2 = (((ndAt B b).2.take m).foldl (kidStep B g) (t, [])).2 := by
        intro m
        induction m with
        | zero => intro _ _; exact ⟨hr, rfl⟩
        | succ m ih =>
          intro hm hl
          obtain ⟨i1, i2⟩ := ih (by omega) hl
          have g1 : (ndAt A a).2.getD m 0 = (ndAt A a).2[m]'(by omega) := by rw [List.getD_eq_getElem?_getD, List.getElem?_eq_getElem (by omega)]; rfl
          have g2 : (ndAt B b).2.getD m 0 = (ndAt B b).2[m]'(by omega) := by rw [List.getD_eq_getElem?_getD, List.getElem?_eq_getElem (by omega)]; rfl
          have hk := Eqv.kid hA hB ha hb h hl m (by omega)
          rw [g1, g2] at hk
          obtain ⟨p1, p2, p3⟩ := hA.kids a ha hl _ (List.getElem_mem (by omega : m < (ndAt A a).2.length))
          obtain ⟨r1, r2, r3⟩ := hB.kids b hb (by rw [← h.1]; exact hl) _ (List.getElem_mem (by omega : m < (ndAt B b).2.length))
          rw [List.take_add_one, List.take_add_one, List.getElem?_eq_getElem (by omega : m < (ndAt A a).2.length), List.getElem?_eq_getElem (by omega : m < (ndAt B b).2.length)]
          simp only [Option.toList_some, List.foldl_append, List.foldl_cons, List.foldl_nil]
          have hx := dfs_rel hA hB dA dB f g _ _ _ _ (by rw [p3]; omega) (by rw [p3]; omega) p2 r2 hk i1
          refine ⟨hx, ?_⟩
          simp only [kidStep]
          rw [i2, hx.num _ _ p2 r2 hk]
      have e0 : (ndAt B b).1 = (ndAt A a).1 := h.1.symm
      have hq : SRel q A P B Q (if 1 < (ndAt A a).1 then (ndAt A a).2.foldl (kidStep A f) (s, []) else (s, (ndAt A a).2)).1 (if 1 < (ndAt A a).1 then (ndAt B b).2.foldl (kidStep B g) (t, []) else (t, (ndAt B b).2)).1 ∧
          (if 1 < (ndAt A a).1 then (ndAt A a).2.foldl (kidStep A f) (s, []) else (s, (ndAt A a).2)).2 = (if 1 < (ndAt A a).1 then (ndAt B b).2.foldl (kidStep B g) (t, []) else (t, (ndAt B b).2)).2 := by
        by_cases hl : 1 < (ndAt A a).1
        · rw [if_pos hl, if_pos hl]
          have := key q (Nat.le_refl _) hl
          rw [List.take_of_length_le (by omega), List.take_of_length_le (by omega)] at this
          exact this
        · rw [if_neg hl, if_neg hl]
          refine ⟨hr, List.ext_getElem (by show (ndAt A a).2.length = (ndAt B b).2.length; rw [la, lb]) fun s h1 h2 => ?_⟩
          dsimp only at h1 h2 ⊢
          have g1 : (ndAt A a).2.getD s 0 = (ndAt A a).2[s] := by rw [List.getD_eq_getElem?_getD, List.getElem?_eq_getElem h1]; rfl
          have g2 : (ndAt B b).2.getD s 0 = (ndAt B b).2[s] := by rw [List.getD_eq_getElem?_getD, List.getElem?_eq_getElem h2]; rfl
          have ho := hA.one a ha
          have := h.2 [s] (by simp; omega) (by simp; omega)
          simp only [val, Int.toNat_natCast] at this
          rw [g1, g2] at this
          exact this
      dsimp only
      rw [e0]
      generalize (if 1 < (ndAt A a).1 then (ndAt A a).2.foldl (kidStep A f) (s, []) else (s, (ndAt A a).2)) = X at hq ⊢
      generalize (if 1 < (ndAt A a).1 then (ndAt B b).2.foldl (kidStep B g) (t, []) else (t, (ndAt B b).2)) = Y at hq ⊢
      obtain ⟨q1, q2⟩ := hq
      refine ⟨by rw [q1.out, q2], (List.length_set ..).trans q1.lenA, (List.length_set ..).trans q1.lenB, fun a' b' ha' hb' h' => ?_⟩
      rw [getD_set (by rw [q1.lenA]; exact hA.lt a ha), getD_set (by rw [q1.lenB]; exact hB.lt b hb), q1.out]
      by_cases e : a' = a
      · subst e
        have : b' = b := Eqv.uniq hB dB (ndAt B b').1.toNat _ _ (by have := hB.one b' hb'; omega) hb' hb (h'.symm.trans h)
        rw [if_pos rfl, if_pos this]
      · have : b' ≠ b := by
          rintro rfl
          exact e (Eqv.uniq hA dA (ndAt A a').1.toNat _ _ (by have := hA.one a' ha'; omega) ha' ha (h'.trans h.symm))
        rw [if_neg e, if_neg this]
        exact q1.num a' b' ha' hb' h'

/-- the nodes of a walk from a root -/
def ord (ns : List Nd) (f root : Nat) : List Nd := (dfs ns f root (List.replicate ns.length 0, [])).2
/-- the walk's nodes are told by what the root leads to -/
theorem ord_eq {q : Nat} {A B : List Nd} {P Q : Nat → Prop} (hA : Lev q A P) (hB : Lev q B Q) (dA : Dis A P) (dB : Dis B Q) {f g a b : Nat} (hf : (ndAt A a).1 ≤ f) (hg : (ndAt A a).1 ≤ g) (ha : P a) (hb : Q b)
    (h : Eqv q A a B b) : ord A f a = ord B g b := by
  show (dfs A f a (List.replicate A.length 0, [])).2 = (dfs B g b (List.replicate B.length 0, [])).2
  refine (dfs_rel hA hB dA dB f g a b (List.replicate A.length 0, []) (List.replicate B.length 0, []) hf hg ha hb h ⟨rfl, List.length_replicate, List.length_replicate, fun x y hx hy _ => ?_⟩).out
  simp [List.getD_eq_getElem?_getD, List.getElem?_replicate]
  split <;> split <;> rfl

section
variable {q : Nat} {A ns : List Nd} {P : Nat → Prop}
theorem ndAt_app_lt {i : Nat} (h : i < A.length) (ys : List Nd) : ndAt (A ++ ys) i = ndAt A i := by
  unfold ndAt; rw [List.getD_eq_getElem?_getD, List.getD_eq_getElem?_getD, List.getElem?_append_left h]
theorem ndAt_app_len (A : List Nd) (x : Nd) : ndAt (A ++ [x]) A.length = x := by
  unfold ndAt; rw [List.getD_eq_getElem?_getD]; simp
theorem getD_mem {l : List Int} {s : Nat} (h : s < l.length) : l.getD s 0 ∈ l := by
  rw [List.getD_eq_getElem?_getD, List.getElem?_eq_getElem h]; exact List.getElem_mem _
theorem Eqv.app (hA : Lev q A (· < A.length)) (ys : List Nd) : ∀ (n a : Nat), (ndAt A a).1 ≤ n → a < A.length → Eqv q (A ++ ys) a A a
  | 0, a, hn, ha => by have := hA.one a ha; omega
  | n + 1, a, hn, ha => by
    have e := ndAt_app_lt ha ys
    refine ⟨by rw [e], fun ins hl hs => ?_⟩
    rw [e] at hl
    have h1 := hA.one a ha
    cases ins with
    | nil => simp at hl; omega
    | cons s r =>
      simp only [val, Int.toNat_natCast, e]
      have hq : s < q := hs s (by simp)
      have hm := getD_mem (l := (ndAt A a).2) (s := s) (by rw [hA.len a ha]; exact hq)
      rcases Int.lt_or_le 1 (ndAt A a).1 with hl1 | hl1
      · obtain ⟨p1, p2, p3⟩ := hA.kids a ha hl1 _ hm
        have := (Eqv.app hA ys n _ (by rw [p3]; omega) p2).2 r (by rw [ndAt_app_lt p2, p3]; simp at hl; omega) (fun t ht => hs t (by simp [ht]))
        rw [toNat_cast p1] at this
        exact this
      · have : r = [] := by cases r with
          | nil => rfl
          | cons _ _ => simp at hl; omega
        subst this
        rfl
/-- same node: same function -/
theorem Eqv.node {i j : Nat} (h : ndAt A i = ndAt A j) (h1 : 1 ≤ (ndAt A i).1) : Eqv q A i A j := by
  refine ⟨by rw [h], fun ins hl _ => ?_⟩
  cases ins with
  | nil => simp at hl; omega
  | cons s r => simp only [val, Int.toNat_natCast, h]

/-- how many numbers are positive -/
def cntP : List Int → Nat
  | [] => 0
  | z :: r => (if 0 < z then 1 else 0) + cntP r
theorem cntP_zero : ∀ n, cntP (List.replicate n (0 : Int)) = 0
  | 0 => rfl
  | n + 1 => by rw [List.replicate_succ]; simp [cntP, cntP_zero n]
theorem cntP_le : ∀ l, cntP l ≤ l.length
  | [] => Nat.le_refl _
  | z :: r => by
    have := cntP_le r
    simp only [cntP, List.length_cons]
    split <;> omega
theorem cntP_set : ∀ (l : List Int) (k : Nat) (v : Int), k < l.length → ¬ 0 < l.getD k 0 → 0 < v → cntP (l.set k v) = cntP l + 1
  | [], k, v, hk, _, _ => by simp at hk
  | z :: r, 0, v, _, h0, hv => by
    simp at h0
    simp only [List.set_cons_zero, cntP]
    rw [if_pos hv, if_neg (by omega)]
    omega
  | z :: r, k + 1, v, hk, h0, hv => by
    simp only [List.set_cons_succ, cntP]
    rw [cntP_set r k v (by simpa using hk) (by simpa using h0) hv]
    omega
/-- what holds of a walk's state -/
structure Inv (q : Nat) (ns : List Nd) (P : Nat → Prop) (s : St) : Prop where
  len : s.1.length = ns.length
  lev : Lev q s.2 (· < s.2.length)
  ordk : ∀ i, i < s.2.length → 1 < (ndAt s.2 i).1 → ∀ k ∈ (ndAt s.2 i).2, k < (i : Int)
  nn : ∀ j, 0 ≤ s.1.getD j 0
  num : ∀ j, P j → 0 < s.1.getD j 0 → (s.1.getD j 0 - 1).toNat < s.2.length ∧ Eqv q s.2 (s.1.getD j 0 - 1).toNat ns j
  all : ∀ i, i < s.2.length → ∃ j, P j ∧ s.1.getD j 0 = (i : Int) + 1
  cnt : s.2.length = cntP s.1
theorem Inv.start (q : Nat) (ns : List Nd) (P : Nat → Prop) : Inv q ns P (List.replicate ns.length 0, []) := by
  have hz : ∀ j, (List.replicate ns.length (0 : Int)).getD j 0 = 0 := by
    intro j; simp [List.getD_eq_getElem?_getD, List.getElem?_replicate]; split <;> rfl
  refine ⟨List.length_replicate, ⟨fun i h => h, fun i h => absurd h (by simp), fun i h => absurd h (by simp), fun i h => absurd h (by simp)⟩, fun i h => absurd h (by simp), fun j => by rw [hz]; omega, fun j _ h => by rw [hz] at h; omega, fun i h => absurd h (by simp), (cntP_zero _).symm⟩
theorem Inv.dis {s : St} (h : Inv q ns P s) (hA : Lev q ns P) (dA : Dis ns P) : Dis s.2 (· < s.2.length) := by
  intro i i' hi hi' he
  obtain ⟨j, pj, ej⟩ := h.all i hi
  obtain ⟨j', pj', ej'⟩ := h.all i' hi'
  have n1 := (h.num j pj (by omega)).2
  have n2 := (h.num j' pj' (by omega)).2
  have t1 : (s.1.getD j 0 - 1).toNat = i := by omega
  have t2 : (s.1.getD j' 0 - 1).toNat = i' := by omega
  rw [t1] at n1
  rw [t2] at n2
  have := Eqv.uniq hA dA (ndAt ns j).1.toNat j j' (by have := hA.one j pj; omega) pj pj' ((n1.symm.trans (Eqv.node he (h.lev.one i hi))).trans n2)
  subst this
  omega
theorem Inv.push {s : St} (h : Inv q ns P s) (hA : Lev q ns P) {k : Nat} (hk : P k) (h0 : ¬ 0 < s.1.getD k 0) (nx : List Int) (hlen : nx.length = q)
    (hnx : 1 < (ndAt ns k).1 → ∀ m, m < q → nx.getD m 0 = s.1.getD ((ndAt ns k).2.getD m 0).toNat 0 - 1 ∧ 0 < s.1.getD ((ndAt ns k).2.getD m 0).toNat 0)
    (hn1 : ¬ 1 < (ndAt ns k).1 → nx = (ndAt ns k).2) :
    Inv q ns P (s.1.set k (s.2.length + 1 : Nat), s.2 ++ [((ndAt ns k).1, nx)]) := by
  have hkl : k < s.1.length := by rw [h.len]; exact hA.lt k hk
  have nn := h.nn
  have hge : ∀ j, (s.1.set k (s.2.length + 1 : Nat)).getD j 0 = if j = k then ((s.2.length + 1 : Nat) : Int) else s.1.getD j 0 := fun j => getD_set hkl
  have hlk : ∀ (x : Nd), (s.2 ++ [x]).length = s.2.length + 1 := fun x => by simp
  have ho := hA.one k hk
  -- a kid's place
  have hkid : ∀ m, m < q → 1 < (ndAt ns k).1 → 0 ≤ nx.getD m 0 ∧ (nx.getD m 0).toNat < s.2.length ∧ Eqv q s.2 (nx.getD m 0).toNat ns ((ndAt ns k).2.getD m 0).toNat ∧ (ndAt ns ((ndAt ns k).2.getD m 0).toNat).1 = (ndAt ns k).1 - 1 ∧ 0 ≤ (ndAt ns k).2.getD m 0 := by
    intro m hm hl
    obtain ⟨e1, e2⟩ := hnx hl m hm
    obtain ⟨p1, p2, p3⟩ := hA.kids k hk hl _ (getD_mem (l := (ndAt ns k).2) (s := m) (by rw [hA.len k hk]; exact hm))
    obtain ⟨n1, n2⟩ := h.num _ p2 e2
    rw [← e1] at n1 n2
    exact ⟨by omega, n1, n2, p3, p1⟩
  have hmem : ∀ z ∈ nx, ∃ m, m < q ∧ z = nx.getD m 0 := by
    intro z hz
    obtain ⟨m, hm, e⟩ := List.getElem_of_mem hz
    exact ⟨m, by omega, by rw [List.getD_eq_getElem?_getD, List.getElem?_eq_getElem hm, ← e]; rfl⟩
  have lev' : Lev q (s.2 ++ [((ndAt ns k).1, nx)]) (· < (s.2 ++ [((ndAt ns k).1, nx)]).length) := by
    refine ⟨fun i hi => hi, fun i hi => ?_, fun i hi => ?_, fun i hi hl z hz => ?_⟩
    · rw [hlk] at hi
      rcases Nat.lt_or_ge i s.2.length with h1 | h1
      · rw [ndAt_app_lt h1]; exact h.lev.len i h1
      · have : i = s.2.length := by omega
        rw [this, ndAt_app_len]; exact hlen
    · rw [hlk] at hi
      rcases Nat.lt_or_ge i s.2.length with h1 | h1
      · rw [ndAt_app_lt h1]; exact h.lev.one i h1
      · have : i = s.2.length := by omega
        rw [this, ndAt_app_len]; exact ho
    · rw [hlk] at hi
      rcases Nat.lt_or_ge i s.2.length with h1 | h1
      · rw [ndAt_app_lt h1] at hl hz ⊢
        obtain ⟨p1, p2, p3⟩ := h.lev.kids i h1 hl z hz
        exact ⟨p1, by rw [hlk]; omega, by rw [ndAt_app_lt p2]; exact p3⟩
      · have : i = s.2.length := by omega
        rw [this, ndAt_app_len] at hl hz ⊢
        obtain ⟨m, hm, rfl⟩ := hmem z hz
        obtain ⟨k1, k2, k3, k4, _⟩ := hkid m hm hl
        exact ⟨k1, by rw [hlk]; omega, by rw [ndAt_app_lt k2, k3.1]; exact k4⟩
  refine ⟨(List.length_set ..).trans h.len, lev', fun i hi hl z hz => ?_, fun j => ?_, fun j pj hj => ?_, fun i hi => ?_, ?_⟩
  · rw [hlk] at hi
    rcases Nat.lt_or_ge i s.2.length with h1 | h1
    · rw [ndAt_app_lt h1] at hl hz
      exact h.ordk i h1 hl z hz
    · have : i = s.2.length := by omega
      rw [this, ndAt_app_len] at hl hz
      obtain ⟨m, hm, rfl⟩ := hmem z hz
      obtain ⟨k1, k2, _⟩ := hkid m hm hl
      omega
  · rw [hge]
    have := h.nn j
    split <;> omega
  · rw [hge] at hj ⊢
    by_cases e : j = k
    · subst e
      rw [if_pos rfl]
      have e1 : ((((s.2.length + 1 : Nat) : Int)) - 1).toNat = s.2.length := by omega
      rw [e1]
      refine ⟨by rw [hlk]; omega, by rw [ndAt_app_len], fun ins hl hs => ?_⟩
      rw [ndAt_app_len] at hl
      cases ins with
      | nil => simp at hl; omega
      | cons t r =>
        have ht : t < q := hs t (by simp)
        simp only [val, Int.toNat_natCast, ndAt_app_len]
        rcases Int.lt_or_le 1 (ndAt ns j).1 with hl1 | hl1
        · obtain ⟨k1, k2, k3, k4, k5⟩ := hkid t ht hl1
          have hr : (r.length : Int) = (ndAt ns j).1 - 1 := by simp at hl; omega
          have a1 := (Eqv.app h.lev [((ndAt ns j).1, nx)] (ndAt s.2 (nx.getD t 0).toNat).1.toNat _ (by have := h.lev.one _ k2; omega) k2).2 r (by rw [ndAt_app_lt k2, k3.1, k4]; exact hr) (fun u hu => hs u (by simp [hu]))
          have a2 := k3.2 r (by rw [k3.1, k4]; exact hr) (fun u hu => hs u (by simp [hu]))
          rw [toNat_cast k1] at a1 a2
          rw [toNat_cast k5] at a2
          rw [a1, a2]
        · have : r = [] := by cases r with
            | nil => rfl
            | cons _ _ => simp at hl; omega
          subst this
          rw [hn1 (by omega)]
          rfl
    · rw [if_neg e] at hj ⊢
      obtain ⟨n1, n2⟩ := h.num j pj hj
      exact ⟨by rw [hlk]; omega, (Eqv.app h.lev _ (ndAt s.2 (s.1.getD j 0 - 1).toNat).1.toNat _ (by have := h.lev.one _ n1; omega) n1).trans n2⟩
  · rw [hlk] at hi
    rcases Nat.lt_or_ge i s.2.length with h1 | h1
    · obtain ⟨j, pj, ej⟩ := h.all i h1
      exact ⟨j, pj, by rw [hge, if_neg (by rintro rfl; omega)]; exact ej⟩
    · exact ⟨k, hk, by rw [hge, if_pos rfl]; omega⟩
  · rw [hlk]
    show s.2.length + 1 = cntP (s.1.set k _)
    rw [cntP_set _ _ _ hkl h0 (by omega), h.cnt]
theorem Inv.le {s : St} (h : Inv q ns P s) : s.2.length ≤ ns.length := by rw [h.cnt, ← h.len]; exact cntP_le _
/-- the state has grown -/
structure Gro (s t : St) : Prop where
  num : ∀ j, 0 < s.1.getD j 0 → t.1.getD j 0 = s.1.getD j 0
  out : ∃ ys, t.2 = s.2 ++ ys
theorem Gro.rfl' (s : St) : Gro s s := ⟨fun _ _ => rfl, [], by simp⟩
theorem Gro.trans {s t u : St} (h : Gro s t) (k : Gro t u) : Gro s u := by
  obtain ⟨a, ea⟩ := h.out
  obtain ⟨b, eb⟩ := k.out
  exact ⟨fun j hj => (k.num j (by rw [h.num j hj]; exact hj)).trans (h.num j hj), a ++ b, by rw [eb, ea, List.append_assoc]⟩
/-- the state ahead of a node's last step, and its elements -/
def kidsOf (ns : List Nd) (f k : Nat) (s : St) : St × List Int := if 1 < (ndAt ns k).1 then (ndAt ns k).2.foldl (kidStep ns f) (s, []) else (s, (ndAt ns k).2)
theorem dfs_new (ns : List Nd) (f k : Nat) (s : St) (h : ¬ 0 < s.1.getD k 0) : dfs ns (f + 1) k s = ((kidsOf ns f k s).1.1.set k ((kidsOf ns f k s).1.2.length + 1 : Nat), (kidsOf ns f k s).1.2 ++ [((ndAt ns k).1, (kidsOf ns f k s).2)]) := by
  rw [dfs_succ, if_neg h]; rfl
/-- a walk below level n does not come to a node at or above it -/
theorem dfs_ok (hA : Lev q ns P) : ∀ (f k : Nat) (s : St), (ndAt ns k).1 ≤ f → P k → Inv q ns P s →
    Inv q ns P (dfs ns f k s) ∧ Gro s (dfs ns f k s) ∧ 0 < (dfs ns f k s).1.getD k 0 ∧ (∀ j, (ndAt ns k).1 < (ndAt ns j).1 → P j → (dfs ns f k s).1.getD j 0 = s.1.getD j 0) ∧
      (¬ 0 < s.1.getD k 0 → (dfs ns f k s).1.getD k 0 = (dfs ns f k s).2.length)
  | 0, k, s, hf, hk, h => by have := hA.one k hk; omega
  | f + 1, k, s, hf, hk, h => by
    by_cases h0 : 0 < s.1.getD k 0
    · have e : dfs ns (f + 1) k s = s := by rw [dfs_succ, if_pos h0]
      rw [e]
      exact ⟨h, Gro.rfl' s, h0, fun _ _ _ => rfl, fun h => absurd h0 h⟩
    · rw [dfs_new ns f k s h0]
      have ll := hA.len k hk
      -- the fold over the kids
      have key : ∀ m, m ≤ q → 1 < (ndAt ns k).1 →
          Inv q ns P (((ndAt ns k).2.take m).foldl (kidStep ns f) (s, [])).1 ∧ Gro s (((ndAt ns k).2.take m).foldl (kidStep ns f) (s, [])).1 ∧
          (∀ j, (ndAt ns k).1 ≤ (ndAt ns j).1 → P j → (((ndAt ns k).2.take m).foldl (kidStep ns f) (s, [])).1.1.getD j 0 = s.1.getD j 0) ∧
          (((ndAt ns k).2.take m).foldl (kidStep ns f) (s, [])).2.length = m ∧
          ∀ i, i < m → (((ndAt ns k).2.take m).foldl (kidStep ns f) (s, [])).2.getD i 0 = (((ndAt ns k).2.take m).foldl (kidStep ns f) (s, [])).1.1.getD ((ndAt ns k).2.getD i 0).toNat 0 - 1 ∧
            0 < (((ndAt ns k).2.take m).foldl (kidStep ns f) (s, [])).1.1.getD ((ndAt ns k).2.getD i 0).toNat 0 := by
        intro m
        induction m with
        | zero => intro _ _; exact ⟨h, Gro.rfl' s, fun _ _ _ => rfl, rfl, fun i hi => absurd hi (by omega)⟩
        | succ m ih =>
          intro hm hl
          obtain ⟨i1, i2, i3, i4, i5⟩ := ih (by omega) hl
          have hml : m < (ndAt ns k).2.length := by omega
          have gm : (ndAt ns k).2.getD m 0 = (ndAt ns k).2[m] := by rw [List.getD_eq_getElem?_getD, List.getElem?_eq_getElem hml]; rfl
          obtain ⟨p1, p2, p3⟩ := hA.kids k hk hl _ (List.getElem_mem hml)
          have ee : ((ndAt ns k).2.take (m + 1)).foldl (kidStep ns f) (s, []) = kidStep ns f (((ndAt ns k).2.take m).foldl (kidStep ns f) (s, [])) (ndAt ns k).2[m] := by
            rw [List.take_add_one, List.getElem?_eq_getElem hml]
            simp only [Option.toList_some, List.foldl_append, List.foldl_cons, List.foldl_nil]
          rw [ee]
          generalize ((ndAt ns k).2.take m).foldl (kidStep ns f) (s, []) = X at i1 i2 i3 i4 i5 ⊢
          obtain ⟨d1, d2, d3, d4, _⟩ := dfs_ok hA f _ X.1 (by rw [p3]; omega) p2 i1
          simp only [kidStep]
          refine ⟨d1, i2.trans d2, fun j hj pj => ?_, by simp [i4], fun i hi => ?_⟩
          · rw [d4 j (by rw [p3]; omega) pj]; exact i3 j hj pj
          · rcases Nat.lt_or_ge i m with h1 | h1
            · obtain ⟨a1, a2⟩ := i5 i h1
              rw [List.getD_eq_getElem?_getD, List.getElem?_append_left (by omega), ← List.getD_eq_getElem?_getD, d2.num _ a2]
              exact ⟨a1, a2⟩
            · have : i = m := by omega
              subst this
              rw [List.getD_eq_getElem?_getD, List.getElem?_append_right (by omega), i4, Nat.sub_self, gm]
              exact ⟨rfl, d3⟩
      have fin : Inv q ns P (kidsOf ns f k s).1 ∧ Gro s (kidsOf ns f k s).1 ∧ (∀ j, (ndAt ns k).1 ≤ (ndAt ns j).1 → P j → (kidsOf ns f k s).1.1.getD j 0 = s.1.getD j 0) ∧ (kidsOf ns f k s).2.length = q ∧
          (1 < (ndAt ns k).1 → ∀ m, m < q → (kidsOf ns f k s).2.getD m 0 = (kidsOf ns f k s).1.1.getD ((ndAt ns k).2.getD m 0).toNat 0 - 1 ∧ 0 < (kidsOf ns f k s).1.1.getD ((ndAt ns k).2.getD m 0).toNat 0) ∧
          (¬ 1 < (ndAt ns k).1 → (kidsOf ns f k s).2 = (ndAt ns k).2) := by
        unfold kidsOf
        by_cases hl : 1 < (ndAt ns k).1
        · rw [if_pos hl]
          have := key q (Nat.le_refl _) hl
          rw [List.take_of_length_le (by omega)] at this
          obtain ⟨a1, a2, a3, a4, a5⟩ := this
          exact ⟨a1, a2, a3, a4, fun _ => a5, fun h => absurd hl h⟩
        · rw [if_neg hl]
          exact ⟨h, Gro.rfl' s, fun _ _ _ => rfl, ll, fun h => absurd h hl, fun _ => rfl⟩
      generalize kidsOf ns f k s = X at fin ⊢
      obtain ⟨a1, a2, a3, a4, a5, a6⟩ := fin
      have hx0 : ¬ 0 < X.1.1.getD k 0 := by rw [a3 k (by omega) hk]; exact h0
      have hkl : k < X.1.1.length := by rw [a1.len]; exact hA.lt k hk
      refine ⟨a1.push hA hk hx0 X.2 a4 a5 a6, a2.trans ⟨fun j hj => ?_, _, rfl⟩, ?_, fun j hj pj => ?_, fun _ => ?_⟩
      · show (X.1.1.set k _).getD j 0 = _
        rw [getD_set hkl, if_neg (by rintro rfl; exact hx0 hj)]
      · show 0 < (X.1.1.set k _).getD k 0
        rw [getD_set hkl, if_pos rfl]; omega
      · show (X.1.1.set k _).getD j 0 = _
        rw [getD_set hkl, if_neg (by rintro rfl; omega)]
        exact a3 j (by omega) pj
      · show (X.1.1.set k _).getD k 0 = ((X.1.2 ++ [_]).length : Nat)
        rw [getD_set hkl, if_pos rfl]; simp
end
section
variable {q : Nat} {ns : List Nd} {P : Nat → Prop}
/-- the nodes of a walk: in order, different, the root the last -/
theorem ord_ok (hA : Lev q ns P) (dA : Dis ns P) {f root : Nat} (hf : (ndAt ns root).1 ≤ f) (hr : P root) :
    Lev q (ord ns f root) (· < (ord ns f root).length) ∧ Dis (ord ns f root) (· < (ord ns f root).length) ∧
    (∀ i, i < (ord ns f root).length → 1 < (ndAt (ord ns f root) i).1 → ∀ k ∈ (ndAt (ord ns f root) i).2, k < (i : Int)) ∧
    0 < (ord ns f root).length ∧ Eqv q (ord ns f root) ((ord ns f root).length - 1) ns root ∧
    ∀ i, i < (ord ns f root).length → ∃ j, P j ∧ Eqv q (ord ns f root) i ns j := by
  obtain ⟨h1, h2, h3, h4, h5⟩ := dfs_ok hA f root _ hf hr (Inv.start q ns P)
  have hz : ¬ 0 < (List.replicate ns.length (0 : Int)).getD root 0 := by
    simp [List.getD_eq_getElem?_getD, List.getElem?_replicate]; split <;> simp
  have hn := h5 hz
  obtain ⟨n1, n2⟩ := h1.num root hr h3
  have e : ((dfs ns f root (List.replicate ns.length 0, [])).1.getD root 0 - 1).toNat = (ord ns f root).length - 1 := by
    rw [hn]; unfold ord; omega
  rw [e] at n1 n2
  refine ⟨h1.lev, h1.dis hA dA, h1.ordk, by unfold ord at n1 ⊢; omega, n2, fun i hi => ?_⟩
  obtain ⟨j, pj, ej⟩ := h1.all i hi
  refine ⟨j, pj, ?_⟩
  have := (h1.num j pj (by omega)).2
  have t : ((dfs ns f root (List.replicate ns.length 0, [])).1.getD j 0 - 1).toNat = i := by omega
  rw [t] at this
  exact this
end
end Go.Proofs.YtojnnfihpiegoaaDoor
namespace Go.Proofs.YtojnnfihpiegoaaDoor
set_option linter.unusedSimpArgs false
set_option linter.unusedVariables false

def dvL (l : List UInt8) : Nat := l.foldl (fun a c => 10 * a + (c.toNat - 48)) 0
theorem dec_small' {n : Nat} (h : n < 10) : Lib.decDigits n = [UInt8.ofNat (48 + n)] := by rw [Lib.decDigits, dif_pos h]
theorem dec_dv (n : Nat) : dvL (Lib.decDigits n) = n := by
  induction n using Nat.strongRecOn with
  | ind n ih =>
    by_cases h : n < 10
    · rw [dec_small' h]
      simp only [dvL, List.foldl_cons, List.foldl_nil, UInt8.toNat_ofNat']
      omega
    · rw [Lib.decDigits, dif_neg h]
      have := ih (n / 10) (by omega)
      unfold dvL at this ⊢
      rw [List.foldl_append, this]
      simp only [List.foldl_cons, List.foldl_nil, UInt8.toNat_ofNat']
      omega
theorem dec_dig (n : Nat) : ∀ c ∈ Lib.decDigits n, 48 ≤ c.toNat ∧ c.toNat ≤ 57 := by
  induction n using Nat.strongRecOn with
  | ind n ih =>
    by_cases h : n < 10
    · rw [dec_small' h]
      intro c hc
      rw [List.mem_singleton] at hc
      subst hc
      rw [UInt8.toNat_ofNat']
      omega
    · rw [Lib.decDigits, dif_neg h]
      intro c hc
      rcases List.mem_append.1 hc with hc | hc
      · exact ih (n / 10) (by omega) c hc
      · rw [List.mem_singleton] at hc
        subst hc
        rw [UInt8.toNat_ofNat']
        omega
theorem dec_ne (n : Nat) : Lib.decDigits n ≠ [] := by
  by_cases h : n < 10
  · rw [dec_small' h]; simp
  · rw [Lib.decDigits, dif_neg h]; simp
theorem dec_inj {m n : Nat} (h : Lib.decDigits m = Lib.decDigits n) : m = n := by rw [← dec_dv m, h, dec_dv]
theorem itoa_no32 (n : Int) : ∀ c ∈ Lib.itoa n, c ≠ 32 := by
  intro c hc
  unfold Lib.itoa at hc
  rintro rfl
  split at hc
  · rcases List.mem_cons.1 hc with h | h
    · exact absurd h (by decide)
    · have := (dec_dig _ _ h).1
      simp at this
  · have := (dec_dig _ _ hc).1
    simp at this
theorem itoa_inj {m n : Int} (h : Lib.itoa m = Lib.itoa n) : m = n := by
  unfold Lib.itoa at h
  have no45 : ∀ (k : Nat) (l : List UInt8), Lib.decDigits k ≠ 45 :: l := by
    intro k l he
    have := (dec_dig k 45 (by rw [he]; simp)).1
    simp at this
  split at h <;> split at h
  · injection h with _ h
    have := dec_inj h
    omega
  · exact absurd h.symm (no45 _ _)
  · exact absurd h (no45 _ _)
  · have := dec_inj h
    omega
def tailB (zs : List Int) : List UInt8 := zs.flatMap fun z => 32 :: Lib.itoa z
def keyB (x : Nd) : List UInt8 := Lib.itoa x.1 ++ tailB x.2
theorem tail_head (zs : List Int) : tailB zs = [] ∨ ∃ r, tailB zs = 32 :: r := by
  cases zs with
  | nil => exact .inl rfl
  | cons z r => exact .inr ⟨_, rfl⟩
theorem app_split : ∀ (a b r s : List UInt8), (∀ c ∈ a, c ≠ 32) → (∀ c ∈ b, c ≠ 32) → (r = [] ∨ ∃ t, r = 32 :: t) → (s = [] ∨ ∃ t, s = 32 :: t) → a ++ r = b ++ s → a = b ∧ r = s
  | [], [], r, s, _, _, _, _, h => ⟨rfl, h⟩
  | [], c :: b, r, s, _, hb, hr, _, h => by
    rcases hr with rfl | ⟨t, rfl⟩
    · simp at h
    · simp at h; exact absurd h.1.symm (hb c (by simp))
  | c :: a, [], r, s, ha, _, _, hs, h => by
    rcases hs with rfl | ⟨t, rfl⟩
    · simp at h
    · simp at h; exact absurd h.1 (ha c (by simp))
  | c :: a, d :: b, r, s, ha, hb, hr, hs, h => by
    simp only [List.cons_append, List.cons.injEq] at h
    obtain ⟨e1, e2⟩ := app_split a b r s (fun x hx => ha x (by simp [hx])) (fun x hx => hb x (by simp [hx])) hr hs h.2
    exact ⟨by rw [h.1, e1], e2⟩
theorem tail_inj : ∀ (zs ys : List Int), tailB zs = tailB ys → zs = ys
  | [], [], _ => rfl
  | [], y :: ys, h => by simp [tailB] at h
  | z :: zs, [], h => by simp [tailB] at h
  | z :: zs, y :: ys, h => by
    have h' : Lib.itoa z ++ tailB zs = Lib.itoa y ++ tailB ys := by
      simp only [tailB, List.flatMap_cons, List.cons_append, List.cons.injEq, true_and] at h
      exact h
    obtain ⟨e1, e2⟩ := app_split _ _ _ _ (itoa_no32 z) (itoa_no32 y) (tail_head zs) (tail_head ys) h'
    rw [itoa_inj e1, tail_inj zs ys e2]
theorem key_inj {x y : Nd} (h : keyB x = keyB y) : x = y := by
  obtain ⟨e1, e2⟩ := app_split _ _ _ _ (itoa_no32 x.1) (itoa_no32 y.1) (tail_head x.2) (tail_head y.2) h
  exact Prod.ext (itoa_inj e1) (tail_inj _ _ e2)
theorem tail_snoc (zs : List Int) (z : Int) : tailB (zs ++ [z]) = tailB zs ++ 32 :: Lib.itoa z := by simp [tailB]

/-- the place of a node -/
def posOf : List Nd → Nd → Option Nat
  | [], _ => none
  | y :: r, x => if y = x then some 0 else (posOf r x).map (· + 1)
theorem posOf_some : ∀ {ns : List Nd} {x : Nd} {i : Nat}, posOf ns x = some i → i < ns.length ∧ ndAt ns i = x
  | y :: r, x, i, h => by
    unfold posOf at h
    split at h
    · injection h with h; subst h
      rename_i e
      exact ⟨by simp, e⟩
    · cases hp : posOf r x with
      | none => rw [hp] at h; cases h
      | some j =>
        rw [hp] at h
        simp at h; subst h
        obtain ⟨a, b⟩ := posOf_some hp
        exact ⟨by simp; omega, b⟩
theorem posOf_none : ∀ {ns : List Nd} {x : Nd}, posOf ns x = none → x ∉ ns
  | [], x, _ => by simp
  | y :: r, x, h => by
    unfold posOf at h
    split at h
    · cases h
    · rename_i e
      cases hp : posOf r x with
      | some j => rw [hp] at h; cases h
      | none => simp only [List.mem_cons, not_or]; exact ⟨fun he => e he.symm, posOf_none hp⟩
theorem posOf_snoc : ∀ (ns : List Nd) (x y : Nd), posOf (ns ++ [y]) x = (posOf ns x).or (if y = x then some ns.length else none)
  | [], x, y => by simp [posOf]
  | z :: r, x, y => by
    simp only [List.cons_append, posOf, posOf_snoc r x y]
    split
    · rfl
    · cases hp : posOf r x with
      | some j => simp
      | none =>
        simp only [Option.none_or, Option.map_none]
        split <;> simp
/-- a node's number, and the nodes with it -/
def addN (ns : List Nd) (x : Nd) : Nat × List Nd := match posOf ns x with
  | some i => (i, ns)
  | none => (ns.length, ns ++ [x])
end Go.Proofs.YtojnnfihpiegoaaDoor
