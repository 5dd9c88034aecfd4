/-
  plaintext.Parse. At most 70000 bytes.
-/
import Derived.Test.YtblfeaapjloppaaDoorLine
import Derived.Test.YtblfeaapjloppaaDoorShelf
import Derived.Test.YtblfeaapjloppaaDoorOwn
namespace Go.Proofs.YtblfeaapjloppaaDoor
open Go.RowKit
set_option maxRecDepth 100000
set_option linter.unusedVariables false
set_option linter.unusedSimpArgs false
attribute [local go_sem] Oper.semAt_some

theorem Tryd.infoCell : (Tryd.prog.info? 34).map (fun i => (i.zero, i.size, i.bytes)) = some (some (.agg #[.int .i64 0, .int .i64 0, .int .i64 0]), 3, 24) := by kernel_rfl
def RetRead (r : List Cel × Int) (w : World) (e : Ending) (w' : World) : Prop := ∃ A c, e = .returned (.tuple #[.slice A r.1.length c, .int .i64 r.2]) ∧ Cls w' A r.1 ∧ Below w.heap.size w w'
theorem RetRead.bad {r : List Cel × Int} {k : Int} {w w' : World} (h : r = ([], k)) (hb : Below w.heap.size w w') : RetRead r w (.returned (.tuple #[.slice none 0 0, .int .i64 k])) w' := by
  subst h
  exact ⟨none, 0, rfl, Cls.nil, hb⟩
def okSt (k : Int) : Bool := decide (0 ≤ k)
theorem st31_i (c : UInt8) : st31 c = if (c.toNat : Int) = 46 then 0 else if (c.toNat : Int) = 79 then 1 else if 49 ≤ (c.toNat : Int) ∧ (c.toNat : Int) ≤ 55 then (c.toNat : Int) - 48 else -1 := by
  unfold st31
  have e1 : c = 46 ↔ (c.toNat : Int) = 46 := ⟨fun h => by rw [h]; rfl, fun h => UInt8.toNat_inj.1 (by show c.toNat = 46; omega)⟩
  have e2 : c = 79 ↔ (c.toNat : Int) = 79 := ⟨fun h => by rw [h]; rfl, fun h => UInt8.toNat_inj.1 (by show c.toNat = 79; omega)⟩
  have e3 : (49 ≤ c.toNat ∧ c.toNat ≤ 55) ↔ (49 ≤ (c.toNat : Int) ∧ (c.toNat : Int) ≤ 55) := by omega
  simp only [e1, e2, e3]
set_option maxHeartbeats 1000000 in
theorem state_any (c : UInt8) (w : World) : Calls Tryd.prog 22 #[.int .u8 c.toNat] w fun e w' => e = .returned (.tuple #[.int .i64 (if st31 c < 0 then 0 else st31 c), .bool (decide (0 ≤ st31 c))]) ∧ w' = w := by
  have hi := st31_i c
  have hb : (c.toNat : Int) < 256 := by have := c.toNat_lt; omega
  have hb0 : (0 : Int) ≤ c.toNat := by omega
  generalize (c.toNat : Int) = n at *
  generalize st31 c = v at *
  by_cases h1 : n = 46
  · rw [if_pos h1] at hi
    subst hi h1
    go_enter Tryd.func22, Tryd.ntmps22
    go_wp2
    go_ret2
    exact ⟨rfl, rfl⟩
  · have e1 : (n == 46) = false := by simpa using h1
    rw [if_neg h1] at hi
    clear h1
    by_cases h2 : n = 79
    · rw [if_pos h2] at hi
      subst hi h2
      go_enter Tryd.func22, Tryd.ntmps22
      go_wp2
      go_ret2
      exact ⟨rfl, rfl⟩
    · have e2 : (n == 79) = false := by simpa using h2
      rw [if_neg h2] at hi
      clear h2
      by_cases h3 : 49 ≤ n
      · have d3 : decide (49 ≤ n) = true := decide_eq_true h3
        by_cases h4 : n ≤ 55
        · have d4 : decide (n ≤ 55) = true := decide_eq_true h4
          have hw : IntKind.u8.wrap (n - 48) = n - 48 := by rw [IntKind.wrap_u8]; omega
          rw [if_pos ⟨h3, h4⟩] at hi
          rw [if_neg (by omega), hi, decide_eq_true (p := 0 ≤ n - 48) (by omega)]
          clear hi
          go_enter Tryd.func22, Tryd.ntmps22
          go_wp2
          go_ret2
          exact ⟨rfl, rfl⟩
        · have d4 : decide (n ≤ 55) = false := decide_eq_false h4
          rw [if_neg (fun h => h4 h.2)] at hi
          subst hi
          go_enter Tryd.func22, Tryd.ntmps22
          go_wp2
          go_ret2
          exact ⟨rfl, rfl⟩
      · have d3 : decide (49 ≤ n) = false := decide_eq_false h3
        rw [if_neg (fun h => h3 h.1)] at hi
        subst hi
        go_enter Tryd.func22, Tryd.ntmps22
        go_wp2
        go_ret2
        exact ⟨rfl, rfl⟩
/-- a cell pushed in a fenced walk -/
theorem wpListIn_pushC {F : Fence} {n : Nat} {P : Program} {wr : World} {ops : Array Oper} {rest : List Oper} {o : Oper} {a : Act} {Q : Exit → Act → World → Prop} (hgd : o.guard = none) (s x : Operand) (t : TypeId)
    (ho : o.op = .call { callee := .builtin .append, args := #[s, x], argTypes := #[t, t] })
    (base : Nat) (e : TypeId) (ht : P.underlying t = some (.slice e)) (hi : (P.info? e).map (fun i => (i.zero, i.size, i.bytes)) = some (some (.agg #[.int .i64 0, .int .i64 0, .int .i64 0]), 3, 24))
    (v : Value) (ps : List Cel) (hs : a.eval s = v) (hown : OwnC e wr base v ps)
    (p q r : Int) (hx : a.eval x = .slice (some ⟨wr.heap.size, 0, none⟩) 1 1)
    (hn : ps.length < 4294967296) (hbase : base ≤ wr.heap.size)
    (h : ∀ v' w', OwnC e w' base v' (ps ++ [⟨p, q, r⟩]) → Below base wr w' → KeepsOthers wr w' → wr.heap.size ≤ w'.heap.size → (∀ g t' cs, e ≠ t' → Blk wr g t' cs → Blk w' g t' cs) → wpListIn F n P ops Q rest (a.put o.dst v') w') :
    wpListIn F n P ops Q (o :: rest) a (wr.alloc (.cells #[.int .i64 p, .int .i64 q, .int .i64 r] e)) := by
  obtain ⟨i0, hi0, hz0, hz1, hz2⟩ := info_parts hi
  refine wpListIn_append_own _ hgd s x t ho base e i0 _ 3 24 ht hi0 hz0 hz1 hz2 rfl (by decide) v ps.length (ps.flatMap celCells) hs (World.ownsRow.alloc hown _) ⟨wr.heap.size, 0, none⟩ 1 1 [.int .i64 p, .int .i64 q, .int .i64 r] hx rfl ?_ (by simp [Value.oneCell']) (by unfold maxLen; omega) (by omega) (by simp; omega) ?_
  · intro j u hu
    rw [addr_add]
    have : (wr.alloc (.cells #[.int .i64 p, .int .i64 q, .int .i64 r] e)).cell? ⟨wr.heap.size, 0 + j, none⟩ = (#[.int .i64 p, .int .i64 q, .int .i64 r] : Array Value)[0 + j]? := cell_of_row _ _ _ _ _ _ (heap_alloc_new wr _)
    rw [this]
    simpa using hu
  · intro v' w' hown' hg _
    have hrow : ∀ k, v.ownBlock = some k → base ≤ k ∧ ∃ cur, wr.heap[k]? = some (.cells cur e (0, 0)) := by
      intro k hk
      rcases hown.2 with ⟨rfl, _⟩ | ⟨g, cap, cur, rfl, h4, h5, _⟩
      · simp [Value.ownBlock] at hk
      · simp [Value.ownBlock] at hk
        subst hk
        exact ⟨h4, cur, h5⟩
    refine h v' w' (by unfold OwnC; rw [List.length_append, List.flatMap_append]; exact hown') ?_ ?_ ?_ ?_
    · exact ((Below.refl base wr).alloc hbase _).grown hg (by simp; omega) (fun k hk => (hrow k hk).1)
    · refine (KeepsOthers.alloc wr _).trans (KeepsOthers.of_grownBy hg fun j o' ej hj => ?_)
      obtain ⟨-, cur, hc⟩ := hrow j ej
      rw [(Below.heap_alloc wr _ j (Array.getElem?_eq_some_iff.1 hc).1), hc] at hj
      cases hj
      rfl
    · have := hg.size
      simp at this
      omega
    · intro g t' cs hne hb
      exact (hb.alloc _).grown hg (fun e' => by
        obtain ⟨-, cur, hc⟩ := hrow g e'.symm
        unfold Blk at hb
        rw [hb] at hc
        injection hc with hc
        injection hc with _ hc
        exact hne hc.symm)
theorem blk_own {B g : Nat} {t : TypeId} {cs : Array Value} {W W' : World} {row : Option Nat} (h : Blk W g t cs) (hg : W.grownBy W' row) (hr : ∀ r, row = some r → B ≤ r ∧ ∃ o : Obj, W.heap[r]? = some o ∧ o.isCells = false) : Blk W' g t cs :=
  h.grown hg (fun e => by
    obtain ⟨_, o, ho, hc⟩ := hr g e.symm
    unfold Blk at h
    rw [h] at ho
    cases ho
    cases hc)
theorem ownC_own {B base : Nat} {e : TypeId} {v : Value} {ps : List Cel} {W W' : World} {row : Option Nat} (h : OwnC e W base v ps) (hg : W.grownBy W' row) (hr : ∀ r, row = some r → B ≤ r ∧ ∃ o : Obj, W.heap[r]? = some o ∧ o.isCells = false) : OwnC e W' base v ps := by
  refine World.ownsRow.kept h hg ?_
  rcases h.2 with ⟨rfl, _⟩ | ⟨g, cap, cur, rfl, _, hgb, _⟩
  · exact .inl rfl
  · refine .inr fun e' => ?_
    obtain ⟨_, o, ho, hc⟩ := hr g (by simpa [Value.ownBlock] using e'.symm)
    rw [hgb] at ho
    cases ho
    cases hc
theorem ownC_set {base b : Nat} {e : TypeId} {v u : Value} {ps : List Cel} {W : World} (h : OwnC e W base v ps) (hb : b < base) : OwnC e (W.setCell ⟨b, 0, none⟩ u) base v ps := by
  refine World.ownsRow.kept h (grownBy_setCell' W b u) ?_
  rcases h.2 with ⟨rfl, _⟩ | ⟨g, cap, cur, rfl, hg, _, _⟩
  · exact .inl rfl
  · refine .inr fun e' => ?_
    have : b = g := by simpa [Value.ownBlock] using e'.symm
    omega
/-- what the lines that have come have made -/
structure Made (pre : List ByteArray) (y : Int) (out : List Cel) : Prop where
  y0 : 0 ≤ y
  y1 : y ≤ pre.length
  n : out.length ≤ (pre.map ByteArray.size).sum
  m : ∀ rest, lm 0 (pre.map (·.data.toList) ++ rest) [] = lm y rest out
def PI (w : World) (R : Nat) (pre : List ByteArray) (W : World) : Prop :=
  ∃ v y out, Blk W R 24 #[.slice none 0 0] ∧ Blk W (R + 1) 25 #[.int .i64 0] ∧ Blk W (R + 1 + 1) 24 #[v] ∧ Blk W (R + 1 + 1 + 1) 3 #[.int .i64 y] ∧ OwnC 34 W (R + 7) v out ∧ Below R w W ∧ Hid (Made pre y out)
def PX (w : World) (R : Nat) (pre : List ByteArray) (W : World) : Prop :=
  Blk W R 24 #[.slice none 0 0] ∧ Blk W (R + 1) 25 #[.int .i64 15] ∧ Below R w W ∧ Hid (∀ rest, lm 0 (pre.map (·.data.toList) ++ rest) [] = ([], 15))
theorem PI.from_ {w : World} {R B : Nat} (hR : R ≤ w.heap.size) (hB : R ≤ B) : OwnFrom B (PI w R) := by
  rintro s W W' row ⟨v, y, out, h1, h2, h3, h4, h5, h6, h7⟩ hg hr
  exact ⟨v, y, out, blk_own h1 hg hr, blk_own h2 hg hr, blk_own h3 hg hr, blk_own h4 hg hr, ownC_own h5 hg hr, h6.grown hg (Nat.le_trans hR h6.size) (fun k e => Nat.le_trans hB (hr k e).1), h7⟩
theorem PX.from_ {w : World} {R B : Nat} (hR : R ≤ w.heap.size) (hB : R ≤ B) : OwnFrom B (PX w R) := by
  rintro s W W' row ⟨h1, h2, h6, h7⟩ hg hr
  exact ⟨blk_own h1 hg hr, blk_own h2 hg hr, h6.grown hg (Nat.le_trans hR h6.size) (fun k e => Nat.le_trans hB (hr k e).1), h7⟩
theorem PI.spare {w : World} {R : Nat} : Spare (R + 1 + 1 + 1 + 1) (PI w R) := by
  rintro s W u ⟨v, y, out, h1, h2, h3, h4, h5, h6, h7⟩
  exact ⟨v, y, out, h1.far (p := ⟨R + 4, 0, none⟩) (by simp) u, h2.far (p := ⟨R + 4, 0, none⟩) (by simp) u, h3.far (p := ⟨R + 4, 0, none⟩) (by simp) u, h4.far (p := ⟨R + 4, 0, none⟩) (by simp) u, ownC_set h5 (by omega), h6.setCell (p := ⟨R + 4, 0, none⟩) (by simp) u, h7⟩
theorem pre33 (l : List UInt8) : Lib.hasPrefix l [33] = decide (l.head? = some 33) := by
  cases l with
  | nil => rfl
  | cons c l =>
    show ([33] : List UInt8).isPrefixOf (c :: l) = _
    simp only [List.isPrefixOf, List.head?_cons, Option.some.injEq, Bool.and_true]
    by_cases h : c = 33
    · subst h; rfl
    · rw [decide_eq_false h, beq_eq_false_iff_ne]
      exact fun h' => h h'.symm
theorem Made.start : Made [] 0 [] := ⟨by simp, by simp, by simp, fun rest => rfl⟩
theorem Made.skip {pre : List ByteArray} {y : Int} {out : List Cel} {x : ByteArray} (h : Made pre y out) (hx : Lib.hasPrefix x.data.toList [33] = true) : Made (pre ++ [x]) y out := by
  rw [pre33] at hx
  refine ⟨h.y0, by have := h.y1; simp; omega, by have := h.n; simp; omega, fun rest => ?_⟩
  rw [List.map_append, List.append_assoc, h.m]
  show lm y (x.data.toList :: rest) out = _
  rw [lm, if_pos (of_decide_eq_true hx)]
theorem Made.line {pre : List ByteArray} {y : Int} {out o : List Cel} {x : ByteArray} (h : Made pre y out) (hx : Lib.hasPrefix x.data.toList [33] = false) (hl : lcs y 0 x.data.toList out = some o) (ho : o.length ≤ out.length + x.size) : Made (pre ++ [x]) (y + 1) o := by
  rw [pre33] at hx
  refine ⟨by have := h.y0; omega, by have := h.y1; simp; omega, by have := h.n; simp; omega, fun rest => ?_⟩
  rw [List.map_append, List.append_assoc, h.m]
  show lm y (x.data.toList :: rest) out = _
  rw [lm, if_neg (of_decide_eq_false hx), hl]
theorem Made.bad {pre : List ByteArray} {y : Int} {out : List Cel} {x : ByteArray} (h : Made pre y out) (hx : Lib.hasPrefix x.data.toList [33] = false) (hl : lcs y 0 x.data.toList out = none) (rest : List (List UInt8)) : lm 0 ((pre ++ [x]).map (·.data.toList) ++ rest) [] = ([], 15) := by
  rw [pre33] at hx
  rw [List.map_append, List.append_assoc, h.m]
  show lm y (x.data.toList :: rest) out = _
  rw [lm, if_neg (of_decide_eq_false hx), hl]
/-- what a line's bytes have made -/
structure LineI (y : Int) (l : List UInt8) (out : List Cel) (k : Nat) (o : List Cel) : Prop where
  n : o.length ≤ out.length + k
  m : lcs y 0 l out = lcs y k (l.drop k) o
theorem LineI.start (y : Int) (l : List UInt8) (out : List Cel) : LineI y l out 0 out := ⟨by simp, rfl⟩
theorem LineI.bad {y : Int} {l : List UInt8} {out o : List Cel} {k : Nat} (h : LineI y l out k o) (hk : k < l.length) (hs : st31 l[k] < 0) : lcs y 0 l out = none := by
  rw [h.m, List.drop_eq_getElem_cons hk, lcs, if_pos hs]
theorem LineI.dot {y : Int} {l : List UInt8} {out o : List Cel} {k : Nat} (h : LineI y l out k o) (hk : k < l.length) (hs : st31 l[k] = 0) : LineI y l out (k + 1) o :=
  ⟨by have := h.n; omega, by rw [h.m, List.drop_eq_getElem_cons hk, lcs, if_neg (by omega), if_neg (by omega)]; rfl⟩
theorem LineI.cel {y : Int} {l : List UInt8} {out o : List Cel} {k : Nat} (h : LineI y l out k o) (hk : k < l.length) (hs : 0 < st31 l[k]) : LineI y l out (k + 1) (o ++ [⟨k, y, st31 l[k]⟩]) :=
  ⟨by have := h.n; simp; omega, by rw [h.m, List.drop_eq_getElem_cons hk, lcs, if_neg (by omega), if_pos hs]; rfl⟩
theorem LineI.done {y : Int} {l : List UInt8} {out o : List Cel} {k : Nat} (h : LineI y l out k o) (hk : l.length ≤ k) : lcs y 0 l out = some o := by
  rw [h.m, List.drop_of_length_le hk, lcs]
theorem st31_le (c : UInt8) : st31 c ≤ 7 := by
  have := st31_i c
  split at this
  · omega
  · split at this
    · omega
    · split at this <;> omega
theorem blk_put {w : World} {g D : Nat} {t : TypeId} {cs : Array Value} (h : Blk w g t cs) (hD : g ≠ D) (o : Obj) : Blk (w.putObj D o) g t cs := (World.putObj_heap_other hD).trans h
theorem trim_cases (l : List UInt8) : ∃ tail : Bool, l = Lib.trimSuffix l [10] ++ (if tail then [10] else []) := by
  unfold Lib.trimSuffix
  by_cases h : Lib.hasSuffix l [10] = true
  · refine ⟨true, ?_⟩
    rw [if_pos h, if_pos rfl]
    obtain ⟨q, hq⟩ := List.isSuffixOf_iff_suffix.1 h
    rw [← hq]
    simp
  · exact ⟨false, by rw [if_neg h]; simp⟩
theorem trim_len (l : List UInt8) : (Lib.trimSuffix l [10]).length ≤ l.length := by
  obtain ⟨tail, h⟩ := trim_cases l
  have := congrArg List.length h
  rw [List.length_append] at this
  omega
theorem trim_rm {s t : ByteArray} (ht : t = ⟨(Lib.trimSuffix s.data.toList [10]).toArray⟩) (ls : List ByteArray) (h : Lines t ls) : lm 0 (ls.map (·.data.toList)) [] = rm s.data.toList ⟨[], 0, 0, false, true⟩ := by
  obtain ⟨tail, hl⟩ := trim_cases s.data.toList
  have h2 := rm_lm (ls.map (·.data.toList)) tail 0 [] (by simpa using h.1) (by
    intro l hl c hc
    obtain ⟨x, hx, rfl⟩ := List.mem_map.1 hl
    exact h.2.1 x hx c hc)
  rw [← h2, h.2.2, ht]
  show rm (Lib.trimSuffix s.data.toList [10] ++ _) _ = _
  rw [← hl]
theorem len31 {a b c d : Nat} (h1 : a ≤ b + c) (h2 : b + d ≤ 65536) (h3 : c < d) : a < 4294967296 := by omega
theorem le31 {a b c : Nat} (h1 : b = a + 7) (h2 : b ≤ c) : a + 7 ≤ c := by omega
theorem wr31 {k n : Nat} (h : k < n) (hn : n ≤ 65536) : wrap64 ((k : Int) + 1) = ((k + 1 : Nat) : Int) := by unfold wrap64; omega
theorem wy31 {y : Int} (h0 : 0 ≤ y) (h1 : y ≤ 65536) : wrap64 (y + 1) = y + 1 := by unfold wrap64; omega
theorem ms31 {n k : Nat} (h : k < n) : n - (intOf (.int .i64 ((k + 1 : Nat) : Int))).toNat < n - (intOf (.int .i64 (k : Int))).toNat := by
  simp [intOf]
  omega
set_option maxHeartbeats 4000000 in
theorem parse_any (s : ByteArray) (w : World) (hs : s.size ≤ 65536) :
    Calls Tryd.prog 9 #[.string s] w (RetRead (rm s.data.toList ⟨[], 0, 0, false, true⟩) w) := by
  have d0 : decide ((65536 : Int) < s.size) = false := decide_eq_false (by omega)
  obtain ⟨t, ht⟩ : ∃ t : ByteArray, t = ⟨(Lib.trimSuffix s.data.toList [10]).toArray⟩ := ⟨_, rfl⟩
  have hT := fun w => (callsIn_wide (n := 8)).2 (Tryd.strings_TrimSuffix s ⟨#[10]⟩ w (by omega))
  have e10 : (⟨#[10]⟩ : ByteArray).data.toList = [10] := rfl
  rw [e10, ← ht] at hT
  have HT := Lib.hid ht
  clear ht e10
  have hS := fun w => (callsIn_wide (n := 8)).2 (SplitSeq_any t w)
  refine callsIn_wide (n := 9) |>.1 ?_
  refine callsIn_of_wp_marks Tryd.func9 rfl trivial ?_ rfl
  simp only [Tryd.ntmps9, List.size_toArray, List.length_cons, List.length_nil, Nat.reduceAdd, Nat.reduceSub, Array.replicate_succ, Array.replicate_zero, List.push_toArray, List.append_toArray, List.nil_append, List.cons_append]
  gi_wp2
  refine ⟨trivial, (hT _).mono ?_⟩
  rintro e w1 ⟨rfl, hw1⟩
  have hw2 := hw1.symm
  clear hw1
  subst hw2
  gi_wp2
  refine ⟨trivial, (hS _).mono ?_⟩
  rintro e w1 ⟨rfl, hw1⟩
  gi_wp2
  have hB0 : Below w.heap.size w ((((w.alloc (.cells #[.slice none 0 0] 24)).alloc (.cells #[.int .i64 0] 25)).alloc (.cells #[.slice none 0 0] 24)).alloc (.cells #[.int .i64 0] 3)) :=
    ((((Below.refl _ w).alloc (Nat.le_refl _) _).alloc (by simp) _).alloc (by simp; omega) _).alloc (by simp; omega) _
  obtain ⟨W4, hW4⟩ : ∃ W4, W4 = ((((w.alloc (.cells #[.slice none 0 0] 24)).alloc (.cells #[.int .i64 0] 25)).alloc (.cells #[.slice none 0 0] 24)).alloc (.cells #[.int .i64 0] 3)) := ⟨_, rfl⟩
  have hz4 : W4.heap.size = w.heap.size + 1 + 1 + 1 + 1 := by rw [hW4]; simp
  have k0 : Blk W4 w.heap.size 24 #[.slice none 0 0] := by rw [hW4]; exact (((Blk.new w _ _).alloc _).alloc _).alloc _
  have k1 : Blk W4 (w.heap.size + 1) 25 #[.int .i64 0] := by
    rw [hW4]
    have h := Blk.new (w.alloc (.cells #[.slice none 0 0] 24)) 25 #[.int .i64 0]
    rw [World.size_alloc] at h
    exact (h.alloc _).alloc _
  have k2 : Blk W4 (w.heap.size + 1 + 1) 24 #[.slice none 0 0] := by
    rw [hW4]
    have h := Blk.new ((w.alloc (.cells #[.slice none 0 0] 24)).alloc (.cells #[.int .i64 0] 25)) 24 #[.slice none 0 0]
    rw [World.size_alloc, World.size_alloc] at h
    exact h.alloc _
  have k3 : Blk W4 (w.heap.size + 1 + 1 + 1) 3 #[.int .i64 0] := by
    rw [hW4]
    have h := Blk.new (((w.alloc (.cells #[.slice none 0 0] 24)).alloc (.cells #[.int .i64 0] 25)).alloc (.cells #[.slice none 0 0] 24)) 3 #[.int .i64 0]
    rw [World.size_alloc, World.size_alloc, World.size_alloc] at h
    exact h
  rw [← hW4] at hB0 ⊢
  clear hW4
  have b1 : Blk (boxes t W4) (w.heap.size + 1 + 1 + 1 + 1) 9 #[.string t] := by rw [← hz4]; exact ((Blk.new W4 _ _).alloc _).alloc _
  have b2 : Blk (boxes t W4) (w.heap.size + 1 + 1 + 1 + 1 + 1) 9 #[.string ⟨#[10]⟩] := by
    have h := Blk.new (W4.alloc (.cells #[.string t] 9)) 9 #[.string ⟨#[10]⟩]
    rw [World.size_alloc, hz4] at h
    exact h.alloc _
  have b3 : Blk (boxes t W4) (w.heap.size + 1 + 1 + 1 + 1 + 1 + 1) 3 #[.int .i64 0] := by
    have h := Blk.new ((W4.alloc (.cells #[.string t] 9)).alloc (.cells #[.string ⟨#[10]⟩] 9)) 3 #[.int .i64 0]
    rw [World.size_alloc, World.size_alloc, hz4] at h
    exact h
  have hz7 : (boxes t W4).heap.size = w.heap.size + 7 := by unfold boxes; simp [hz4]
  have hB7 : Below w.heap.size w (boxes t W4) := ((hB0.alloc (by omega) _).alloc (by simp; omega) _).alloc (by simp; omega) _
  have HI0 : PI w w.heap.size [] (boxes t W4) := ⟨.slice none 0 0, 0, [], ((k0.alloc _).alloc _).alloc _, ((k1.alloc _).alloc _).alloc _, ((k2.alloc _).alloc _).alloc _, ((k3.alloc _).alloc _).alloc _, OwnC.nil _ _ _, hB7, Lib.hid Made.start⟩
  have HTL : Hid (t.size ≤ 65536) := Lib.hid (by rw [HT.out]; exact Nat.le_trans (trim_len s.data.toList) hs)
  have HTS : Hid (∀ ls, Lines t ls → lm 0 (ls.map (·.data.toList)) [] = rm s.data.toList ⟨[], 0, 0, false, true⟩) := Lib.hid (trim_rm HT.out)
  have hsq := lines_any t (by have := HTL.out; omega) (w.heap.size + 1 + 1 + 1 + 1) (boxes t W4) b1 b2 b3
  obtain ⟨W7, hW7⟩ : ∃ W7, W7 = boxes t W4 := ⟨_, rfl⟩
  rw [← hW7] at hsq hB7 HI0 hz7 ⊢
  clear hW7 b1 b2 b3 k0 k1 k2 k3 hB0 hz4 hT hS
  refine wpIn_rangeBox (gf := 52) (lb := #[.pointer (some ⟨w.heap.size + 1 + 1 + 1 + 1 + 1, 0, none⟩), .pointer (some ⟨w.heap.size + 1 + 1 + 1 + 1, 0, none⟩), .pointer (some ⟨w.heap.size + 1 + 1 + 1 + 1 + 1 + 1, 0, none⟩)]) rfl (enters_of Tryd.func52 (by kernel_rfl) rfl) hsq (Below.refl _ _) (by omega) (by omega) rfl
    (PI w w.heap.size) (PX w w.heap.size) (PI.from_ (Nat.le_refl _) (by omega)) (PX.from_ (Nat.le_refl _) (by omega)) PI.spare HI0
    (fun x => { tmps := #[.string s, undef, .pointer (some ⟨w.heap.size, 0, none⟩), .pointer (some ⟨w.heap.size + 1, 0, none⟩), .pointer (some ⟨w.heap.size + 1 + 1, 0, none⟩), .pointer (some ⟨w.heap.size + 1 + 1 + 1, 0, none⟩), .string x, undef, undef, undef, .string s, .int .i64 s.size, .bool false, .string s, .string t, seqAt (w.heap.size + 1 + 1 + 1 + 1), .string x,
      undef, undef, undef, undef, undef, undef, undef, undef, undef, undef, undef, undef, undef, undef, undef, undef, undef, undef, undef, undef, undef, undef, undef, undef, undef, undef, undef, undef, undef, undef, undef, undef], defers := [] }) ?assign ?body ?done ?stop
  case assign =>
    intro l x W K hK
    gi_wp2
    exact hK
  case body =>
    clear hsq HI0 hB7 HTS d0
    rintro l pre x W hWs ⟨v, y, out, h1, h2, h3, h4, h5, h6, H7⟩ hOk
    have hxs : x.size ≤ 65536 := by have := HTL.out; unfold Fits at hOk; omega
    have hy0 : 0 ≤ y := H7.out.y0
    have hy1 : y ≤ 65536 := by have := H7.out.y1; have := HTL.out; unfold Fits at hOk; omega
    have hol : out.length + x.size ≤ 65536 := by have := H7.out.n; have := HTL.out; unfold Fits at hOk; omega
    have hP := fun w => (callsIn_wide (n := 6)).2 (Tryd.strings_HasPrefix x ⟨#[33]⟩ w)
    have e33 : (⟨#[33]⟩ : ByteArray).data.toList = [33] := rfl
    rw [e33] at hP
    clear e33 hOk
    cases hpx : Lib.hasPrefix x.data.toList [33] with
    | true =>
      rw [hpx] at hP
      have HM := Lib.hid (H7.out.skip hpx)
      clear hpx
      gi_wp2
      refine ⟨trivial, CallsIn.inRound l ((hP _).mono ?_)⟩
      rintro e w1 ⟨rfl, hw1⟩
      have hw2 := hw1.symm
      clear hw1
      subst hw2
      gi_wp2
      exact ⟨KeepsOthers.refl _, Held.refl _ _ _, v, y, out, h1, h2, h3, h4, h5, h6, HM⟩
    | false =>
      rw [hpx] at hP
      have HPX := Lib.hid hpx
      clear hpx
      gi_wp2
      refine ⟨trivial, CallsIn.inRound l ((hP _).mono ?_)⟩
      rintro e w1 ⟨rfl, hw1⟩
      have hw2 := hw1.symm
      clear hw1
      subst hw2
      gi_wp2
      have HBX : Hid (∀ j (h : j < x.size) (h' : j < x.data.toList.length), x.data.toList[j] = x[j]) := Lib.hid (fun j h h' => rfl)
      gi_loopw [7, 8, 9, 21] (fun _ _ _ i wr => ∃ (k : Nat) (v' : Value) (o : List Cel), i = .int .i64 k ∧ k ≤ x.size ∧ Blk wr w.heap.size 24 #[.slice none 0 0] ∧ Blk wr (w.heap.size + 1) 25 #[.int .i64 0] ∧ Blk wr (w.heap.size + 1 + 1) 24 #[v'] ∧ Blk wr (w.heap.size + 1 + 1 + 1) 3 #[.int .i64 y] ∧ OwnC 34 wr (w.heap.size + 7) v' o ∧ Below w.heap.size w wr ∧ KeepsOthers W wr ∧ Held (w.heap.size + 1 + 1 + 1 + 1) (w.heap.size + 1 + 1 + 1 + 1 + 3) W wr ∧ W7.heap.size ≤ wr.heap.size ∧ Hid (LineI y x.data.toList out k o)) (fun _ _ _ i _ => x.size - (intOf i).toNat)
      case atStart => exact ⟨0, v, out, rfl, Nat.zero_le _, h1, h2, h3, h4, h5, h6, KeepsOthers.refl _, Held.refl _ _ _, hWs, Lib.hid (LineI.start _ _ _)⟩
      case round =>
        clear h1 h2 h3 h4 h5 h6 hWs
        obtain ⟨k, v', o, rfl, hk, h1, h2, h3, h4, h5, h6, hko, hhe, hWs, HL⟩ := hrel
        have hon : o.length ≤ out.length + k := HL.out.n
        by_cases hlt : k < x.size
        · have dk : decide ((k : Int) < x.size) = true := decide_eq_true (by omega)
          have hkl : k < x.data.toList.length := hlt
          have hST := fun w => (callsIn_wide (n := 6)).2 (state_any (x[k]'hlt) w)
          have HE := Lib.hid (HBX.out k hlt hkl)
          have hle := st31_le (x[k]'hlt)
          have hw1 : wrap64 ((k : Int) + 1) = ((k + 1 : Nat) : Int) := wr31 hlt hxs
          by_cases hs0 : st31 (x[k]'hlt) < 0
          · have HB := Lib.hid (H7.out.bad HPX.out (HL.out.bad hkl (by rw [HE.out]; exact hs0)))
            have dz : decide (0 ≤ st31 (x[k]'hlt)) = false := decide_eq_false (by omega)
            rw [if_pos hs0, dz] at hST
            have c0 := h1.cell 0
            have f0 := h1.frozen 0
            have h1' := h1.set_ 0 (.slice none 0 0)
            have h2' := h2.far (p := ⟨w.heap.size, 0, none⟩) (by simp) (.slice none 0 0)
            have c1 := h2'.cell 0
            have f1 := h2'.frozen 0
            clear hs0 dz hle hw1 hon HE HL hkl h3 h4 h5 HBX
            gi_wp2
            refine ⟨trivial, CallsIn.inRound l ((hST _).mono ?_)⟩
            rintro e w1 ⟨rfl, hw1⟩
            have hw2 := hw1.symm
            clear hw1
            subst hw2
            gi_wp2
            exact ⟨(hko.trans (KeepsOthers.setCell _ _ _)).trans (KeepsOthers.setCell _ _ _), h1'.far (p := ⟨w.heap.size + 1, 0, none⟩) (by simp) _, h2'.set_ 0 _, (h6.setCell (p := ⟨w.heap.size, 0, none⟩) (Nat.le_refl _) _).setCell (p := ⟨w.heap.size + 1, 0, none⟩) (by simp) _, Lib.hid HB.out⟩
          · have dz : decide (0 ≤ st31 (x[k]'hlt)) = true := decide_eq_true (by omega)
            rw [if_neg hs0, dz] at hST
            by_cases hs1 : 0 < st31 (x[k]'hlt)
            · have d1 : decide (0 < st31 (x[k]'hlt)) = true := decide_eq_true hs1
              have HL2 := Lib.hid (HL.out.cel hkl (by rw [HE.out]; exact hs1))
              rw [HE.out] at HL2
              have c2 := h3.cell 0
              have f2 := h3.frozen 0
              have c3 := h4.cell 0
              have hlen : o.length < 4294967296 := len31 hon hol hlt
              have hbs : w.heap.size + 7 ≤ wr.heap.size := le31 hz7 hWs
              have hown := h5
              clear hs0 hs1 dz hle hon h5
              gi_wp2
              refine ⟨trivial, CallsIn.inRound l ((hST _).mono ?_)⟩
              rintro e w1 ⟨rfl, hw1'⟩
              have hw2 := hw1'.symm
              clear hw1'
              subst hw2
              clear hST
              gi_wp2_with (gi_at_builtin; refine wpListIn_pushC rfl _ _ _ rfl (w.heap.size + 7) 34 Tryd.underlying24 Tryd.infoCell _ _ rfl hown _ _ _ rfl hlen hbs ?_)
              intro v2 w9 ho9 hb9 hko9 hsz9 hbl9
              obtain ⟨A9, c9, hv9, -, -⟩ := ho9.cls
              rw [List.length_append, List.length_singleton] at hv9
              subst hv9
              have h1' := hbl9 _ _ _ (by decide) h1
              have h2' := hbl9 _ _ _ (by decide) h2
              have h3' := hbl9 _ _ _ (by decide) h3
              have h4' := hbl9 _ _ _ (by decide) h4
              clear c2 f2 c3
              have c2 := h3'.cell 0
              have f2 := h3'.frozen 0
              gi_wp2
              go_roundw
              case rel => exact ⟨k + 1, _, _, rfl, hlt, h1'.far (p := ⟨w.heap.size + 1 + 1, 0, none⟩) (by simp <;> omega) _, h2'.far (p := ⟨w.heap.size + 1 + 1, 0, none⟩) (by simp <;> omega) _, h3'.set_ 0 _, h4'.far (p := ⟨w.heap.size + 1 + 1, 0, none⟩) (by simp <;> omega) _, ownC_set ho9 (by omega), (h6.trans (hb9.mono (by omega))).setCell (p := ⟨w.heap.size + 1 + 1, 0, none⟩) (by simp <;> omega) _, (hko.trans hko9).trans (KeepsOthers.setCell _ _ _), (hhe.below hb9 (by omega)).setCell (p := ⟨w.heap.size + 1 + 1, 0, none⟩) (by simp <;> omega) _, by rw [World.size_setCell]; omega, HL2⟩
              case measure => exact ms31 hlt
            · have d1 : decide (0 < st31 (x[k]'hlt)) = false := decide_eq_false hs1
              have HL2 := Lib.hid (HL.out.dot hkl (by rw [HE.out]; omega))
              clear hs0 hs1 dz hle hon
              gi_wp2
              refine ⟨trivial, CallsIn.inRound l ((hST _).mono ?_)⟩
              rintro e w1 ⟨rfl, hw1'⟩
              have hw2 := hw1'.symm
              clear hw1'
              subst hw2
              clear hST
              gi_wp2
              go_roundw
              case rel => exact ⟨k + 1, v', _, rfl, hlt, h1, h2, h3, h4, h5, h6, hko, hhe, hWs, HL2⟩
              case measure => exact ms31 hlt
        · have dk : decide ((k : Int) < x.size) = false := decide_eq_false (by omega)
          have HM := Lib.hid (H7.out.line HPX.out (HL.out.done (Nat.le_of_not_lt hlt)) (Nat.le_trans hon (Nat.add_le_add_left hk _)))
          have c3 := h4.cell 0
          have f3 := h4.frozen 0
          have hyw : wrap64 (y + 1) = y + 1 := wy31 hy0 hy1
          clear HL hon
          gi_wp2
          exact ⟨hko.trans (KeepsOthers.setCell _ _ _), hhe.setCell (p := ⟨w.heap.size + 1 + 1 + 1, 0, none⟩) (.inl (Nat.lt_succ_self _)) _, v', y + 1, o, h1.far (p := ⟨w.heap.size + 1 + 1 + 1, 0, none⟩) (by simp <;> omega) _, h2.far (p := ⟨w.heap.size + 1 + 1 + 1, 0, none⟩) (by simp <;> omega) _, h3.far (p := ⟨w.heap.size + 1 + 1 + 1, 0, none⟩) (by simp <;> omega) _, h4.set_ 0 _, ownC_set h5 (by omega), h6.setCell (p := ⟨w.heap.size + 1 + 1 + 1, 0, none⟩) (by simp <;> omega) _, HM⟩
  case done =>
    clear hsq HI0
    rintro D ys W hD hS ⟨v, y, out, h1, h2, h3, h4, h5, h6, H7⟩ hK
    have hm := HTS.out ys hS
    have hm2 := H7.out.m []
    rw [List.append_nil, hm, lm] at hm2
    have HM := Lib.hid hm2
    have hDR : w.heap.size + 7 ≤ D := by omega
    have c0 := h1.cell 0
    have f0 := h1.frozen 0
    have c2 := h3.cell 0
    have hown := h5
    obtain ⟨A, c, hv, -, -⟩ := h5.cls
    subst hv
    have hold := h5.cls
    by_cases hbig : 5000 < out.length
    · have dl : decide ((5000 : Int) < out.length) = true := decide_eq_true (by omega)
      have HR := Lib.hid (HM.out.trans (if_pos hbig))
      have h1' := h1.set_ 0 (.slice none 0 0)
      have h2' := h2.far (p := ⟨w.heap.size, 0, none⟩) (by simp) (.slice none 0 0)
      have c1 := h2'.cell 0
      have f1 := h2'.frozen 0
      clear hm hm2 hbig hS h5 hown hold
      gi_wp2
      have hK1 := (KeepsOthers.setCell W ⟨w.heap.size, 0, none⟩ (.slice none 0 0)).same D _ hK rfl
      have hK2 := (KeepsOthers.setCell _ ⟨w.heap.size + 1, 0, none⟩ (.int .i64 6)).same D _ hK1 rfl
      refine ⟨by simp, .inl ⟨_, _, rfl, run_takeDeferred hK2, ?_⟩⟩
      have e0 := (blk_put (h1'.far (p := ⟨w.heap.size + 1, 0, none⟩) (by simp) (.int .i64 6)) (D := D) (by omega) (.deferred none)).cell 0
      have e1 := (blk_put (h2'.set_ 0 (.int .i64 6)) (D := D) (by omega) (.deferred none)).cell 0
      refine ⟨.tuple #[.slice none 0 0, .int .i64 6], ?_, RetRead.bad HR.out (((h6.setCell (p := ⟨w.heap.size, 0, none⟩) (Nat.le_refl _) _).setCell (p := ⟨w.heap.size + 1, 0, none⟩) (by simp) _).trans (belowK_b (w := w) (Nat.le_refl _) _ D _ _ (by omega) hK2 rfl rfl))⟩
      simp [results, Tryd.f9, go_sem, e0, e1]
    · have dl : decide ((5000 : Int) < out.length) = false := decide_eq_false (by omega)
      have HR := Lib.hid (HM.out.trans (if_neg hbig))
      have h1' := h1.set_ 0 (.slice A out.length c)
      have h2' := h2.far (p := ⟨w.heap.size, 0, none⟩) (by simp) (.slice A out.length c)
      have c1 := h2'.cell 0
      have f1 := h2'.frozen 0
      have HO := Lib.hid hown
      clear hm hm2 hbig hS h5 hown hold
      gi_wp2
      have hK1 := (KeepsOthers.setCell W ⟨w.heap.size, 0, none⟩ (.slice A out.length c)).same D _ hK rfl
      have hK2 := (KeepsOthers.setCell _ ⟨w.heap.size + 1, 0, none⟩ (.int .i64 0)).same D _ hK1 rfl
      refine ⟨by simp, .inl ⟨_, _, rfl, run_takeDeferred hK2, ?_⟩⟩
      have e0 := (blk_put (h1'.far (p := ⟨w.heap.size + 1, 0, none⟩) (by simp) (.int .i64 0)) (D := D) (by omega) (.deferred none)).cell 0
      have e1 := (blk_put (h2'.set_ 0 (.int .i64 0)) (D := D) (by omega) (.deferred none)).cell 0
      have hO2 : OwnC 34 (((W.setCell ⟨w.heap.size, 0, none⟩ (.slice A out.length c)).setCell ⟨w.heap.size + 1, 0, none⟩ (.int .i64 0)).putObj D (.deferred none)) (w.heap.size + 7) (.slice A out.length c) out :=
        ownsRow_putObj (ownC_set (ownC_set HO.out (by omega)) (by omega)) _ hK2 rfl
      obtain ⟨A', c', hv', hcl, -⟩ := hO2.cls
      injection hv' with hA' _ hc'
      subst hA' hc'
      refine ⟨.tuple #[.slice A out.length c, .int .i64 0], ?_, ⟨A, c, by rw [HR.out], by rw [HR.out]; exact hcl, ((h6.setCell (p := ⟨w.heap.size, 0, none⟩) (Nat.le_refl _) _).setCell (p := ⟨w.heap.size + 1, 0, none⟩) (by simp) _).trans (belowK_b (w := w) (Nat.le_refl _) _ D _ _ (by omega) hK2 rfl rfl)⟩⟩
      simp [results, Tryd.f9, go_sem, e0, e1]
  case stop =>
    clear hsq HI0
    rintro D pre rest W hD hS ⟨h1, h2, h6, H7⟩ hK
    have hm := HTS.out _ hS
    rw [List.map_append, H7.out] at hm
    have HR := Lib.hid hm.symm
    have hDR : w.heap.size + 7 ≤ D := by omega
    clear hm hS
    gi_wp2
    refine ⟨by simp, .inl ⟨_, _, rfl, run_takeDeferred hK, ?_⟩⟩
    have e0 := (blk_put h1 (D := D) (by omega) (.deferred none)).cell 0
    have e1 := (blk_put h2 (D := D) (by omega) (.deferred none)).cell 0
    refine ⟨.tuple #[.slice none 0 0, .int .i64 15], ?_, RetRead.bad HR.out (h6.trans (belowK_b (w := w) (Nat.le_refl _) _ D _ _ (by omega) hK rfl rfl))⟩
    simp [results, Tryd.f9, go_sem, e0, e1]
end Go.Proofs.YtblfeaapjloppaaDoor
