/-
  A tree variable in memory, the contracts over trees, and the examples' trees. No condition.
  The chapter's examples: the walk. No condition but that the library's table and the matrices are there.
-/
import Derived.Test.YtojnnfihpiegoaaDoorZTurn
import Derived.Test.YtojnnfihpiegoaaDoorZChs
import Derived.Test.YtojnnfihpiegoaaDoorZCg
import Derived.Test.YtojnnfihpiegoaaDoorZCj
namespace Go.Proofs.YtojnnfihpiegoaaDoor
open Go.RowKit Go.Maps
set_option maxRecDepth 100000
set_option linter.unusedVariables false
set_option linter.unusedSimpArgs false

/-- the three cells of a tree -/
structure TrV (w : World) (p : Nat) (st : Int) (A : Option Addr) (n c : Nat) (B : Option Addr) (m d : Nat) (t : PT) : Prop where
  blk : Blk w p 25 #[.int .i64 st, .slice A n c, .slice B m d]
  at_ : TreeAt w (.agg #[.int .i64 st, .slice A n c, .slice B m d]) t
section
variable {w w' : World} {p : Nat} {st : Int} {A : Option Addr} {n c : Nat} {B : Option Addr} {m d : Nat} {t u : PT} {v x : Value} {k s : Int}
theorem TrV.ext (h : TrV w p st A n c B m d t) (hb : Below w.heap.size w w') : TrV w' p st A n c B m d t := ⟨h.blk.below hb h.blk.lt, h.at_.ext hb⟩
theorem TrV.new (h : TreeAt w (.agg #[.int .i64 st, .slice A n c, .slice B m d]) t) : TrV (w.alloc (.cells #[.int .i64 st, .slice A n c, .slice B m d] 25)) w.heap.size st A n c B m d t := ⟨Blk.new _ _ _, h.ext (below_new _ _)⟩
theorem TrV.cells (h : TrV w p st A n c B m d t) : w.cell? ⟨p, 0, none⟩ = some (.int .i64 st) ∧ w.cell? ⟨p, 1, none⟩ = some (.slice A n c) ∧ w.cell? ⟨p, 2, none⟩ = some (.slice B m d) :=
  ⟨h.blk.cell_ 0 (.int .i64 st) rfl, h.blk.cell_ 1 (.slice A n c) rfl, h.blk.cell_ 2 (.slice B m d) rfl⟩
theorem TreeAt.len_ (h : TreeAt w (.agg #[.int .i64 st, .slice A n c, .slice B m d]) t) : m = t.ns.length := by
  obtain ⟨A', c', B', d', os, e, h1, h2, h3⟩ := h
  injection e with e
  simp only [Array.mk.injEq, List.cons.injEq, Value.int.injEq, Value.slice.injEq, true_and, and_true] at e
  obtain ⟨-, -, -, rfl, -⟩ := e
  rw [← h3, List.length_map]
def RetA (t : PT) (w : World) (e : Ending) (w' : World) : Prop := ∃ st A n c B m d, e = .returned (.agg #[.int .i64 st, .slice A n c, .slice B m d]) ∧ TreeAt w' (.agg #[.int .i64 st, .slice A n c, .slice B m d]) t ∧ Below w.heap.size w w'
def RetAE (te : PT × Int) (w : World) (e : Ending) (w' : World) : Prop := ∃ st A n c B m d, e = .returned (.tuple #[.agg #[.int .i64 st, .slice A n c, .slice B m d], .int .i64 te.2]) ∧ TreeAt w' (.agg #[.int .i64 st, .slice A n c, .slice B m d]) te.1 ∧ Below w.heap.size w w'
theorem TreeAt.form (h : TreeAt w v t) : ∃ st A n c B m d, v = .agg #[.int .i64 st, .slice A n c, .slice B m d] := by
  obtain ⟨A, c, B, d, os, rfl, -⟩ := h
  exact ⟨_, _, _, _, _, _, _, rfl⟩
theorem RetT.a {e : Ending} (h : RetT t w e w') : RetA t w e w' := by
  obtain ⟨v, rfl, h2, h3⟩ := h.treeAt
  obtain ⟨st, A, n, c, B, m, d, rfl⟩ := h2.form
  exact ⟨st, A, n, c, B, m, d, rfl, h2, h3⟩
theorem RetAt.a {e : Ending} (h : RetAt t w e w') : RetA t w e w' := by
  obtain ⟨v, rfl, h2, h3⟩ := h
  obtain ⟨st, A, n, c, B, m, d, rfl⟩ := h2.form
  exact ⟨st, A, n, c, B, m, d, rfl, h2, h3⟩
theorem RetTE.ae {te : PT × Int} {e : Ending} (h : RetTE te w e w') : RetAE te w e w' := by
  obtain ⟨hv, nv, os, rfl, h2, h3, h4, h5⟩ := h
  obtain ⟨A, c, rfl, p1, -⟩ := h2.pts
  obtain ⟨B, d, rfl, p2, -⟩ := h3.nds
  exact ⟨te.1.st, A, _, c, B, _, d, rfl, ⟨A, c, B, d, os, rfl, p1, p2, h4⟩, h5⟩
theorem RetTEO.ae {X : Option Addr} {te : PT × Int} {e : Ending} (h : RetTEO X te w e w') : RetAE te w e w' := by
  obtain ⟨v, rfl, h2, h3⟩ := h.at_
  obtain ⟨st, A, n, c, B, m, d, rfl⟩ := h2.form
  exact ⟨st, A, n, c, B, m, d, rfl, h2, h3⟩
theorem red_tv (h : TreeAt w v t) (ht : TabB w.heap.size w) : Calls Tryd.prog 12 #[v] w (RetA (redT t) w) := by
  obtain ⟨A, c, B, d, os, rfl, h1, h2, h3⟩ := h
  have := reduce_any t.st A c t.ps B d os w h1 h2 ht
  rw [h3] at this
  exact this.mono fun _ _ h => h.a
theorem fix_tv (h : TreeAt w v t) (ht : TabB w.heap.size w) : Calls Tryd.prog 20 #[v, .int .i64 k, .int .i64 s] w (RetAE (fixT t k s) w) := by
  obtain ⟨A, c, B, d, os, rfl, h1, h2, h3⟩ := h
  have := fix_any t.st A c t.ps B d os k s w h1 h2 ht
  rw [h3] at this
  exact this.mono fun _ _ h => h.ae
theorem map_tv {At : Option Addr} {ct : Nat} {tz : List Int} (h : TreeAt w v t) (hz : Ints w At tz) (ht : TabB w.heap.size w) : Calls Tryd.prog 18 #[v, .slice At tz.length ct] w (RetAE (mapT t tz) w) := by
  obtain ⟨A, c, B, d, os, rfl, h1, h2, h3⟩ := h
  have := map_any t.st A c t.ps B d os At ct tz w h1 h2 hz ht
  rw [h3] at this
  exact this.mono fun _ _ h => h.ae
def RetTu (k : Int) (t : PT) (w : World) (e : Ending) (w' : World) : Prop := ∃ te, TurnOk k t te ∧ RetAE te w e w'
theorem turn_tv (h : TreeAt w v t) (ht : TabB w.heap.size w) (hg : GMat w) (hl : t.ps.length ≤ 9) : Calls Tryd.prog 24 #[.int .i64 k, v] w (RetTu k t w) := by
  obtain ⟨A, c, B, d, os, rfl, h1, h2, h3⟩ := h
  have := turn_any k t.st A c t.ps B d os w h1 h2 ht hg hl
  rw [h3] at this
  exact this.mono fun _ _ ⟨te, h1, h2⟩ => ⟨te, h1, h2.ae⟩
theorem choose_tv {lA : Option Addr} {lc : Nat} {ls : List TrH} (h : TreeAt w v t) (hls : Trs w lA ls) (ht : TabB w.heap.size w) (hll : ls.length ≤ 1000)
    (bN : Nat) (hb0 : t.ns.length ≤ bN) (hb1 : ∀ t ∈ ls, t.hs.length ≤ bN) (hbb : bN ^ (ls.length + 1) < 4611686018427387904) : Calls Tryd.prog 22 #[v, .slice lA ls.length lc] w (RetAE (chooseT t (ls.map TrH.pt)) w) := by
  obtain ⟨A, c, B, d, os, rfl, h1, h2, h3⟩ := h
  have := choose_any t.st A c t.ps B d os lA lc ls w h1 h2 hls ht hll bN (by rw [← h3, List.length_map] at hb0; exact hb0) hb1 hbb
  rw [h3] at this
  exact this.mono fun _ _ h => h.ae
theorem uses_tv (h : TreeAt w v t) (ht : TabB w.heap.size w) : Calls Tryd.prog 16 #[v, .int .i64 k] w fun e w' => e = .returned (.bool (usesP t k)) ∧ Below w.heap.size w w' := by
  obtain ⟨A, c, B, d, os, rfl, h1, h2, h3⟩ := h
  have := uses_any t.st A c t.ps B d os k w h1 h2 ht
  rw [h3] at this
  exact this
theorem equal_tv (h : TreeAt w v t) (k : TreeAt w x u) (ht : TabB w.heap.size w) : Calls Tryd.prog 14 #[v, x] w fun e w' => e = .returned (.bool (equalP t u)) ∧ Below w.heap.size w w' := by
  obtain ⟨A, c, B, d, os, rfl, h1, h2, h3⟩ := h
  obtain ⟨A', c', B', d', os', rfl, k1, k2, k3⟩ := k
  have := equal_any t.st u.st A c t.ps B d os A' c' u.ps B' d' os' w h1 h2 k1 k2 ht
  rw [h3, k3] at this
  exact this
end
/-- two rows of a literal -/
theorem ints2 (w : World) (base : Nat) (hb : base ≤ w.heap.size) (a b : Int) : OwnIA (w.alloc (.cells #[.int .i64 a, .int .i64 b] 3)) base (.slice (some ⟨w.heap.size, 0, none⟩) 2 2) [a, b] :=
  World.ownsRow_lit (base := base) (e := 3) (size := 1) w #[.int .i64 a, .int .i64 b] 2 hb (by decide) rfl
theorem pts2 (w : World) (a b a' b' : Int) : Pts (w.alloc (.cells #[.int .i64 a, .int .i64 b, .int .i64 a', .int .i64 b'] 49)) (some ⟨w.heap.size, 0, none⟩) [(a, b), (a', b')] := by
  have h : OwnP 49 (w.alloc (.cells #[.int .i64 a, .int .i64 b, .int .i64 a', .int .i64 b'] 49)) w.heap.size (.slice (some ⟨w.heap.size, 0, none⟩) 2 2) [(a, b), (a', b')] :=
    World.ownsRow_lit (base := w.heap.size) (e := 49) (size := 2) w #[.int .i64 a, .int .i64 b, .int .i64 a', .int .i64 b'] 2 (Nat.le_refl _) (by decide) rfl
  obtain ⟨A, c, e, hi, -⟩ := h.pts
  injection e with e
  subst e
  exact hi
theorem OwnN.reads {w : World} {base : Nat} {A : Option Addr} {n c : Nat} {hs : List Hd} (h : OwnNA w base (.slice A n c) hs) : Nds w A hs := by
  obtain ⟨A', c', e, hi, -⟩ := h.nds
  injection e with e
  subst e
  exact hi
/-- three nodes of two elements, behind the neighbourhood -/
theorem lit3 (w : World) (st x y x' y' l1 l2 l3 a b c d e f : Int) (wz : World) (hz : wz = ((((w.alloc (.cells #[.int .i64 x, .int .i64 y, .int .i64 x', .int .i64 y'] 49)).alloc (.cells #[.int .i64 a, .int .i64 b] 3)).alloc (.cells #[.int .i64 c, .int .i64 d] 3)).alloc (.cells #[.int .i64 e, .int .i64 f] 3)).alloc
      (.cells #[.int .i64 l1, .slice (some ⟨w.heap.size + 1, 0, none⟩) 2 2, .int .i64 l2, .slice (some ⟨w.heap.size + 1 + 1, 0, none⟩) 2 2, .int .i64 l3, .slice (some ⟨w.heap.size + 1 + 1 + 1, 0, none⟩) 2 2] 53)) :
    Below w.heap.size w wz ∧ wz.heap.size = w.heap.size + 1 + 1 + 1 + 1 + 1 ∧ Pts wz (some ⟨w.heap.size, 0, none⟩) [(x, y), (x', y')] ∧
      TreeAt wz (.agg #[.int .i64 st, .slice (some ⟨w.heap.size, 0, none⟩) 2 2, .slice (some ⟨w.heap.size + 1 + 1 + 1 + 1, 0, none⟩) 3 3]) ⟨st, [(x, y), (x', y')], [(l1, [a, b]), (l2, [c, d]), (l3, [e, f])]⟩ := by
  obtain ⟨w1, h1⟩ : ∃ w1, w1 = w.alloc (.cells #[.int .i64 x, .int .i64 y, .int .i64 x', .int .i64 y'] 49) := ⟨_, rfl⟩
  obtain ⟨w2, h2⟩ : ∃ w2, w2 = w1.alloc (.cells #[.int .i64 a, .int .i64 b] 3) := ⟨_, rfl⟩
  obtain ⟨w3, h3⟩ : ∃ w3, w3 = w2.alloc (.cells #[.int .i64 c, .int .i64 d] 3) := ⟨_, rfl⟩
  obtain ⟨w4, h4⟩ : ∃ w4, w4 = w3.alloc (.cells #[.int .i64 e, .int .i64 f] 3) := ⟨_, rfl⟩
  rw [← h1, ← h2, ← h3, ← h4] at hz
  have z1 : w1.heap.size = w.heap.size + 1 := by rw [h1]; simp
  have z2 : w2.heap.size = w.heap.size + 1 + 1 := by rw [h2]; simp [z1]
  have z3 : w3.heap.size = w.heap.size + 1 + 1 + 1 := by rw [h3]; simp [z2]
  have z4 : w4.heap.size = w.heap.size + 1 + 1 + 1 + 1 := by rw [h4]; simp [z3]
  have z5 : wz.heap.size = w.heap.size + 1 + 1 + 1 + 1 + 1 := by rw [hz]; simp [z4]
  have b1 : Below w.heap.size w w1 := by rw [h1]; exact below_new _ _
  have b2 : Below w1.heap.size w1 w2 := by rw [h2]; exact below_new _ _
  have b3 : Below w2.heap.size w2 w3 := by rw [h3]; exact below_new _ _
  have b4 : Below w3.heap.size w3 w4 := by rw [h4]; exact below_new _ _
  have b5 : Below w4.heap.size w4 wz := by rw [hz]; exact below_new _ _
  have b45 := b4.trans (b5.mono b4.size)
  have b35 := b3.trans (b45.mono b3.size)
  have b25 := b2.trans (b35.mono b2.size)
  have b15 := b1.trans (b25.mono b1.size)
  have p : Pts wz (some ⟨w.heap.size, 0, none⟩) [(x, y), (x', y')] := by
    have : Pts w1 (some ⟨w.heap.size, 0, none⟩) [(x, y), (x', y')] := by rw [h1]; exact pts2 w x y x' y'
    exact this.ext b25
  have i1 : OwnIA wz w.heap.size (.slice (some ⟨w.heap.size + 1, 0, none⟩) 2 2) [a, b] := by
    have : OwnIA w2 w.heap.size (.slice (some ⟨w1.heap.size, 0, none⟩) 2 2) [a, b] := by rw [h2]; exact ints2 w1 _ b1.size a b
    rw [z1] at this
    exact OwnI.ext this b35
  have i2 : OwnIA wz w.heap.size (.slice (some ⟨w.heap.size + 1 + 1, 0, none⟩) 2 2) [c, d] := by
    have : OwnIA w3 w.heap.size (.slice (some ⟨w2.heap.size, 0, none⟩) 2 2) [c, d] := by rw [h3]; exact ints2 w2 _ (by rw [z2]; omega) c d
    rw [z2] at this
    exact OwnI.ext this b45
  have i3 : OwnIA wz w.heap.size (.slice (some ⟨w.heap.size + 1 + 1 + 1, 0, none⟩) 2 2) [e, f] := by
    have : OwnIA w4 w.heap.size (.slice (some ⟨w3.heap.size, 0, none⟩) 2 2) [e, f] := by rw [h4]; exact ints2 w3 _ (by rw [z3]; omega) e f
    rw [z3] at this
    exact OwnI.ext this b5
  have hn : OwnNA wz w.heap.size (.slice (some ⟨w.heap.size + 1 + 1 + 1 + 1, 0, none⟩) 3 3) [⟨l1, some ⟨w.heap.size + 1, 0, none⟩, 2, [a, b]⟩, ⟨l2, some ⟨w.heap.size + 1 + 1, 0, none⟩, 2, [c, d]⟩, ⟨l3, some ⟨w.heap.size + 1 + 1 + 1, 0, none⟩, 2, [e, f]⟩] := by
    refine ⟨?_, fun h hh => ?_⟩
    · rw [hz, ← z4]
      exact World.ownsRow_lit (base := w.heap.size) (e := 53) (size := 2) w4 _ 3 (by rw [z4]; omega) (by decide) rfl
    · simp only [List.mem_cons, List.not_mem_nil, or_false] at hh
      rcases hh with rfl | rfl | rfl
      · exact i1
      · exact i2
      · exact i3
  exact ⟨b15, z5, p, ⟨_, _, _, _, _, rfl, p, OwnN.reads hn, rfl⟩⟩
/-- two nodes of two elements -/
theorem lit2 (w : World) (st : Int) (A : Option Addr) (cA : Nat) (ps : List (Int × Int)) (hp : Pts w A ps) (l1 l2 a b c d : Int) (wz : World) (hz : wz = ((w.alloc (.cells #[.int .i64 a, .int .i64 b] 3)).alloc (.cells #[.int .i64 c, .int .i64 d] 3)).alloc
      (.cells #[.int .i64 l1, .slice (some ⟨w.heap.size, 0, none⟩) 2 2, .int .i64 l2, .slice (some ⟨w.heap.size + 1, 0, none⟩) 2 2] 53)) :
    Below w.heap.size w wz ∧ wz.heap.size = w.heap.size + 1 + 1 + 1 ∧
      TreeAt wz (.agg #[.int .i64 st, .slice A ps.length cA, .slice (some ⟨w.heap.size + 1 + 1, 0, none⟩) 2 2]) ⟨st, ps, [(l1, [a, b]), (l2, [c, d])]⟩ := by
  obtain ⟨w1, h1⟩ : ∃ w1, w1 = w.alloc (.cells #[.int .i64 a, .int .i64 b] 3) := ⟨_, rfl⟩
  obtain ⟨w2, h2⟩ : ∃ w2, w2 = w1.alloc (.cells #[.int .i64 c, .int .i64 d] 3) := ⟨_, rfl⟩
  rw [← h1, ← h2] at hz
  have z1 : w1.heap.size = w.heap.size + 1 := by rw [h1]; simp
  have z2 : w2.heap.size = w.heap.size + 1 + 1 := by rw [h2]; simp [z1]
  have z3 : wz.heap.size = w.heap.size + 1 + 1 + 1 := by rw [hz]; simp [z2]
  have b1 : Below w.heap.size w w1 := by rw [h1]; exact below_new _ _
  have b2 : Below w1.heap.size w1 w2 := by rw [h2]; exact below_new _ _
  have b3 : Below w2.heap.size w2 wz := by rw [hz]; exact below_new _ _
  have b23 := b2.trans (b3.mono b2.size)
  have b13 := b1.trans (b23.mono b1.size)
  have i1 : OwnIA wz w.heap.size (.slice (some ⟨w.heap.size, 0, none⟩) 2 2) [a, b] := by
    have : OwnIA w1 w.heap.size (.slice (some ⟨w.heap.size, 0, none⟩) 2 2) [a, b] := by rw [h1]; exact ints2 w _ (Nat.le_refl _) a b
    exact OwnI.ext this b23
  have i2 : OwnIA wz w.heap.size (.slice (some ⟨w.heap.size + 1, 0, none⟩) 2 2) [c, d] := by
    have : OwnIA w2 w.heap.size (.slice (some ⟨w1.heap.size, 0, none⟩) 2 2) [c, d] := by rw [h2]; exact ints2 w1 _ b1.size c d
    rw [z1] at this
    exact OwnI.ext this b3
  have hn : OwnNA wz w.heap.size (.slice (some ⟨w.heap.size + 1 + 1, 0, none⟩) 2 2) [⟨l1, some ⟨w.heap.size, 0, none⟩, 2, [a, b]⟩, ⟨l2, some ⟨w.heap.size + 1, 0, none⟩, 2, [c, d]⟩] := by
    refine ⟨?_, fun h hh => ?_⟩
    · rw [hz, ← z2]
      exact World.ownsRow_lit (base := w.heap.size) (e := 53) (size := 2) w2 _ 2 (by rw [z2]; omega) (by decide) rfl
    · simp only [List.mem_cons, List.not_mem_nil, or_false] at hh
      rcases hh with rfl | rfl
      · exact i1
      · exact i2
  exact ⟨b13, z3, ⟨_, _, _, _, _, rfl, hp.ext b13, OwnN.reads hn, rfl⟩⟩
/-- two trees in a slice -/
theorem trs2 {w : World} {t u : PT} {s1 : Int} {A1 : Option Addr} {n1 c1 : Nat} {B1 : Option Addr} {m1 d1 : Nat} {s2 : Int} {A2 : Option Addr} {n2 c2 : Nat} {B2 : Option Addr} {m2 d2 : Nat}
    (h : TreeAt w (.agg #[.int .i64 s1, .slice A1 n1 c1, .slice B1 m1 d1]) t) (k : TreeAt w (.agg #[.int .i64 s2, .slice A2 n2 c2, .slice B2 m2 d2]) u) :
    ∃ ls : List TrH, ls.length = 2 ∧ ls.map TrH.pt = [t, u] ∧ Trs (w.alloc (.cells #[.int .i64 s1, .slice A1 n1 c1, .slice B1 m1 d1, .int .i64 s2, .slice A2 n2 c2, .slice B2 m2 d2] 25)) (some ⟨w.heap.size, 0, none⟩) ls := by
  obtain ⟨A, c, B, d, os, e1, h1, h2, h3⟩ := h
  obtain ⟨A', c', B', d', os', e2, k1, k2, k3⟩ := k
  injection e1 with e1
  injection e2 with e2
  simp only [Array.mk.injEq, List.cons.injEq, Value.int.injEq, Value.slice.injEq, true_and, and_true] at e1 e2
  obtain ⟨rfl, ⟨rfl, rfl, rfl⟩, rfl, rfl, rfl⟩ := e1
  obtain ⟨rfl, ⟨rfl, rfl, rfl⟩, rfl, rfl, rfl⟩ := e2
  refine ⟨[⟨t.st, A1, t.ps, c1, B1, os, d1⟩, ⟨u.st, A2, u.ps, c2, B2, os', d2⟩], rfl, ?_, ?_, by simp, ?_⟩
  · simp only [List.map_cons, List.map_nil, TrH.pt, h3, k3]
  · have hr : (w.alloc (.cells #[.int .i64 t.st, .slice A1 t.ps.length c1, .slice B1 os.length d1, .int .i64 u.st, .slice A2 u.ps.length c2, .slice B2 os'.length d2] 25)).ownsRow w.heap.size 25 3 (.slice (some ⟨w.heap.size, 0, none⟩) 2 2) 2 _ :=
      World.ownsRow_lit (base := w.heap.size) (e := 25) (size := 3) w #[.int .i64 t.st, .slice A1 t.ps.length c1, .slice B1 os.length d1, .int .i64 u.st, .slice A2 u.ps.length c2, .slice B2 os'.length d2] 2 (Nat.le_refl _) (by decide) rfl
    obtain ⟨X, cx, ex, hx, -⟩ := own_form hr
    injection ex with ex
    subst ex
    exact hx.1
  · intro x hx
    simp only [List.mem_cons, List.not_mem_nil, or_false] at hx
    rcases hx with rfl | rfl
    · exact ⟨h1.ext (below_new _ _), h2.ext (below_new _ _)⟩
    · exact ⟨k1.ext (below_new _ _), k2.ext (below_new _ _)⟩
/-- the examples -/
def exT : PT := ⟨2, [(-1, 0), (0, 0)], [(1, [0, 1]), (1, [0, 1]), (2, [0, 1])]⟩
def exX : PT := ⟨2, [(-1, 0), (0, 0)], [(1, [0, 1]), (2, [0, 0])]⟩
def exF : PT := ⟨2, [(-1, 0), (0, 0)], [(1, [1, 1]), (2, [0, 0])]⟩
def exM : PT := ⟨2, [(-1, 0), (0, 0)], [(1, [1, 0]), (2, [0, 0])]⟩
def exU : PT := ⟨2, [(0, 0), (1, 0)], [(1, [0, 0]), (1, [1, 1]), (2, [0, 1])]⟩
theorem ex_red : redT exT = exX := by kernel_rfl
theorem ex_fix : fixT exT 1 1 = (exF, 0) := by kernel_rfl
theorem ex_map : mapT exT [1, 0] = (exM, 0) := by kernel_rfl
theorem ex_choose : chooseT exT [exM, exX] = (exF, 0) := by kernel_rfl
theorem ex_uses1 : usesP exT 1 = true := by kernel_rfl
theorem ex_uses0 : usesP exT 0 = false := by kernel_rfl
theorem ex_eq1 : equalP exT exX = true := by kernel_rfl
theorem ex_eq2 : equalP exT exM = false := by kernel_rfl
theorem ex_same (t : PT) : sameP t t = true := by
  unfold sameP
  simp
theorem ex_turn : TurnOk 4 exT (exU, 0) := by
  have hr : exT.right = true := by kernel_rfl
  have hu : exU.right = true := by kernel_rfl
  obtain ⟨a1, a2, a3, a4, a5, a6, a7, a8, a9⟩ := rightN_parts hu
  refine .inr ⟨hr, exU, ⟨rfl, List.Perm.swap _ _ _, ⟨a8, ?_, by decide, a6, a9, by kernel_rfl⟩, fun g hg => ?_⟩, ?_, rfl⟩
  · intro i j hi hj h
    have h1 : i < 3 := hi
    have h2 : j < 3 := hj
    obtain rfl | rfl | rfl : i = 0 ∨ i = 1 ∨ i = 2 := by omega
    all_goals obtain rfl | rfl | rfl : j = 0 ∨ j = 1 ∨ j = 2 := by omega
    all_goals first | rfl | (exfalso; revert h; decide)
  · have h0 : g (0, 0) < 2 := hg (0, 0)
    have h1 : g (1, 0) < 2 := hg (1, 0)
    show val exU.ns 2 [g (0, 0), g (1, 0)] = val exT.ns 2 [g (1, 0), g (0, 0)]
    generalize g (0, 0) = x at h0 ⊢
    generalize g (1, 0) = y at h1 ⊢
    obtain rfl | rfl : x = 0 ∨ x = 1 := by omega
    all_goals obtain rfl | rfl : y = 0 ∨ y = 1 := by omega
    all_goals rfl
  · refine adj_pairwise _ fun i hi => ?_
    obtain rfl : i = 0 := by
      have : i + 1 < 2 := hi
      omega
    show ¬ gtB (0, 0) (1, 0) = true
    decide
end Go.Proofs.YtojnnfihpiegoaaDoor
namespace Go.Proofs.YtojnnfihpiegoaaDoor
open Go.RowKit Go.Maps
set_option maxRecDepth 100000
set_option linter.unusedVariables false
set_option linter.unusedSimpArgs false
set_option maxHeartbeats 16000000 in
theorem awake_any (w : World) (ht : TabB w.heap.size w) (hg : GMat w) : Calls Tryd.prog 10 #[] w fun e w' => e = .returned (.bool true) ∧ Below w.heap.size w w' := by
  obtain ⟨wz, hz⟩ : ∃ wz, wz = ((((w.alloc (.cells #[.int .i64 (-1), .int .i64 0, .int .i64 0, .int .i64 0] 49)).alloc (.cells #[.int .i64 0, .int .i64 1] 3)).alloc (.cells #[.int .i64 0, .int .i64 1] 3)).alloc (.cells #[.int .i64 0, .int .i64 1] 3)).alloc
        (.cells #[.int .i64 1, .slice (some ⟨w.heap.size + 1, 0, none⟩) 2 2, .int .i64 1, .slice (some ⟨w.heap.size + 1 + 1, 0, none⟩) 2 2, .int .i64 2, .slice (some ⟨w.heap.size + 1 + 1 + 1, 0, none⟩) 2 2] 53) := ⟨_, rfl⟩
  obtain ⟨b0, z0, hp0, ht0⟩ := lit3 w 2 (-1) 0 0 0 1 1 2 0 1 0 1 0 1 wz hz
  obtain ⟨w1, hw1⟩ : ∃ w1, w1 = wz.alloc (.cells #[.int .i64 2, .slice (some ⟨w.heap.size, 0, none⟩) 2 2, .slice (some ⟨w.heap.size + 1 + 1 + 1 + 1, 0, none⟩) 3 3] 25) := ⟨_, rfl⟩
  have hT := TrV.new ht0
  have b1 : Below wz.heap.size wz w1 := by rw [hw1]; exact below_new _ _
  rw [← hw1, z0] at hT
  have HLN : Hid (Pts w1 (some ⟨w.heap.size, 0, none⟩) [(-1, 0), (0, 0)]) := Lib.hid (hp0.ext b1)
  have HB : Hid (Below w.heap.size w w1) := Lib.hid (b0.trans (b1.mono b0.size))
  have HT : Hid (TrV w1 (w.heap.size + 1 + 1 + 1 + 1 + 1) 2 (some ⟨w.heap.size, 0, none⟩) 2 2 (some ⟨w.heap.size + 1 + 1 + 1 + 1, 0, none⟩) 3 3 exT) := Lib.hid hT
  have HTAB := Lib.hid ht
  have HGM := Lib.hid hg
  rw [hz] at hw1
  have HW1 := Lib.hid hw1
  clear b0 z0 hp0 ht0 b1 hT hw1 hz ht hg
  go_enter Tryd.func10, Tryd.ntmps10
  go_upto_region 3 with fail
  rw [← HW1.out]
  clear HW1
  obtain ⟨cT0, cT1, cT2⟩ := HT.out.cells
  have hcall := red_tv HT.out.at_ ((HTAB.out.on HB.out).up HB.out.size)
  rw [ex_red] at hcall
  have HCALL := Lib.hid hcall
  clear hcall
  go_wp2_with (go_at_call 12; refine HCALL.out.mono ?_; intro e x1 hx; obtain ⟨s1, A1, n1, c1, B1, m1, d1, rfl, hat, hb⟩ := hx; refine Hid.out ?_)
  refine Lib.hid ?_
  have HBx := Lib.hid (HB.out.trans (hb.mono HB.out.size))
  clear HB
  have HB := HBx
  clear HBx
  have Hx := Lib.hid (HT.out.ext hb)
  clear HT
  have HT := Hx
  clear Hx
  have Hx := Lib.hid (HLN.out.ext hb)
  clear HLN
  have HLN := Hx
  clear Hx
  clear hb HCALL
  clear cT0 cT1 cT2
  obtain ⟨y1, hw⟩ : ∃ W, W = x1.alloc (.cells #[.int .i64 s1, .slice A1 n1 c1, .slice B1 m1 d1] 25) := ⟨_, rfl⟩
  obtain ⟨pX, hp⟩ : ∃ p, p = x1.heap.size := ⟨_, rfl⟩
  have hv := TrV.new hat
  rw [← hw, ← hp] at hv
  have hb : Below x1.heap.size x1 y1 := by rw [hw]; exact below_new _ _
  have HBx := Lib.hid (HB.out.trans (hb.mono HB.out.size))
  clear HB
  have HB := HBx
  clear HBx
  have Hx := Lib.hid (HT.out.ext hb)
  clear HT
  have HT := Hx
  clear Hx
  have Hx := Lib.hid (HLN.out.ext hb)
  clear HLN
  have HLN := Hx
  clear Hx
  have HX := Lib.hid hv
  clear hv hb hat
  go_upto_region 4 with fail
  rw [← hw, ← hp]
  clear hw hp
  obtain ⟨cT0, cT1, cT2⟩ := HT.out.cells
  have hcall := fix_tv (k := 1) (s := 1) HT.out.at_ ((HTAB.out.on HB.out).up HB.out.size)
  rw [ex_fix] at hcall
  have HCALL := Lib.hid hcall
  clear hcall
  go_wp2_with (go_at_call 20; refine HCALL.out.mono ?_; intro e x2 hx; obtain ⟨s2, A2, n2, c2, B2, m2, d2, rfl, hat, hb⟩ := hx; refine Hid.out ?_)
  refine Lib.hid ?_
  have HBx := Lib.hid (HB.out.trans (hb.mono HB.out.size))
  clear HB
  have HB := HBx
  clear HBx
  have Hx := Lib.hid (HT.out.ext hb)
  clear HT
  have HT := Hx
  clear Hx
  have Hx := Lib.hid (HX.out.ext hb)
  clear HX
  have HX := Hx
  clear Hx
  have Hx := Lib.hid (HLN.out.ext hb)
  clear HLN
  have HLN := Hx
  clear Hx
  clear hb HCALL
  clear cT0 cT1 cT2
  obtain ⟨y2, hw⟩ : ∃ W, W = x2.alloc (.cells #[.int .i64 s2, .slice A2 n2 c2, .slice B2 m2 d2] 25) := ⟨_, rfl⟩
  obtain ⟨pF, hp⟩ : ∃ p, p = x2.heap.size := ⟨_, rfl⟩
  have hv := TrV.new hat
  rw [← hw, ← hp] at hv
  have hb : Below x2.heap.size x2 y2 := by rw [hw]; exact below_new _ _
  have HBx := Lib.hid (HB.out.trans (hb.mono HB.out.size))
  clear HB
  have HB := HBx
  clear HBx
  have Hx := Lib.hid (HT.out.ext hb)
  clear HT
  have HT := Hx
  clear Hx
  have Hx := Lib.hid (HX.out.ext hb)
  clear HX
  have HX := Hx
  clear Hx
  have Hx := Lib.hid (HLN.out.ext hb)
  clear HLN
  have HLN := Hx
  clear Hx
  have HF := Lib.hid hv
  clear hv hb hat
  go_upto_region 5 with fail
  rw [← hw, ← hp]
  clear hw hp
  obtain ⟨cT0, cT1, cT2⟩ := HT.out.cells
  have hcall := turn_tv (k := 4) HT.out.at_ ((HTAB.out.on HB.out).up HB.out.size) (HGM.out.ext HB.out) (by decide)
  have HCALL := Lib.hid hcall
  clear hcall
  go_wp2_with (go_at_call 24; refine HCALL.out.mono ?_; intro e x3 hx; obtain ⟨te, hok, s3, A3, n3, c3, B3, m3, d3, rfl, hat, hb⟩ := hx; obtain rfl := hok.uniq ex_turn; refine Hid.out ?_)
  refine Lib.hid ?_
  have HBx := Lib.hid (HB.out.trans (hb.mono HB.out.size))
  clear HB
  have HB := HBx
  clear HBx
  have Hx := Lib.hid (HT.out.ext hb)
  clear HT
  have HT := Hx
  clear Hx
  have Hx := Lib.hid (HX.out.ext hb)
  clear HX
  have HX := Hx
  clear Hx
  have Hx := Lib.hid (HF.out.ext hb)
  clear HF
  have HF := Hx
  clear Hx
  have Hx := Lib.hid (HLN.out.ext hb)
  clear HLN
  have HLN := Hx
  clear Hx
  clear hb HCALL
  clear cT0 cT1 cT2
  obtain ⟨y3, hw⟩ : ∃ W, W = x3.alloc (.cells #[.int .i64 s3, .slice A3 n3 c3, .slice B3 m3 d3] 25) := ⟨_, rfl⟩
  obtain ⟨pU, hp⟩ : ∃ p, p = x3.heap.size := ⟨_, rfl⟩
  have hv := TrV.new hat
  rw [← hw, ← hp] at hv
  have hb : Below x3.heap.size x3 y3 := by rw [hw]; exact below_new _ _
  have HBx := Lib.hid (HB.out.trans (hb.mono HB.out.size))
  clear HB
  have HB := HBx
  clear HBx
  have Hx := Lib.hid (HT.out.ext hb)
  clear HT
  have HT := Hx
  clear Hx
  have Hx := Lib.hid (HX.out.ext hb)
  clear HX
  have HX := Hx
  clear Hx
  have Hx := Lib.hid (HF.out.ext hb)
  clear HF
  have HF := Hx
  clear Hx
  have Hx := Lib.hid (HLN.out.ext hb)
  clear HLN
  have HLN := Hx
  clear Hx
  have HU := Lib.hid hv
  clear hv hb hat
  go_upto_region 6 with fail
  rw [← hw, ← hp]
  clear hw hp
  obtain ⟨cT0, cT1, cT2⟩ := HT.out.cells
  obtain ⟨wi, hwi⟩ : ∃ wi, wi = y3.alloc (.cells #[.int .i64 1, .int .i64 0] 3) := ⟨_, rfl⟩
  have hri : Ints wi (some ⟨y3.heap.size, 0, none⟩) [1, 0] := by rw [hwi]; exact OwnI.reads (ints2 y3 0 (Nat.zero_le _) 1 0)
  have hbi : Below y3.heap.size y3 wi := by rw [hwi]; exact below_new _ _
  have HWI := Lib.hid hwi
  clear hwi
  have HBx := Lib.hid (HB.out.trans (hbi.mono HB.out.size))
  clear HB
  have HB := HBx
  clear HBx
  have Hx := Lib.hid (HT.out.ext hbi)
  clear HT
  have HT := Hx
  clear Hx
  have Hx := Lib.hid (HX.out.ext hbi)
  clear HX
  have HX := Hx
  clear Hx
  have Hx := Lib.hid (HF.out.ext hbi)
  clear HF
  have HF := Hx
  clear Hx
  have Hx := Lib.hid (HU.out.ext hbi)
  clear HU
  have HU := Hx
  clear Hx
  have Hx := Lib.hid (HLN.out.ext hbi)
  clear HLN
  have HLN := Hx
  clear Hx
  have hcall := map_tv (ct := 2) HT.out.at_ hri ((HTAB.out.on HB.out).up HB.out.size)
  rw [ex_map] at hcall
  have HCALL := Lib.hid hcall
  clear hcall
  go_wp2_with (go_at_call 18; rw [← HWI.out]; refine HCALL.out.mono ?_; intro e x4 hx; obtain ⟨s4, A4, n4, c4, B4, m4, d4, rfl, hat, hb⟩ := hx; refine Hid.out ?_)
  refine Lib.hid ?_
  have HBx := Lib.hid (HB.out.trans (hb.mono HB.out.size))
  clear HB
  have HB := HBx
  clear HBx
  have Hx := Lib.hid (HT.out.ext hb)
  clear HT
  have HT := Hx
  clear Hx
  have Hx := Lib.hid (HX.out.ext hb)
  clear HX
  have HX := Hx
  clear Hx
  have Hx := Lib.hid (HF.out.ext hb)
  clear HF
  have HF := Hx
  clear Hx
  have Hx := Lib.hid (HU.out.ext hb)
  clear HU
  have HU := Hx
  clear Hx
  have Hx := Lib.hid (HLN.out.ext hb)
  clear HLN
  have HLN := Hx
  clear Hx
  clear hb HCALL
  clear cT0 cT1 cT2
  clear HWI hri hbi
  obtain ⟨y4, hw⟩ : ∃ W, W = x4.alloc (.cells #[.int .i64 s4, .slice A4 n4 c4, .slice B4 m4 d4] 25) := ⟨_, rfl⟩
  obtain ⟨pM, hp⟩ : ∃ p, p = x4.heap.size := ⟨_, rfl⟩
  have hv := TrV.new hat
  rw [← hw, ← hp] at hv
  have hb : Below x4.heap.size x4 y4 := by rw [hw]; exact below_new _ _
  have HBx := Lib.hid (HB.out.trans (hb.mono HB.out.size))
  clear HB
  have HB := HBx
  clear HBx
  have Hx := Lib.hid (HT.out.ext hb)
  clear HT
  have HT := Hx
  clear Hx
  have Hx := Lib.hid (HX.out.ext hb)
  clear HX
  have HX := Hx
  clear Hx
  have Hx := Lib.hid (HF.out.ext hb)
  clear HF
  have HF := Hx
  clear Hx
  have Hx := Lib.hid (HU.out.ext hb)
  clear HU
  have HU := Hx
  clear Hx
  have Hx := Lib.hid (HLN.out.ext hb)
  clear HLN
  have HLN := Hx
  clear Hx
  have HM := Lib.hid hv
  clear hv hb hat
  go_upto_region 7 with fail
  rw [← hw, ← hp]
  clear hw hp
  obtain ⟨cT0, cT1, cT2⟩ := HT.out.cells
  obtain ⟨cX0, cX1, cX2⟩ := HX.out.cells
  obtain ⟨cM0, cM1, cM2⟩ := HM.out.cells
  obtain ⟨ls, hl2, hlp, htr⟩ := trs2 HM.out.at_ HX.out.at_
  obtain ⟨wj, hwj⟩ : ∃ wj, wj = y4.alloc (.cells #[.int .i64 s4, .slice A4 n4 c4, .slice B4 m4 d4, .int .i64 s1, .slice A1 n1 c1, .slice B1 m1 d1] 25) := ⟨_, rfl⟩
  rw [← hwj] at htr
  have hbj : Below y4.heap.size y4 wj := by rw [hwj]; exact below_new _ _
  have HWJ := Lib.hid hwj
  have hm3 : ∀ t ∈ ls, t.hs.length ≤ 3 := fun t h => by
    have h1 : t.pt ∈ [exM, exX] := by rw [← hlp]; exact List.mem_map_of_mem h
    have h2 : t.hs.length = t.pt.ns.length := by simp [TrH.pt]
    rw [h2]
    simp only [List.mem_cons, List.not_mem_nil, or_false] at h1
    rcases h1 with e | e <;> rw [e] <;> decide
  clear hwj
  have HBx := Lib.hid (HB.out.trans (hbj.mono HB.out.size))
  clear HB
  have HB := HBx
  clear HBx
  have Hx := Lib.hid (HT.out.ext hbj)
  clear HT
  have HT := Hx
  clear Hx
  have Hx := Lib.hid (HX.out.ext hbj)
  clear HX
  have HX := Hx
  clear Hx
  have Hx := Lib.hid (HF.out.ext hbj)
  clear HF
  have HF := Hx
  clear Hx
  have Hx := Lib.hid (HU.out.ext hbj)
  clear HU
  have HU := Hx
  clear Hx
  have Hx := Lib.hid (HM.out.ext hbj)
  clear HM
  have HM := Hx
  clear Hx
  have Hx := Lib.hid (HLN.out.ext hbj)
  clear HLN
  have HLN := Hx
  clear Hx
  have hcall := choose_tv (lc := 2) HT.out.at_ htr ((HTAB.out.on HB.out).up HB.out.size) (by rw [hl2]; decide) 3 (by decide) hm3 (by rw [hl2]; decide)
  rw [hlp, ex_choose, hl2] at hcall
  have HCALL := Lib.hid hcall
  clear hcall
  go_wp2_with (go_at_call 22; rw [← HWJ.out]; refine HCALL.out.mono ?_; intro e x5 hx; obtain ⟨s5, A5, n5, c5, B5, m5, d5, rfl, hat, hb⟩ := hx; refine Hid.out ?_)
  refine Lib.hid ?_
  have HBx := Lib.hid (HB.out.trans (hb.mono HB.out.size))
  clear HB
  have HB := HBx
  clear HBx
  have Hx := Lib.hid (HT.out.ext hb)
  clear HT
  have HT := Hx
  clear Hx
  have Hx := Lib.hid (HX.out.ext hb)
  clear HX
  have HX := Hx
  clear Hx
  have Hx := Lib.hid (HF.out.ext hb)
  clear HF
  have HF := Hx
  clear Hx
  have Hx := Lib.hid (HU.out.ext hb)
  clear HU
  have HU := Hx
  clear Hx
  have Hx := Lib.hid (HM.out.ext hb)
  clear HM
  have HM := Hx
  clear Hx
  have Hx := Lib.hid (HLN.out.ext hb)
  clear HLN
  have HLN := Hx
  clear Hx
  clear hb HCALL
  clear cT0 cT1 cT2 cX0 cX1 cX2 cM0 cM1 cM2
  clear HWJ hbj hl2 hlp htr hm3
  obtain ⟨y5, hw⟩ : ∃ W, W = x5.alloc (.cells #[.int .i64 s5, .slice A5 n5 c5, .slice B5 m5 d5] 25) := ⟨_, rfl⟩
  obtain ⟨pC, hp⟩ : ∃ p, p = x5.heap.size := ⟨_, rfl⟩
  have hv := TrV.new hat
  rw [← hw, ← hp] at hv
  have hb : Below x5.heap.size x5 y5 := by rw [hw]; exact below_new _ _
  have HBx := Lib.hid (HB.out.trans (hb.mono HB.out.size))
  clear HB
  have HB := HBx
  clear HBx
  have Hx := Lib.hid (HT.out.ext hb)
  clear HT
  have HT := Hx
  clear Hx
  have Hx := Lib.hid (HX.out.ext hb)
  clear HX
  have HX := Hx
  clear Hx
  have Hx := Lib.hid (HF.out.ext hb)
  clear HF
  have HF := Hx
  clear Hx
  have Hx := Lib.hid (HU.out.ext hb)
  clear HU
  have HU := Hx
  clear Hx
  have Hx := Lib.hid (HM.out.ext hb)
  clear HM
  have HM := Hx
  clear Hx
  have Hx := Lib.hid (HLN.out.ext hb)
  clear HLN
  have HLN := Hx
  clear Hx
  have HC := Lib.hid hv
  clear hv hb hat
  go_upto_region 8 with fail
  rw [← hw, ← hp]
  clear hw hp
  obtain ⟨cT0, cT1, cT2⟩ := HT.out.cells
  obtain ⟨cX0, cX1, cX2⟩ := HX.out.cells
  obtain ⟨cM0, cM1, cM2⟩ := HM.out.cells
  have hcall := uses_tv (k := 1) HT.out.at_ ((HTAB.out.on HB.out).up HB.out.size)
  rw [ex_uses1] at hcall
  have HCALL := Lib.hid hcall
  clear hcall
  go_wp2_with (go_at_call 16; refine HCALL.out.mono ?_; intro e x6 hx; obtain ⟨rfl, hb⟩ := hx; refine Hid.out ?_)
  refine Lib.hid ?_
  have HBx := Lib.hid (HB.out.trans (hb.mono HB.out.size))
  clear HB
  have HB := HBx
  clear HBx
  have Hx := Lib.hid (HT.out.ext hb)
  clear HT
  have HT := Hx
  clear Hx
  have Hx := Lib.hid (HX.out.ext hb)
  clear HX
  have HX := Hx
  clear Hx
  have Hx := Lib.hid (HF.out.ext hb)
  clear HF
  have HF := Hx
  clear Hx
  have Hx := Lib.hid (HU.out.ext hb)
  clear HU
  have HU := Hx
  clear Hx
  have Hx := Lib.hid (HM.out.ext hb)
  clear HM
  have HM := Hx
  clear Hx
  have Hx := Lib.hid (HC.out.ext hb)
  clear HC
  have HC := Hx
  clear Hx
  have Hx := Lib.hid (HLN.out.ext hb)
  clear HLN
  have HLN := Hx
  clear Hx
  clear hb HCALL
  clear cT0 cT1 cT2 cX0 cX1 cX2 cM0 cM1 cM2
  obtain ⟨cT0, cT1, cT2⟩ := HT.out.cells
  obtain ⟨cX0, cX1, cX2⟩ := HX.out.cells
  obtain ⟨cM0, cM1, cM2⟩ := HM.out.cells
  have hcall := uses_tv (k := 0) HT.out.at_ ((HTAB.out.on HB.out).up HB.out.size)
  rw [ex_uses0] at hcall
  have HCALL := Lib.hid hcall
  clear hcall
  go_wp2_with (go_at_call 16; refine HCALL.out.mono ?_; intro e x7 hx; obtain ⟨rfl, hb⟩ := hx; refine Hid.out ?_)
  refine Lib.hid ?_
  have HBx := Lib.hid (HB.out.trans (hb.mono HB.out.size))
  clear HB
  have HB := HBx
  clear HBx
  have Hx := Lib.hid (HT.out.ext hb)
  clear HT
  have HT := Hx
  clear Hx
  have Hx := Lib.hid (HX.out.ext hb)
  clear HX
  have HX := Hx
  clear Hx
  have Hx := Lib.hid (HF.out.ext hb)
  clear HF
  have HF := Hx
  clear Hx
  have Hx := Lib.hid (HU.out.ext hb)
  clear HU
  have HU := Hx
  clear Hx
  have Hx := Lib.hid (HM.out.ext hb)
  clear HM
  have HM := Hx
  clear Hx
  have Hx := Lib.hid (HC.out.ext hb)
  clear HC
  have HC := Hx
  clear Hx
  have Hx := Lib.hid (HLN.out.ext hb)
  clear HLN
  have HLN := Hx
  clear Hx
  clear hb HCALL
  clear cT0 cT1 cT2 cX0 cX1 cX2 cM0 cM1 cM2
  obtain ⟨cT0, cT1, cT2⟩ := HT.out.cells
  obtain ⟨cX0, cX1, cX2⟩ := HX.out.cells
  obtain ⟨cM0, cM1, cM2⟩ := HM.out.cells
  have hcall := equal_tv HT.out.at_ HX.out.at_ ((HTAB.out.on HB.out).up HB.out.size)
  rw [ex_eq1] at hcall
  have HCALL := Lib.hid hcall
  clear hcall
  go_wp2_with (go_at_call 14; refine HCALL.out.mono ?_; intro e x8 hx; obtain ⟨rfl, hb⟩ := hx; refine Hid.out ?_)
  refine Lib.hid ?_
  have HBx := Lib.hid (HB.out.trans (hb.mono HB.out.size))
  clear HB
  have HB := HBx
  clear HBx
  have Hx := Lib.hid (HT.out.ext hb)
  clear HT
  have HT := Hx
  clear Hx
  have Hx := Lib.hid (HX.out.ext hb)
  clear HX
  have HX := Hx
  clear Hx
  have Hx := Lib.hid (HF.out.ext hb)
  clear HF
  have HF := Hx
  clear Hx
  have Hx := Lib.hid (HU.out.ext hb)
  clear HU
  have HU := Hx
  clear Hx
  have Hx := Lib.hid (HM.out.ext hb)
  clear HM
  have HM := Hx
  clear Hx
  have Hx := Lib.hid (HC.out.ext hb)
  clear HC
  have HC := Hx
  clear Hx
  have Hx := Lib.hid (HLN.out.ext hb)
  clear HLN
  have HLN := Hx
  clear Hx
  clear hb HCALL
  clear cT0 cT1 cT2 cX0 cX1 cX2 cM0 cM1 cM2
  obtain ⟨cT0, cT1, cT2⟩ := HT.out.cells
  obtain ⟨cX0, cX1, cX2⟩ := HX.out.cells
  obtain ⟨cM0, cM1, cM2⟩ := HM.out.cells
  have hcall := equal_tv HT.out.at_ HM.out.at_ ((HTAB.out.on HB.out).up HB.out.size)
  rw [ex_eq2] at hcall
  have HCALL := Lib.hid hcall
  clear hcall
  go_wp2_with (go_at_call 14; refine HCALL.out.mono ?_; intro e x9 hx; obtain ⟨rfl, hb⟩ := hx; refine Hid.out ?_)
  refine Lib.hid ?_
  have HBx := Lib.hid (HB.out.trans (hb.mono HB.out.size))
  clear HB
  have HB := HBx
  clear HBx
  have Hx := Lib.hid (HT.out.ext hb)
  clear HT
  have HT := Hx
  clear Hx
  have Hx := Lib.hid (HX.out.ext hb)
  clear HX
  have HX := Hx
  clear Hx
  have Hx := Lib.hid (HF.out.ext hb)
  clear HF
  have HF := Hx
  clear Hx
  have Hx := Lib.hid (HU.out.ext hb)
  clear HU
  have HU := Hx
  clear Hx
  have Hx := Lib.hid (HM.out.ext hb)
  clear HM
  have HM := Hx
  clear Hx
  have Hx := Lib.hid (HC.out.ext hb)
  clear HC
  have HC := Hx
  clear Hx
  have Hx := Lib.hid (HLN.out.ext hb)
  clear HLN
  have HLN := Hx
  clear Hx
  clear hb HCALL
  clear cT0 cT1 cT2 cX0 cX1 cX2 cM0 cM1 cM2
  go_upto_region 10 with fail
  obtain ⟨wk, hk⟩ : ∃ wk, wk = ((x9.alloc (.cells #[.int .i64 1, .int .i64 1] 3)).alloc (.cells #[.int .i64 0, .int .i64 0] 3)).alloc
        (.cells #[.int .i64 1, .slice (some ⟨x9.heap.size, 0, none⟩) 2 2, .int .i64 2, .slice (some ⟨x9.heap.size + 1, 0, none⟩) 2 2] 53) := ⟨_, rfl⟩
  obtain ⟨bk, zk, htk⟩ := lit2 x9 2 (some ⟨w.heap.size, 0, none⟩) 2 [(-1, 0), (0, 0)] HLN.out 1 2 1 1 0 0 wk hk
  obtain ⟨wl, hwl⟩ : ∃ wl, wl = wk.alloc (.cells #[.int .i64 2, .slice (some ⟨w.heap.size, 0, none⟩) 2 2, .slice (some ⟨x9.heap.size + 1 + 1, 0, none⟩) 2 2] 25) := ⟨_, rfl⟩
  have hv : TrV (wk.alloc (.cells #[.int .i64 2, .slice (some ⟨w.heap.size, 0, none⟩) 2 2, .slice (some ⟨x9.heap.size + 1 + 1, 0, none⟩) 2 2] 25)) wk.heap.size 2 (some ⟨w.heap.size, 0, none⟩) 2 2 (some ⟨x9.heap.size + 1 + 1, 0, none⟩) 2 2 exF := TrV.new htk
  have bl : Below wk.heap.size wk wl := by rw [hwl]; exact below_new _ _
  rw [← hwl, zk] at hv
  have hb : Below x9.heap.size x9 wl := bk.trans (bl.mono bk.size)
  obtain ⟨pG, hpG⟩ : ∃ p, p = x9.heap.size + 1 + 1 + 1 := ⟨_, rfl⟩
  obtain ⟨bG, hbG⟩ : ∃ b, b = x9.heap.size + 1 + 1 := ⟨_, rfl⟩
  rw [← hpG, ← hbG] at hv
  rw [hk, ← hbG] at hwl
  have HWL := Lib.hid hwl
  have HPG := Lib.hid (And.intro hpG hbG)
  clear bk zk htk bl hwl hpG hbG hk
  have HBx := Lib.hid (HB.out.trans (hb.mono HB.out.size))
  clear HB
  have HB := HBx
  clear HBx
  have Hx := Lib.hid (HT.out.ext hb)
  clear HT
  have HT := Hx
  clear Hx
  have Hx := Lib.hid (HX.out.ext hb)
  clear HX
  have HX := Hx
  clear Hx
  have Hx := Lib.hid (HF.out.ext hb)
  clear HF
  have HF := Hx
  clear Hx
  have Hx := Lib.hid (HU.out.ext hb)
  clear HU
  have HU := Hx
  clear Hx
  have Hx := Lib.hid (HM.out.ext hb)
  clear HM
  have HM := Hx
  clear Hx
  have Hx := Lib.hid (HC.out.ext hb)
  clear HC
  have HC := Hx
  clear Hx
  have Hx := Lib.hid (HLN.out.ext hb)
  clear HLN
  have HLN := Hx
  clear Hx
  have HG := Lib.hid hv
  clear hv hb
  go_upto_region 11 with fail
  rw [← HPG.out.1, ← HPG.out.2, ← HWL.out]
  clear HWL HPG
  obtain ⟨wm, hm⟩ : ∃ wm, wm = ((((wl.alloc (.cells #[.int .i64 0, .int .i64 0, .int .i64 1, .int .i64 0] 49)).alloc (.cells #[.int .i64 0, .int .i64 0] 3)).alloc (.cells #[.int .i64 1, .int .i64 1] 3)).alloc (.cells #[.int .i64 0, .int .i64 1] 3)).alloc
        (.cells #[.int .i64 1, .slice (some ⟨wl.heap.size + 1, 0, none⟩) 2 2, .int .i64 1, .slice (some ⟨wl.heap.size + 1 + 1, 0, none⟩) 2 2, .int .i64 2, .slice (some ⟨wl.heap.size + 1 + 1 + 1, 0, none⟩) 2 2] 53) := ⟨_, rfl⟩
  obtain ⟨bk, zk, -, htk⟩ := lit3 wl 2 0 0 1 0 1 1 2 0 0 1 1 0 1 wm hm
  obtain ⟨wo, hwo⟩ : ∃ wo, wo = wm.alloc (.cells #[.int .i64 2, .slice (some ⟨wl.heap.size, 0, none⟩) 2 2, .slice (some ⟨wl.heap.size + 1 + 1 + 1 + 1, 0, none⟩) 3 3] 25) := ⟨_, rfl⟩
  have hv := TrV.new htk
  have bl : Below wm.heap.size wm wo := by rw [hwo]; exact below_new _ _
  rw [← hwo, zk] at hv
  have hb : Below wl.heap.size wl wo := bk.trans (bl.mono bk.size)
  rw [hm] at hwo
  have HWL := Lib.hid hwo
  clear bk zk htk bl hwo hm
  have HBx := Lib.hid (HB.out.trans (hb.mono HB.out.size))
  clear HB
  have HB := HBx
  clear HBx
  have Hx := Lib.hid (HT.out.ext hb)
  clear HT
  have HT := Hx
  clear Hx
  have Hx := Lib.hid (HX.out.ext hb)
  clear HX
  have HX := Hx
  clear Hx
  have Hx := Lib.hid (HF.out.ext hb)
  clear HF
  have HF := Hx
  clear Hx
  have Hx := Lib.hid (HU.out.ext hb)
  clear HU
  have HU := Hx
  clear Hx
  have Hx := Lib.hid (HM.out.ext hb)
  clear HM
  have HM := Hx
  clear Hx
  have Hx := Lib.hid (HC.out.ext hb)
  clear HC
  have HC := Hx
  clear Hx
  have Hx := Lib.hid (HG.out.ext hb)
  clear HG
  have HG := Hx
  clear Hx
  have Hx := Lib.hid (HLN.out.ext hb)
  clear HLN
  have HLN := Hx
  clear Hx
  have HH : Hid (TrV wo (wl.heap.size + 1 + 1 + 1 + 1 + 1) 2 (some ⟨wl.heap.size, 0, none⟩) 2 2 (some ⟨wl.heap.size + 1 + 1 + 1 + 1, 0, none⟩) 3 3 exU) := Lib.hid hv
  clear hv hb
  go_upto_region 12 with fail
  rw [← HWL.out]
  clear HWL
  have hmx := HX.out.at_.len_
  rw [show exX.ns.length = 2 from rfl] at hmx
  subst hmx
  obtain ⟨cX0, cX1, cX2⟩ := HX.out.cells
  obtain ⟨cF0, cF1, cF2⟩ := HF.out.cells
  obtain ⟨cU0, cU1, cU2⟩ := HU.out.cells
  obtain ⟨cC0, cC1, cC2⟩ := HC.out.cells
  obtain ⟨cG0, cG1, cG2⟩ := HG.out.cells
  obtain ⟨cH0, cH1, cH2⟩ := HH.out.cells
  have hcall := rsamet_at HF.out.at_ HG.out.at_
  rw [ex_same] at hcall
  have HCALL := Lib.hid hcall
  clear hcall
  go_wp2_with (go_at_call 11; refine HCALL.out.mono ?_; intro e x10 hx; obtain ⟨rfl, hb⟩ := hx; refine Hid.out ?_)
  refine Lib.hid ?_
  have HBx := Lib.hid (HB.out.trans (hb.mono HB.out.size))
  clear HB
  have HB := HBx
  clear HBx
  have Hx := Lib.hid (HT.out.ext hb)
  clear HT
  have HT := Hx
  clear Hx
  have Hx := Lib.hid (HX.out.ext hb)
  clear HX
  have HX := Hx
  clear Hx
  have Hx := Lib.hid (HF.out.ext hb)
  clear HF
  have HF := Hx
  clear Hx
  have Hx := Lib.hid (HU.out.ext hb)
  clear HU
  have HU := Hx
  clear Hx
  have Hx := Lib.hid (HM.out.ext hb)
  clear HM
  have HM := Hx
  clear Hx
  have Hx := Lib.hid (HC.out.ext hb)
  clear HC
  have HC := Hx
  clear Hx
  have Hx := Lib.hid (HG.out.ext hb)
  clear HG
  have HG := Hx
  clear Hx
  have Hx := Lib.hid (HH.out.ext hb)
  clear HH
  have HH := Hx
  clear Hx
  have Hx := Lib.hid (HLN.out.ext hb)
  clear HLN
  have HLN := Hx
  clear Hx
  clear hb HCALL
  clear cX0 cX1 cX2 cF0 cF1 cF2 cU0 cU1 cU2 cC0 cC1 cC2 cG0 cG1 cG2 cH0 cH1 cH2
  obtain ⟨cX0, cX1, cX2⟩ := HX.out.cells
  obtain ⟨cF0, cF1, cF2⟩ := HF.out.cells
  obtain ⟨cU0, cU1, cU2⟩ := HU.out.cells
  obtain ⟨cC0, cC1, cC2⟩ := HC.out.cells
  obtain ⟨cG0, cG1, cG2⟩ := HG.out.cells
  obtain ⟨cH0, cH1, cH2⟩ := HH.out.cells
  have hcall := rsamet_at HU.out.at_ HH.out.at_
  rw [ex_same] at hcall
  have HCALL := Lib.hid hcall
  clear hcall
  go_wp2_with (go_at_call 11; refine HCALL.out.mono ?_; intro e x11 hx; obtain ⟨rfl, hb⟩ := hx; refine Hid.out ?_)
  refine Lib.hid ?_
  have HBx := Lib.hid (HB.out.trans (hb.mono HB.out.size))
  clear HB
  have HB := HBx
  clear HBx
  have Hx := Lib.hid (HT.out.ext hb)
  clear HT
  have HT := Hx
  clear Hx
  have Hx := Lib.hid (HX.out.ext hb)
  clear HX
  have HX := Hx
  clear Hx
  have Hx := Lib.hid (HF.out.ext hb)
  clear HF
  have HF := Hx
  clear Hx
  have Hx := Lib.hid (HU.out.ext hb)
  clear HU
  have HU := Hx
  clear Hx
  have Hx := Lib.hid (HM.out.ext hb)
  clear HM
  have HM := Hx
  clear Hx
  have Hx := Lib.hid (HC.out.ext hb)
  clear HC
  have HC := Hx
  clear Hx
  have Hx := Lib.hid (HG.out.ext hb)
  clear HG
  have HG := Hx
  clear Hx
  have Hx := Lib.hid (HH.out.ext hb)
  clear HH
  have HH := Hx
  clear Hx
  have Hx := Lib.hid (HLN.out.ext hb)
  clear HLN
  have HLN := Hx
  clear Hx
  clear hb HCALL
  clear cX0 cX1 cX2 cF0 cF1 cF2 cU0 cU1 cU2 cC0 cC1 cC2 cG0 cG1 cG2 cH0 cH1 cH2
  obtain ⟨cX0, cX1, cX2⟩ := HX.out.cells
  obtain ⟨cF0, cF1, cF2⟩ := HF.out.cells
  obtain ⟨cU0, cU1, cU2⟩ := HU.out.cells
  obtain ⟨cC0, cC1, cC2⟩ := HC.out.cells
  obtain ⟨cG0, cG1, cG2⟩ := HG.out.cells
  obtain ⟨cH0, cH1, cH2⟩ := HH.out.cells
  have hcall := rsamet_at HC.out.at_ HG.out.at_
  rw [ex_same] at hcall
  have HCALL := Lib.hid hcall
  clear hcall
  go_wp2_with (go_at_call 11; refine HCALL.out.mono ?_; intro e x12 hx; obtain ⟨rfl, hb⟩ := hx; refine Hid.out ?_)
  refine Lib.hid ?_
  have HBx := Lib.hid (HB.out.trans (hb.mono HB.out.size))
  clear HB
  have HB := HBx
  clear HBx
  have Hx := Lib.hid (HT.out.ext hb)
  clear HT
  have HT := Hx
  clear Hx
  have Hx := Lib.hid (HX.out.ext hb)
  clear HX
  have HX := Hx
  clear Hx
  have Hx := Lib.hid (HF.out.ext hb)
  clear HF
  have HF := Hx
  clear Hx
  have Hx := Lib.hid (HU.out.ext hb)
  clear HU
  have HU := Hx
  clear Hx
  have Hx := Lib.hid (HM.out.ext hb)
  clear HM
  have HM := Hx
  clear Hx
  have Hx := Lib.hid (HC.out.ext hb)
  clear HC
  have HC := Hx
  clear Hx
  have Hx := Lib.hid (HG.out.ext hb)
  clear HG
  have HG := Hx
  clear Hx
  have Hx := Lib.hid (HH.out.ext hb)
  clear HH
  have HH := Hx
  clear Hx
  have Hx := Lib.hid (HLN.out.ext hb)
  clear HLN
  have HLN := Hx
  clear Hx
  clear hb HCALL
  clear cX0 cX1 cX2 cF0 cF1 cF2 cU0 cU1 cU2 cC0 cC1 cC2 cG0 cG1 cG2 cH0 cH1 cH2
  go_wp2
  go_ret
  exact ⟨rfl, HB.out⟩
end Go.Proofs.YtojnnfihpiegoaaDoor
