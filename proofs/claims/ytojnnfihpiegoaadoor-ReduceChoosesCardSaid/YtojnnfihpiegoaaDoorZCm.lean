/-
  symmetry.Apply. No condition but the table of the matrices, and numbers below 2 ^ 62.
  reduce.swapped in plain lists: two positions of the order exchanged. No condition.
  What reduce.swapped holds in memory. No condition.
-/
import Derived.Test.YtojnnfihpiegoaaDoorZChs
import Derived.Test.YtojnnfihpiegoaaDoorZCk
namespace Go.Proofs.YtojnnfihpiegoaaDoor
open Go.RowKit
set_option maxRecDepth 100000
set_option linter.unusedVariables false
set_option linter.unusedSimpArgs false

theorem Tryd.sizePoint : (Tryd.prog.info? 49).map (·.size) = some 2 := by kernel_rfl
def matL : List Int := [1, 0, 0, 1, 0, -1, 1, 0, -1, 0, 0, -1, 0, 1, -1, 0, -1, 0, 0, 1, 0, -1, -1, 0, 1, 0, 0, -1, 0, 1, 1, 0]
/-- the matrices lie in the first block -/
def GMat (w : World) : Prop := 0 < w.heap.size ∧ ∀ i, i < 32 → w.cell? ⟨0, i, none⟩ = some (.int .i64 (matL.getD i 0))
theorem GMat.ext {w w' : World} (h : GMat w) (hb : Below w.heap.size w w') : GMat w' := ⟨Nat.lt_of_lt_of_le h.1 hb.size, fun i hi => (hb.cell (p := ⟨0, i, none⟩) h.1).trans (h.2 i hi)⟩
theorem GMat.below {w w' : World} {B : Nat} (h : GMat w) (hB : 0 < B) (hb : Below B w w') : GMat w' := ⟨Nat.lt_of_lt_of_le h.1 hb.size, fun i hi => (hb.cell (p := ⟨0, i, none⟩) hB).trans (h.2 i hi)⟩
/-- the symmetry's number -/
def symJ (k : Int) : Nat := (k % 8).toNat
theorem symJ_lt (k : Int) : symJ k < 8 := by unfold symJ; omega
def symP (k : Int) (p : Int × Int) : Int × Int := (matL.getD (symJ k * 4) 0 * p.1 + matL.getD (symJ k * 4 + 1) 0 * p.2, matL.getD (symJ k * 4 + 2) 0 * p.1 + matL.getD (symJ k * 4 + 3) 0 * p.2)
theorem and_seven (k : Int) : bits .and .i64 k 7 = ((symJ k : Nat) : Int) := by
  show IntKind.i64.wrap ((BitVec.ofInt 64 k &&& BitVec.ofInt 64 7).toNat : Int) = _
  have h7 : (BitVec.ofInt 64 (7 : Int)).toNat = 2 ^ 3 - 1 := by decide
  rw [BitVec.toNat_and, h7, Nat.and_two_pow_sub_one_eq_mod, BitVec.toNat_ofInt]
  have hj := symJ_lt k
  have e : (k % (((2 : Nat) ^ 64 : Nat) : Int)).toNat % 2 ^ 3 = symJ k := by
    unfold symJ
    omega
  rw [e]
  exact IntWalk.i64_in _ (by omega)
theorem mat_cases {j : Nat} (h : j < 32) : matL.getD j 0 = 0 ∨ matL.getD j 0 = 1 ∨ matL.getD j 0 = -1 := by
  have : ∀ j : Fin 32, matL.getD j.1 0 = 0 ∨ matL.getD j.1 0 = 1 ∨ matL.getD j.1 0 = -1 := by decide
  exact this ⟨j, h⟩
theorem mul_in {a x : Int} (h : a = 0 ∨ a = 1 ∨ a = -1) (hx : -4611686018427387904 < x ∧ x < 4611686018427387904) : -4611686018427387904 < a * x ∧ a * x < 4611686018427387904 := by
  rcases h with h | h | h <;> subst h <;> omega
set_option maxHeartbeats 4000000 in
theorem apply_any (k x y : Int) (w : World) (hg : GMat w) (hx : -4611686018427387904 < x ∧ x < 4611686018427387904) (hy : -4611686018427387904 < y ∧ y < 4611686018427387904) :
    Calls Tryd.prog 50 #[.int .i64 k, .agg #[.int .i64 x, .int .i64 y]] w fun e w' => e = .returned (.agg #[.int .i64 (symP k (x, y)).1, .int .i64 (symP k (x, y)).2]) ∧ Below w.heap.size w w' := by
  have hj := symJ_lt k
  obtain ⟨j, hje⟩ : ∃ j, j = symJ k := ⟨_, rfl⟩
  have hand := and_seven k
  have hsp : symP k (x, y) = (matL.getD (j * 4) 0 * x + matL.getD (j * 4 + 1) 0 * y, matL.getD (j * 4 + 2) 0 * x + matL.getD (j * 4 + 3) 0 * y) := by rw [hje]; rfl
  rw [← hje] at hj hand
  rw [hsp]
  have g0 := hg.2 (j * 4) (by omega)
  have g1 := hg.2 (j * 4 + 1) (by omega)
  have g2 := hg.2 (j * 4 + 2) (by omega)
  have g3 := hg.2 (j * 4 + 3) (by omega)
  have m0 := mat_cases (j := j * 4) (by omega)
  have m1 := mat_cases (j := j * 4 + 1) (by omega)
  have m2 := mat_cases (j := j * 4 + 2) (by omega)
  have m3 := mat_cases (j := j * 4 + 3) (by omega)
  generalize matL.getD (j * 4) 0 = a at *
  generalize matL.getD (j * 4 + 1) 0 = b at *
  generalize matL.getD (j * 4 + 2) 0 = c at *
  generalize matL.getD (j * 4 + 3) 0 = d at *
  have i0 := mul_in m0 hx
  have i1 := mul_in m1 hy
  have i2 := mul_in m2 hx
  have i3 := mul_in m3 hy
  have w0' : wrap64 (a * x) = a * x := by generalize a * x = t at *; unfold wrap64; omega
  have w1' : wrap64 (b * y) = b * y := by generalize b * y = t at *; unfold wrap64; omega
  have w2' : wrap64 (c * x) = c * x := by generalize c * x = t at *; unfold wrap64; omega
  have w3' : wrap64 (d * y) = d * y := by generalize d * y = t at *; unfold wrap64; omega
  have w4' : wrap64 (a * x + b * y) = a * x + b * y := by generalize a * x = t at *; generalize b * y = u at *; unfold wrap64; omega
  have w5' : wrap64 (c * x + d * y) = c * x + d * y := by generalize c * x = t at *; generalize d * y = u at *; unfold wrap64; omega
  obtain ⟨v1, hv1⟩ : ∃ v1, v1 = w.alloc (.cells #[.int .i64 x, .int .i64 y] 49) := ⟨_, rfl⟩
  obtain ⟨v2, hv2⟩ : ∃ v2, v2 = v1.alloc (.cells #[.int .i64 0, .int .i64 0] 49) := ⟨_, rfl⟩
  have b1 : Below w.heap.size w v1 := by rw [hv1]; exact below_new _ _
  have b2 : Below v1.heap.size v1 v2 := by rw [hv2]; exact below_new _ _
  have b12 : Below w.heap.size w v2 := b1.trans (b2.mono b1.size)
  have z1 : v1.heap.size = w.heap.size + 1 := by rw [hv1]; simp
  have p1 : Blk v2 w.heap.size 49 #[.int .i64 x, .int .i64 y] := by
    have : Blk v1 w.heap.size 49 #[.int .i64 x, .int .i64 y] := by rw [hv1]; exact Blk.new _ _ _
    exact this.below b2 this.lt
  have p2 : Blk v2 (w.heap.size + 1) 49 #[.int .i64 0, .int .i64 0] := by rw [← z1, hv2]; exact Blk.new _ _ _
  rw [hv1] at hv2
  have h0 := (b12.cell (p := ⟨0, j * 4, none⟩) hg.1).trans g0
  have h1 := (b12.cell (p := ⟨0, j * 4 + 1, none⟩) hg.1).trans g1
  have h2 := (b12.cell (p := ⟨0, j * 4 + 2, none⟩) hg.1).trans g2
  have h3 := (b12.cell (p := ⟨0, j * 4 + 3, none⟩) hg.1).trans g3
  have HV := Lib.hid hv2
  have HB := Lib.hid b12
  have HP1 := Lib.hid p1
  have HP2 := Lib.hid p2
  clear hv1 hv2 b1 b2 b12 z1 p1 p2 g0 g1 g2 g3 m0 m1 m2 m3 i0 i1 i2 i3 hx hy hje hsp hg
  go_enter Tryd.func50, Tryd.ntmps50
  go_upto_region 1 with fail
  rw [← HV.out]
  go_upto_region 2 with fail
  obtain ⟨v3, hv3⟩ : ∃ v3, v3 = v2.alloc (.cells #[.int .i64 a, .int .i64 b, .int .i64 c, .int .i64 d] 93) := ⟨_, rfl⟩
  have b3 : Below v2.heap.size v2 v3 := by rw [hv3]; exact below_new _ _
  have p3 : Blk v3 v2.heap.size 93 #[.int .i64 a, .int .i64 b, .int .i64 c, .int .i64 d] := by rw [hv3]; exact Blk.new _ _ _
  have q1 := HP1.out.below b3 HP1.out.lt
  have q2 := HP2.out.below b3 HP2.out.lt
  have x0 := p3.cell_ 0 (.int .i64 a) rfl
  have x1 := p3.cell_ 1 (.int .i64 b) rfl
  have x2 := p3.cell_ 2 (.int .i64 c) rfl
  have x3 := p3.cell_ 3 (.int .i64 d) rfl
  have y0 := q1.cell_ 0 (.int .i64 x) rfl
  have y1 := q1.cell_ 1 (.int .i64 y) rfl
  have r0 := q2.cell_ 0 (.int .i64 0) rfl
  have r1 := q2.cell_ 1 (.int .i64 0) rfl
  have f0 := q2.frozen 0
  have f1 := q2.frozen 1
  have HQ2 := Lib.hid q2
  have HB3 : Hid (Below w.heap.size w v3) := Lib.hid (HB.out.trans (b3.mono HB.out.size))
  obtain ⟨g3, hg3⟩ : ∃ g3, g3 = v2.heap.size := ⟨_, rfl⟩
  rw [← hv3, ← hg3]
  rw [← hg3] at x0 x1 x2 x3
  clear hv3 b3 p3 q1 q2 h0 h1 h2 h3 hg3
  go_wp2
  have hq : Blk ((v3.setCell ⟨w.heap.size + 1, 0, none⟩ (.int .i64 (a * x + b * y))).setCell ⟨w.heap.size + 1, 1, none⟩ (.int .i64 (c * x + d * y))) (w.heap.size + 1) 49 #[.int .i64 (a * x + b * y), .int .i64 (c * x + d * y)] := (HQ2.out.set_ 0 (.int .i64 (a * x + b * y))).set_ 1 (.int .i64 (c * x + d * y))
  exact bodyPost_ret (results_cell_row Tryd.results50 _ _ (w.heap.size + 1) 49 #[.int .i64 (a * x + b * y), .int .i64 (c * x + d * y)] (0, 0) _ rfl hq Tryd.underlying49 rfl Tryd.sizePoint) rfl
    ⟨rfl, (HB3.out.setCell (p := ⟨w.heap.size + 1, 0, none⟩) (Nat.le_succ _) _).setCell (p := ⟨w.heap.size + 1, 1, none⟩) (Nat.le_succ _) _⟩
end Go.Proofs.YtojnnfihpiegoaaDoor
namespace Go.Proofs.YtojnnfihpiegoaaDoor
set_option linter.unusedSimpArgs false
set_option linter.unusedVariables false

def swapAt : Nat → List Nat → List Nat
  | 0, a :: b :: r => b :: a :: r
  | n + 1, a :: r => a :: swapAt n r
  | _, r => r
theorem swapAt_len : ∀ (n : Nat) (l : List Nat), (swapAt n l).length = l.length
  | 0, [] => rfl
  | 0, [_] => rfl
  | 0, _ :: _ :: _ => rfl
  | n + 1, [] => rfl
  | n + 1, a :: r => by simp [swapAt, swapAt_len n r]
theorem swapAt_mem : ∀ (n : Nat) (l : List Nat) (x : Nat), x ∈ swapAt n l → x ∈ l
  | 0, [], x, h => h
  | 0, [_], x, h => h
  | 0, a :: b :: r, x, h => by
    simp only [swapAt, List.mem_cons] at h ⊢
    rcases h with h | h | h
    · exact .inr (.inl h)
    · exact .inl h
    · exact .inr (.inr h)
  | n + 1, [], x, h => h
  | n + 1, a :: r, x, h => by
    simp only [swapAt, List.mem_cons] at h ⊢
    rcases h with h | h
    · exact .inl h
    · exact .inr (swapAt_mem n r x h)
/-- the states, with the two positions exchanged, for a node of level lv -/
def swL (up : Nat) (lv : Int) (ins : List Nat) : List Nat := if (up : Int) ≤ lv then swapAt (lv - up).toNat ins else ins
def innerOf (l : List Nd) (tz : List Int) (up : Nat) (x : Nd) (s : Nat) : List Int := x.2.map fun o => if 2 < up then tz.getD ((ndAt l o.toNat).2.getD s 0).toNat 0 else (ndAt l o.toNat).2.getD s 0
/-- behind m elements of a node of the upper level -/
def swpKids (l : List Nd) (tz : List Int) (up : Nat) (x : Nd) (ns : List Nd) : Nat → List Nd × List Int
  | 0 => (ns, [])
  | m + 1 => ((addN (swpKids l tz up x ns m).1 ((up : Int) - 1, innerOf l tz up x m)).2, (swpKids l tz up x ns m).2 ++ [((addN (swpKids l tz up x ns m).1 ((up : Int) - 1, innerOf l tz up x m)).1 : Int)])
def swpNode (l : List Nd) (up : Nat) (st : List Nd × List Int) (x : Nd) : List Nd × List Int :=
  if x.1 = up then swpKids l st.2 up x st.1 x.2.length else (st.1, if 1 < x.1 then x.2.map (fun z => st.2.getD z.toNat 0) else x.2)
def swpStep (l : List Nd) (up : Nat) (st : List Nd × List Int) (k : Nat) : List Nd × List Int :=
  if (ndAt l k).1 = (up : Int) - 1 then st else
  ((addN (swpNode l up st (ndAt l k)).1 ((ndAt l k).1, (swpNode l up st (ndAt l k)).2)).2, st.2.set k ((addN (swpNode l up st (ndAt l k)).1 ((ndAt l k).1, (swpNode l up st (ndAt l k)).2)).1 : Int))
def swpTo (l : List Nd) (up : Nat) : Nat → List Nd × List Int
  | 0 => ([], List.replicate l.length 0)
  | k + 1 => swpStep l up (swpTo l up k) k
/-- what holds behind k nodes -/
structure SwI (q : Nat) (l : List Nd) (up : Nat) (k : Nat) (st : List Nd × List Int) : Prop where
  tl : st.2.length = l.length
  v : VNd q st.1
  dis : Dis st.1 (· < st.1.length)
  le : st.1.length ≤ (q + 1) * k
  eqv : ∀ i, i < k → (ndAt l i).1 ≠ (up : Int) - 1 → 0 ≤ st.2.getD i 0 ∧ (st.2.getD i 0).toNat < st.1.length ∧ (ndAt st.1 (st.2.getD i 0).toNat).1 = (ndAt l i).1 ∧
    ∀ ins : List Nat, (ins.length : Int) = (ndAt l i).1 → (∀ t ∈ ins, t < q) → val st.1 (st.2.getD i 0) ins = val l (i : Int) (swL up (ndAt l i).1 ins)
section
variable {q : Nat} {l : List Nd} {up : Nat}
/-- a node of the lower level, made anew -/
theorem inner_ok (h : VNd q l) (hup : 2 ≤ up) {k : Nat} (hk : k < l.length) (hx : (ndAt l k).1 = (up : Int)) {tz : List Int} {ns : List Nd}
    (he : ∀ i, i < k → (ndAt l i).1 ≠ (up : Int) - 1 → 0 ≤ tz.getD i 0 ∧ (tz.getD i 0).toNat < ns.length ∧ (ndAt ns (tz.getD i 0).toNat).1 = (ndAt l i).1) {s : Nat} (hs : s < q) :
    (innerOf l tz up (ndAt l k) s).length = q ∧ ((up : Int) - 1 = 1 → ∀ z ∈ innerOf l tz up (ndAt l k) s, 0 ≤ z ∧ z < (q : Int)) ∧ (1 < (up : Int) - 1 → ∀ z ∈ innerOf l tz up (ndAt l k) s, 0 ≤ z ∧ z.toNat < ns.length ∧ (ndAt ns z.toNat).1 = (up : Int) - 1 - 1) := by
  have hl := h.lev.len k hk
  have key : ∀ o ∈ (ndAt l k).2, 0 ≤ o ∧ o.toNat < l.length ∧ (ndAt l o.toNat).1 = (up : Int) - 1 ∧ o < (k : Int) ∧ (ndAt l o.toNat).2.getD s 0 ∈ (ndAt l o.toNat).2 := fun o ho => by
    obtain ⟨p1, p2, p3⟩ := h.lev.kids k hk (by omega) o ho
    exact ⟨p1, p2, by omega, h.ordk k hk (by omega) o ho, getD_mem (by rw [h.lev.len _ p2]; exact hs)⟩
  refine ⟨by unfold innerOf; rw [List.length_map]; exact hl, fun h1 z hz => ?_, fun h1 z hz => ?_⟩
  · unfold innerOf at hz
    obtain ⟨o, ho, rfl⟩ := List.mem_map.1 hz
    rw [if_neg (by omega)]
    obtain ⟨p1, p2, p3, p4, p5⟩ := key o ho
    exact h.low _ p2 (by omega) _ p5
  · unfold innerOf at hz
    obtain ⟨o, ho, rfl⟩ := List.mem_map.1 hz
    rw [if_pos (by omega)]
    obtain ⟨p1, p2, p3, p4, p5⟩ := key o ho
    obtain ⟨r1, r2, r3⟩ := h.lev.kids _ p2 (by omega) _ p5
    have r4 := h.ordk _ p2 (by omega) _ p5
    obtain ⟨e1, e2, e3⟩ := he ((ndAt l o.toNat).2.getD s 0).toNat (by omega) (by rw [r3]; omega)
    exact ⟨e1, e2, by rw [e3, r3]; omega⟩
/-- what holds behind m elements of a node of the upper level -/
theorem swpKids_ok (h : VNd q l) (hup : 2 ≤ up) {k : Nat} {st : List Nd × List Int} (hi : SwI q l up k st) (hk : k < l.length) (hx : (ndAt l k).1 = (up : Int)) :
    ∀ m, m ≤ q → VNd q (swpKids l st.2 up (ndAt l k) st.1 m).1 ∧ Dis (swpKids l st.2 up (ndAt l k) st.1 m).1 (· < (swpKids l st.2 up (ndAt l k) st.1 m).1.length) ∧ (∃ ys, (swpKids l st.2 up (ndAt l k) st.1 m).1 = st.1 ++ ys) ∧
      (swpKids l st.2 up (ndAt l k) st.1 m).1.length ≤ st.1.length + m ∧ (swpKids l st.2 up (ndAt l k) st.1 m).2.length = m ∧
      ∀ s, s < m → 0 ≤ (swpKids l st.2 up (ndAt l k) st.1 m).2.getD s 0 ∧ ((swpKids l st.2 up (ndAt l k) st.1 m).2.getD s 0).toNat < (swpKids l st.2 up (ndAt l k) st.1 m).1.length ∧
        ndAt (swpKids l st.2 up (ndAt l k) st.1 m).1 ((swpKids l st.2 up (ndAt l k) st.1 m).2.getD s 0).toNat = ((up : Int) - 1, innerOf l st.2 up (ndAt l k) s)
  | 0, _ => ⟨hi.v, hi.dis, ⟨[], by simp [swpKids]⟩, by simp [swpKids], rfl, fun s hs => absurd hs (by omega)⟩
  | m + 1, hm => by
    obtain ⟨a1, a2, ⟨ys, a3⟩, a4, a5, a6⟩ := swpKids_ok h hup hi hk hx m (by omega)
    unfold swpKids
    generalize swpKids l st.2 up (ndAt l k) st.1 m = r at a1 a2 a3 a4 a5 a6 ⊢
    obtain ⟨i1, i2, i3⟩ := inner_ok h hup hk hx (tz := st.2) (ns := r.1) (fun i hi1 hi2 => by
      obtain ⟨e1, e2, e3, -⟩ := hi.eqv i hi1 hi2
      exact ⟨e1, by rw [a3, List.length_append]; omega, by rw [a3, ndAt_app_lt e2]; exact e3⟩) (s := m) (by omega)
    obtain ⟨n1, n2, n3, n4, ⟨zs, n5⟩, n6, -⟩ := addN_ok (lv := (up : Int) - 1) a1 a2 (by omega) i1 i2 i3
    refine ⟨n1, n2, ⟨ys ++ zs, by dsimp only; rw [n5, a3, List.append_assoc]⟩, by dsimp only; omega, by simp [a5], fun s hs => ?_⟩
    dsimp only
    rcases Nat.lt_or_ge s m with h1 | h1
    · have e : (r.2 ++ [((addN r.1 ((up : Int) - 1, innerOf l st.2 up (ndAt l k) m)).1 : Int)]).getD s 0 = r.2.getD s 0 := by
        rw [List.getD_eq_getElem?_getD, List.getElem?_append_left (by omega), ← List.getD_eq_getElem?_getD]
      rw [e]
      obtain ⟨b1, b2, b3⟩ := a6 s h1
      exact ⟨b1, by rw [n5, List.length_append]; omega, by rw [n5, ndAt_app_lt b2]; exact b3⟩
    · obtain rfl : s = m := by omega
      have e : (r.2 ++ [((addN r.1 ((up : Int) - 1, innerOf l st.2 up (ndAt l k) s)).1 : Int)]).getD s 0 = ((addN r.1 ((up : Int) - 1, innerOf l st.2 up (ndAt l k) s)).1 : Int) := by
        rw [List.getD_eq_getElem?_getD, List.getElem?_append_right (by omega), a5, Nat.sub_self]
        rfl
      rw [e]
      exact ⟨by omega, by simpa using n3, by rw [Int.toNat_natCast]; exact n4⟩
theorem getD_map {f : Int → Int} {zs : List Int} {s : Nat} (h : s < zs.length) : (zs.map f).getD s 0 = f (zs.getD s 0) := by
  rw [List.getD_eq_getElem?_getD, List.getElem?_map, List.getElem?_eq_getElem h, List.getD_eq_getElem?_getD, List.getElem?_eq_getElem h]
  rfl
/-- the elements of a node that is made anew, and the nodes ahead of it -/
theorem swpNode_ok (h : VNd q l) (hup : 2 ≤ up) {k : Nat} {st : List Nd × List Int} (hi : SwI q l up k st) (hk : k < l.length) (hne : (ndAt l k).1 ≠ (up : Int) - 1) :
    VNd q (swpNode l up st (ndAt l k)).1 ∧ Dis (swpNode l up st (ndAt l k)).1 (· < (swpNode l up st (ndAt l k)).1.length) ∧ (∃ ys, (swpNode l up st (ndAt l k)).1 = st.1 ++ ys) ∧ (swpNode l up st (ndAt l k)).1.length ≤ st.1.length + q ∧ (swpNode l up st (ndAt l k)).2.length = q ∧
      ((ndAt l k).1 = 1 → ∀ z ∈ (swpNode l up st (ndAt l k)).2, 0 ≤ z ∧ z < (q : Int)) ∧ (1 < (ndAt l k).1 → ∀ z ∈ (swpNode l up st (ndAt l k)).2, 0 ≤ z ∧ z.toNat < (swpNode l up st (ndAt l k)).1.length ∧ (ndAt (swpNode l up st (ndAt l k)).1 z.toNat).1 = (ndAt l k).1 - 1) ∧
      ∀ (s : Nat) (r : List Nat), s < q → (r.length : Int) = (ndAt l k).1 - 1 → (∀ t ∈ r, t < q) → val (swpNode l up st (ndAt l k)).1 ((swpNode l up st (ndAt l k)).2.getD s 0) r = val l (k : Int) (swL up (ndAt l k).1 (s :: r)) := by
  have hl := h.lev.len k hk
  have ho := h.lev.one k hk
  by_cases hx : (ndAt l k).1 = (up : Int)
  · have e : swpNode l up st (ndAt l k) = swpKids l st.2 up (ndAt l k) st.1 q := by unfold swpNode; rw [if_pos hx, hl]
    rw [e]
    obtain ⟨a1, a2, a3, a4, a5, a6⟩ := swpKids_ok h hup hi hk hx q (Nat.le_refl _)
    generalize hr : swpKids l st.2 up (ndAt l k) st.1 q = r at a1 a2 a3 a4 a5 a6 ⊢
    have hmem : ∀ z ∈ r.2, ∃ j, j < q ∧ z = r.2.getD j 0 := by
      intro z hz
      obtain ⟨j, hj, e⟩ := List.getElem_of_mem hz
      exact ⟨j, by omega, by rw [List.getD_eq_getElem?_getD, List.getElem?_eq_getElem hj, ← e]; rfl⟩
    refine ⟨a1, a2, a3, a4, a5, fun h1 => by omega, fun h1 z hz => ?_, fun s rr hs hrl hrq => ?_⟩
    · obtain ⟨j, hj, rfl⟩ := hmem z hz
      obtain ⟨b1, b2, b3⟩ := a6 j hj
      exact ⟨b1, b2, by rw [b3, hx]⟩
    · obtain ⟨b1, b2, b3⟩ := a6 s hs
      have hsw : swL up (ndAt l k).1 (s :: rr) = swapAt 0 (s :: rr) := by unfold swL; rw [if_pos (by omega), hx]; simp
      rw [hsw]
      cases rr with
      | nil => simp at hrl; omega
      | cons t r2 =>
        have ht : t < q := hrq t (by simp)
        simp only [swapAt, val, Int.toNat_natCast, b3]
        have hm : (ndAt l k).2.getD t 0 ∈ (ndAt l k).2 := getD_mem (by omega)
        obtain ⟨p1, p2, p3⟩ := h.lev.kids k hk (by omega) _ hm
        have p4 := h.ordk k hk (by omega) _ hm
        have p5 : (ndAt l ((ndAt l k).2.getD t 0).toNat).2.getD s 0 ∈ (ndAt l ((ndAt l k).2.getD t 0).toNat).2 := getD_mem (by rw [h.lev.len _ p2]; exact hs)
        have hin : (innerOf l st.2 up (ndAt l k) s).getD t 0 = if 2 < up then st.2.getD ((ndAt l ((ndAt l k).2.getD t 0).toNat).2.getD s 0).toNat 0 else (ndAt l ((ndAt l k).2.getD t 0).toNat).2.getD s 0 := by
          unfold innerOf
          rw [getD_map (by omega)]
        rw [hin]
        have hr2 : (r2.length : Int) = (up : Int) - 2 := by simp at hrl; omega
        by_cases h2 : 2 < up
        · rw [if_pos h2]
          obtain ⟨c1, c2, c3⟩ := h.lev.kids _ p2 (by omega) _ p5
          have c4 := h.ordk _ p2 (by omega) _ p5
          obtain ⟨e1, e2, e3, e4⟩ := hi.eqv ((ndAt l ((ndAt l k).2.getD t 0).toNat).2.getD s 0).toNat (by omega) (by rw [c3]; omega)
          obtain ⟨ys, hys⟩ := a3
          have hlen2 : r2.length = up - 2 := by omega
          have hvg := val_grow hi.v.lev ys (L := up - 2) e1 (fun _ => ⟨e2, by rw [e3, c3]; omega⟩) hlen2 (fun u hu => hrq u (by simp [hu]))
          rw [hys, hvg, e4 r2 (by rw [c3]; omega) (fun u hu => hrq u (by simp [hu])), toNat_cast c1]
          have : swL up (ndAt l ((ndAt l ((ndAt l k).2.getD t 0).toNat).2.getD s 0).toNat).1 r2 = r2 := by unfold swL; rw [if_neg (by rw [c3]; omega)]
          rw [this]
        · rw [if_neg h2]
          have : r2 = [] := List.eq_nil_of_length_eq_zero (by omega)
          subst this
          rfl
  · have e : swpNode l up st (ndAt l k) = (st.1, if 1 < (ndAt l k).1 then (ndAt l k).2.map (fun z => st.2.getD z.toNat 0) else (ndAt l k).2) := by unfold swpNode; rw [if_neg hx]
    rw [e]
    dsimp only
    by_cases h1 : 1 < (ndAt l k).1
    · rw [if_pos h1]
      have hkid : ∀ y ∈ (ndAt l k).2, 0 ≤ st.2.getD y.toNat 0 ∧ (st.2.getD y.toNat 0).toNat < st.1.length ∧ (ndAt st.1 (st.2.getD y.toNat 0).toNat).1 = (ndAt l k).1 - 1 := fun y hy => by
        obtain ⟨p1, p2, p3⟩ := h.lev.kids k hk h1 y hy
        have p4 := h.ordk k hk h1 y hy
        obtain ⟨e1, e2, e3, -⟩ := hi.eqv y.toNat (by omega) (by rw [p3]; omega)
        exact ⟨e1, e2, by rw [e3, p3]⟩
      refine ⟨hi.v, hi.dis, ⟨[], by simp⟩, by omega, by rw [List.length_map]; exact hl, fun h2 => by omega, fun _ z hz => ?_, fun s rr hs hrl hrq => ?_⟩
      · obtain ⟨y, hy, rfl⟩ := List.mem_map.1 hz
        exact hkid y hy
      · rw [getD_map (by omega)]
        have hm : (ndAt l k).2.getD s 0 ∈ (ndAt l k).2 := getD_mem (by omega)
        obtain ⟨p1, p2, p3⟩ := h.lev.kids k hk h1 _ hm
        have p4 := h.ordk k hk h1 _ hm
        obtain ⟨e1, e2, e3, e4⟩ := hi.eqv ((ndAt l k).2.getD s 0).toNat (by omega) (by rw [p3]; omega)
        rw [e4 rr (by rw [p3]; exact hrl) hrq, toNat_cast p1, p3]
        have hsw : swL up (ndAt l k).1 (s :: rr) = s :: swL up ((ndAt l k).1 - 1) rr := by
          unfold swL
          by_cases hc : (up : Int) ≤ (ndAt l k).1
          · rw [if_pos hc, if_pos (by omega)]
            obtain ⟨n, hn⟩ : ∃ n : Nat, ((ndAt l k).1 - up).toNat = n + 1 := ⟨((ndAt l k).1 - up).toNat - 1, by omega⟩
            rw [hn, show ((ndAt l k).1 - 1 - up).toNat = n by omega]
            rfl
          · rw [if_neg hc, if_neg (by omega)]
        rw [hsw]
        simp only [val, Int.toNat_natCast]
    · rw [if_neg h1]
      refine ⟨hi.v, hi.dis, ⟨[], by simp⟩, by omega, hl, fun h2 z hz => h.low k hk (by omega) z hz, fun h2 => absurd h2 h1, fun s rr hs hrl hrq => ?_⟩
      have : rr = [] := List.eq_nil_of_length_eq_zero (by omega)
      subst this
      have hsw : swL up (ndAt l k).1 [s] = [s] := by unfold swL; rw [if_neg (by omega)]
      rw [hsw]
      simp only [val, Int.toNat_natCast]
theorem SwI.start (q : Nat) (l : List Nd) (up : Nat) : SwI q l up 0 (swpTo l up 0) := by
  refine ⟨List.length_replicate, ⟨⟨fun i h => h, ?_, ?_, ?_⟩, ?_, ?_⟩, ?_, by simp [swpTo], fun i hi => absurd hi (by omega)⟩
  all_goals intro i h
  all_goals first | exact absurd h (Nat.not_lt_zero _) | (intro h2; exact absurd h2 (Nat.not_lt_zero _))
theorem SwI.step (h : VNd q l) (hup : 2 ≤ up) {k : Nat} (hi : SwI q l up k (swpTo l up k)) (hk : k < l.length) : SwI q l up (k + 1) (swpTo l up (k + 1)) := by
  show SwI q l up (k + 1) (swpStep l up (swpTo l up k) k)
  generalize swpTo l up k = st at hi ⊢
  unfold swpStep
  have hmul : (q + 1) * (k + 1) = (q + 1) * k + (q + 1) := by rw [Nat.mul_add, Nat.mul_one]
  by_cases hne : (ndAt l k).1 = (up : Int) - 1
  · rw [if_pos hne]
    refine ⟨hi.tl, hi.v, hi.dis, by have := hi.le; omega, fun i hi1 hi2 => ?_⟩
    have : i ≠ k := by rintro rfl; exact hi2 hne
    exact hi.eqv i (by omega) hi2
  · rw [if_neg hne]
    obtain ⟨a1, a2, ⟨ys, a3⟩, a4, a5, a6, a7, a8⟩ := swpNode_ok h hup hi hk hne
    generalize swpNode l up st (ndAt l k) = r at a1 a2 a3 a4 a5 a6 a7 a8 ⊢
    obtain ⟨n1, n2, n3, n4, ⟨zs, n5⟩, n6, -⟩ := addN_ok (lv := (ndAt l k).1) a1 a2 (h.lev.one k hk) a5 a6 a7
    have hkt : k < st.2.length := by rw [hi.tl]; exact hk
    refine ⟨by dsimp only; rw [List.length_set]; exact hi.tl, n1, n2, by dsimp only; have := hi.le; omega, fun i hi1 hi2 => ?_⟩
    dsimp only
    rw [getD_set hkt]
    by_cases hik : i = k
    · subst hik
      rw [if_pos rfl]
      refine ⟨by omega, by simpa using n3, by rw [Int.toNat_natCast, n4], fun ins hl hq => ?_⟩
      cases ins with
      | nil => have := h.lev.one i hk; simp at hl; omega
      | cons s rr =>
        have hs : s < q := hq s (by simp)
        simp only [val, Int.toNat_natCast, n4]
        have hrl : (rr.length : Int) = (ndAt l i).1 - 1 := by simp at hl; omega
        rw [← a8 s rr hs hrl (fun u hu => hq u (by simp [hu])), n5]
        have hm : r.2.getD s 0 ∈ r.2 := getD_mem (by omega)
        by_cases h1 : 1 < (ndAt l i).1
        · obtain ⟨b1, b2, b3⟩ := a7 h1 _ hm
          exact val_grow a1.lev zs (L := rr.length) b1 (fun _ => ⟨b2, by rw [b3]; omega⟩) rfl (fun u hu => hq u (by simp [hu]))
        · have : rr = [] := List.eq_nil_of_length_eq_zero (by have := h.lev.one i hk; omega)
          subst this
          rfl
    · rw [if_neg hik]
      obtain ⟨e1, e2, e3, e4⟩ := hi.eqv i (by omega) hi2
      have hg : (addN r.1 ((ndAt l k).1, r.2)).2 = st.1 ++ (ys ++ zs) := by rw [n5, a3, List.append_assoc]
      refine ⟨e1, by rw [hg, List.length_append]; omega, by rw [hg, ndAt_app_lt e2]; exact e3, fun ins hl hq => ?_⟩
      rw [hg, val_grow hi.v.lev (ys ++ zs) (L := ins.length) e1 (fun _ => ⟨e2, by rw [e3]; exact hl.symm⟩) rfl hq]
      exact e4 ins hl hq
theorem SwI.all (h : VNd q l) (hup : 2 ≤ up) : ∀ k, k ≤ l.length → SwI q l up k (swpTo l up k)
  | 0, _ => SwI.start q l up
  | k + 1, hk => (SwI.all h hup k (by omega)).step h hup (by omega)
end
/-- the nodes with two positions exchanged -/
def swpN (l : List Nd) (up : Nat) : List Nd := ord (swpTo l up l.length).1 100 ((swpTo l up l.length).2.getD (l.length - 1) 0).toNat
theorem swpN_ok {q : Nat} {l : List Nd} {up : Nat} (h : VNd q l) (hup : 2 ≤ up) (hp : 0 < l.length) (hl : (ndAt l (l.length - 1)).1 ≤ 100) (hroot : (up : Int) ≤ (ndAt l (l.length - 1)).1) :
    VNd q (swpN l up) ∧ Dis (swpN l up) (· < (swpN l up).length) ∧ 0 < (swpN l up).length ∧ (ndAt (swpN l up) ((swpN l up).length - 1)).1 = (ndAt l (l.length - 1)).1 ∧
      ∀ ins : List Nat, (ins.length : Int) = (ndAt l (l.length - 1)).1 → (∀ t ∈ ins, t < q) → val (swpN l up) (((swpN l up).length - 1 : Nat) : Int) ins = val l ((l.length - 1 : Nat) : Int) (swapAt ((ndAt l (l.length - 1)).1 - up).toNat ins) := by
  have hR := SwI.all h hup _ (Nat.le_refl _)
  obtain ⟨g1, g2, g3, g4⟩ := hR.eqv (l.length - 1) (by omega) (by omega)
  obtain ⟨o1, o2, o3, o4, o5, o6⟩ := ord_ok hR.v.lev hR.dis (f := 100) (root := ((swpTo l up l.length).2.getD (l.length - 1) 0).toNat) (by rw [g3]; omega) g2
  have e : swpN l up = ord (swpTo l up l.length).1 100 ((swpTo l up l.length).2.getD (l.length - 1) 0).toNat := rfl
  rw [← e] at o1 o2 o3 o4 o5 o6
  refine ⟨⟨o1, o3, fun i hi hl1 z hz => ?_⟩, o2, o4, by rw [o5.1, g3], fun ins hl hq => ?_⟩
  · obtain ⟨j, pj, ej⟩ := o6 i hi
    obtain ⟨s, hs, rfl⟩ := List.getElem_of_mem hz
    have hq : s < q := by rw [← o1.len i hi]; exact hs
    have hv := ej.2 [s] (by rw [hl1]; rfl) (by simpa using hq)
    simp only [val, Int.toNat_natCast] at hv
    have hjl := hR.v.lev.len j pj
    have g : (ndAt (swpN l up) i).2.getD s 0 = (ndAt (swpN l up) i).2[s] := by rw [List.getD_eq_getElem?_getD, List.getElem?_eq_getElem hs]; rfl
    rw [g] at hv
    rw [hv]
    exact hR.v.low j pj (by rw [← ej.1]; exact hl1) _ (getD_mem (by rw [hjl]; exact hq))
  · rw [o5.2 ins (by rw [o5.1, g3]; exact hl) hq, toNat_cast g1, g4 ins hl hq]
    unfold swL
    rw [if_pos hroot]
end Go.Proofs.YtojnnfihpiegoaaDoor
namespace Go.Proofs.YtojnnfihpiegoaaDoor
set_option linter.unusedSimpArgs false
open Go.RowKit Go.Maps
set_option maxRecDepth 100000
set_option linter.unusedVariables false

/-- the builder and the new numbers -/
structure SwW (B p M gT n : Nat) (cs : Array Value) (nv : Value) (os : List Hd) (D : DataW Unit) (ns : List Nd) (tz : List Int) (w : World) : Prop where
  bld : Bld B p M 64 cs nv os D w
  eq : os.map Hd.nd = ns
  row : OwnIA w B (.slice (some ⟨gT, 0, none⟩) n n) tz
  len : tz.length = n
  ap : ∀ x ∈ os, x.val.ownBlock ≠ some gT
/-- a row of numbers that is neither the builder's nor the new numbers' -/
structure FreeR (gT : Nat) (os : List Hd) (B g n : Nat) (zs : List Int) (w : World) : Prop where
  row : OwnIA w B (.slice (some ⟨g, 0, none⟩) n n) zs
  len : zs.length = n
  ne : g ≠ gT
  ap : ∀ x ∈ os, x.val.ownBlock ≠ some g
section
variable {B p M gT n : Nat} {cs cs' : Array Value} {nv nv' : Value} {os os' : List Hd} {D D' : DataW Unit} {ns ns' : List Nd} {tz : List Int} {w w' : World} {g m : Nat} {zs : List Int}
theorem SwW.ext (h : SwW B p M gT n cs nv os D ns tz w) (hb : Below w.heap.size w w') : SwW B p M gT n cs nv os D ns tz w' := ⟨h.bld.ext hb, h.eq, h.row.ext hb, h.len, h.ap⟩
theorem FreeR.ext (h : FreeR gT os B g m zs w) (hb : Below w.heap.size w w') : FreeR gT os B g m zs w' := ⟨h.row.ext hb, h.len, h.ne, h.ap⟩
/-- a new row is free -/
theorem FreeR.new (h : SwW B p M gT n cs nv os D ns tz w) (hr : OwnIA w' B (.slice (some ⟨g, 0, none⟩) m m) zs) (hl : zs.length = m) (hg : w.heap.size ≤ g) : FreeR gT os B g m zs w' :=
  ⟨hr, hl, fun e => by have := (own_lt' h.row (g := gT) rfl).1; omega, fun x hx e => by have := (own_lt' (h.bld.own.2 x hx) e).1; omega⟩
/-- a store into a free row -/
theorem SwW.store (h : SwW B p M gT n cs nv os D ns tz w) (hr : FreeR gT os B g m zs w) (j : Nat) (v : Int) : SwW B p M gT n cs nv os D ns tz (w.setCell ⟨g, j, none⟩ (.int .i64 v)) := by
  have hk : Kept (fun x => x = g) w (w.setCell ⟨g, j, none⟩ (.int .i64 v)) := (Kept.refl (fun x => x = g) w).setCell (p := ⟨g, j, none⟩) (Or.inl rfl) _
  exact ⟨h.bld.kept hk (fun e => own_blk_ne' hr.row h.bld.blk (by decide) (by rw [e]; rfl)) (fun e => own_map_ne hr.row h.bld.map (by rw [e]; rfl)) (fun x e1 e2 => by subst e2; exact own_ne hr.row h.bld.own.1 (by decide) rfl e1) (fun y hy x e1 e2 => by subst e2; exact hr.ap y hy e1),
    h.eq, hk.own h.row (fun x e1 e2 => by subst e2; injection e1 with e1; exact hr.ne e1.symm), h.len, h.ap⟩
theorem FreeR.store (hr : FreeR gT os B g m zs w) (j : Nat) (v : Int) : FreeR gT os B g m (zs.set j v) (w.setCell ⟨g, j, none⟩ (.int .i64 v)) :=
  ⟨OwnI.set hr.row hr.len.symm j v, by rw [List.length_set]; exact hr.len, hr.ne, hr.ap⟩
theorem FreeR.other {g2 m2 : Nat} {ys : List Int} (hr : FreeR gT os B g m zs w) (hne : g ≠ g2) (j : Nat) (v : Value) : FreeR gT os B g m zs (w.setCell ⟨g2, j, none⟩ v) := by
  have hk : Kept (fun x => x = g2) w (w.setCell ⟨g2, j, none⟩ v) := (Kept.refl (fun x => x = g2) w).setCell (p := ⟨g2, j, none⟩) (Or.inl rfl) _
  exact ⟨hk.own hr.row (fun x e1 e2 => by subst e2; injection e1 with e1; exact hne e1), hr.len, hr.ne, hr.ap⟩
/-- a new number is stored -/
theorem SwW.setTo (h : SwW B p M gT n cs nv os D ns tz w) (j : Nat) (v : Int) : SwW B p M gT n cs nv os D ns (tz.set j v) (w.setCell ⟨gT, j, none⟩ (.int .i64 v)) := by
  have hk : Kept (fun x => x = gT) w (w.setCell ⟨gT, j, none⟩ (.int .i64 v)) := (Kept.refl (fun x => x = gT) w).setCell (p := ⟨gT, j, none⟩) (Or.inl rfl) _
  exact ⟨h.bld.kept hk (fun e => own_blk_ne' h.row h.bld.blk (by decide) (by rw [e]; rfl)) (fun e => own_map_ne h.row h.bld.map (by rw [e]; rfl)) (fun x e1 e2 => by subst e2; exact own_ne h.row h.bld.own.1 (by decide) rfl e1) (fun y hy x e1 e2 => by subst e2; exact h.ap y hy e1),
    h.eq, OwnI.set h.row h.len.symm j v, by rw [List.length_set]; exact h.len, h.ap⟩
/-- a row of numbers stands behind a call of node -/
theorem Kept.bldR (hk : Kept (BldS p M nv) w w') (h : SwW B p M gT n cs nv os D ns tz w) (hr : OwnIA w B (.slice (some ⟨g, 0, none⟩) m m) zs) : OwnIA w' B (.slice (some ⟨g, 0, none⟩) m m) zs :=
  hk.own hr fun x e1 e2 => by
    rcases e2 with e2 | e2 | e2
    · subst e2; exact own_blk_ne' hr h.bld.blk (by decide) e1
    · subst e2; exact own_map_ne hr h.bld.map e1
    · exact own_ne hr h.bld.own.1 (by decide) e1 e2
/-- behind a call of node with a free row -/
theorem SwW.node (h : SwW B p M gT n cs nv os D ns tz w) (hr : FreeR gT os B g m zs w) (hb : Bld B p M 64 cs' nv' os' D' w') (he : os'.map Hd.nd = ns') (hk : Kept (BldS p M nv) w w') {lv : Int} (hn : ∀ x ∈ os', x ∈ os ∨ x = ⟨lv, some ⟨g, 0, none⟩, m, zs⟩) :
    SwW B p M gT n cs' nv' os' D' ns' tz w' :=
  ⟨hb, he, hk.bldR h h.row, h.len, fun x hx => by
    rcases hn x hx with hx | hx
    · exact h.ap x hx
    · subst hx
      intro e
      injection e with e
      exact hr.ne e⟩
/-- another free row stays so -/
theorem FreeR.node {g2 m2 : Nat} {ys : List Int} (hr2 : FreeR gT os B g2 m2 ys w) (h : SwW B p M gT n cs nv os D ns tz w) (hk : Kept (BldS p M nv) w w') {lv : Int} (hn : ∀ x ∈ os', x ∈ os ∨ x = ⟨lv, some ⟨g, 0, none⟩, m, zs⟩) (hne : g2 ≠ g) : FreeR gT os' B g2 m2 ys w' :=
  ⟨hk.bldR h hr2.row, hr2.len, hr2.ne, fun x hx => by
    rcases hn x hx with hx | hx
    · exact hr2.ap x hx
    · subst hx
      intro e
      injection e with e
      exact hne e.symm⟩
/-- a builder's blocks lie from B on -/
theorem SwW.below (h : SwW B p M gT n cs nv os D ns tz w) (hk : Kept (BldS p M nv) w w') (hB : B ≤ w.heap.size) : Below B w w' :=
  hk.to_below hB fun x hx e => by
    rcases e with e | e | e
    · have := h.bld.bp; omega
    · have := h.bld.bm; omega
    · have := (own_lt' h.bld.own.1 e).2; omega
end
end Go.Proofs.YtojnnfihpiegoaaDoor
