/-
  A rule as an argument: its reading gives the rule; the package's variable; the post behind a call that has turned nothing old.
-/
import Derived.Test.YtaofninfjdepfaaDoorTot
import Derived.Test.YtaofninfjdepfaaDoorParseG
import Derived.Test.YtaofninfjdepfaaDoorRows
import Derived.WalkKit
import Derived.ProofKit
import Derived.OpenShut
import Derived.HandedShaped
import Derived.Shelf.Vars
import Derived.Lib.SmallJoins
import Derived.Deep.SlicePairs
import Derived.Below
import Derived.ChangeSame
namespace Go.Proofs.YtaofninfjdepfaaDoor
open Go.ChangeShapes Go.WideShapes Go.ChangeAt Go.RowKit Go.Deep
set_option maxRecDepth 100000
set_option linter.unusedVariables false

section
variable {H : Type} {enc : TypeId × Value → H} {P : Program}
theorem post_of_below {f : Func} {s : ChangeSpec} {apart fresh handsOn again : Bool} {W W' : World} {args : Array Value} {v : Value} {ds gs : List (DataW H)} {before pa pv : List MemPlace}
    (hW : DataW.Whole enc P f.params.toList s.vars apart W args.toList ds gs before)
    (hres : ∀ (b : Nat) (sp : Nat → Bool) (hd : Bool), DataW.TrodAll enc P W' b sp hd f.resultTypes.toList (v.resultList f.resultTypes.size) (s.fn H (ds ++ gs)).results [])
    (hargs : ∀ sp : Nat → Bool, (∀ p ∈ before, sp p.block = true) → DataW.TrodAll enc P W' 0 sp true f.params.toList args.toList (s.fn H (ds ++ gs)).args pa)
    (hvars : ∀ sp : Nat → Bool, (∀ p ∈ before, sp p.block = true) → DataW.TrodVars enc P W' sp s.vars (s.fn H (ds ++ gs)).vars pv)
    (hps : before = pa ++ pv) (hb : Below W.heap.size W W')
    (hok : ∀ (j : Nat) (t : TypeId) (r : Value), f.resultTypes[j]? = some t → (v.resultList f.resultTypes.size)[j]? = some r → Value.okWide P W' .any 0 t r) :
    s.post enc P f apart fresh handsOn again W args v W' := by
  have hlt : ∀ p ∈ before, p.block < W.heap.size := fun p hp => hW.lt p hp
  have hold : ∀ p ∈ before, (fun b => decide (b < W.heap.size)) p.block = true := fun p hp => by simpa using hlt p hp
  refine ⟨ds, gs, before, [], pa, pv, hW, hres _ _ _, hargs _ hold, hvars _ hold, World.keptBut_mono (fun p hp => ⟨hp, ?_⟩) (hb.frame (· ∈ before)), fun _ => ?_⟩
  · rw [hps, List.mem_append] at hp
    exact Or.inr hp
  · obtain ⟨_, _, _, _, _, hz, hn⟩ := hW
    refine ⟨hok, _, _, ([] ++ pa) ++ pv, ⟨[] ++ pa, pv, trodAll_append (hargs _ (fun _ _ => rfl)) (hres _ _ _), hvars _ (fun _ _ => rfl), rfl, ?_, ?_⟩, ?_⟩
    · intro b off hp
      have hin : MemPlace.cell b off ∈ before := by rw [hps]; simpa using hp
      rw [hb.frozen (hlt _ hin)]
      exact hz b off hin
    · intro ha
      have := hn ha
      rw [hps] at this
      simpa using this
    · intro p hp _
      rw [hps]
      simpa using hp
end
theorem Tryd.cellsInt : Tryd.prog.cellsOf 3 = 1 := by kernel_rfl
theorem Tryd.cellsPt : Tryd.prog.cellsOf 79 = 2 := by kernel_rfl
theorem Tryd.cellsTot : Tryd.prog.cellsOf 26 = 4 := by kernel_rfl
theorem Tryd.laidOut_ : laidOutB Tryd.prog = true := by kernel_rfl
theorem flat_len : ∀ ps : List (Int × Int), (ps.flatMap ptCells).length = ps.length * 2
  | [] => rfl
  | p :: r => by rw [List.flatMap_cons, List.length_append, flat_len r]; simp [ptCells]; omega
section
variable {H : Type} {enc : TypeId × Value → H} {W : World}
theorem open_Ints {n : Nat} {v : Value} {x : DataW H × List MemPlace} (h : DataW.trod enc Tryd.prog W 0 (fun _ => true) true n 24 [v] = some x) : ∃ A c zs, v = .slice A (zs : List Int).length c ∧ Ints W A zs := by
  rcases open_ints Tryd.underlying24 Tryd.underlying3 Tryd.cellsInt h with ⟨hcs, -⟩ | ⟨a, len, cap, zs, hcs, -, hl, hm, hz, -, hc, -⟩
  · injection hcs with hcs
    exact ⟨none, 0, [], hcs, Ints.nil⟩
  · injection hcs with hcs
    have hz' : zs.length = cap := by rw [hz]; rfl
    refine ⟨some a, cap, zs.take len, ?_, ⟨?_, fun hn => ⟨a, rfl, ?_, fun j u hu => ?_⟩⟩, ?_⟩
    · rw [hcs, List.length_take, Nat.min_eq_left (by omega)]
    · simp
    · have h0 := hc 0 (by rw [List.length_take] at hn; omega)
      exact World.block_lt_of_cell? _ _ h0
    · have hj : j < len := by
        have := (List.getElem?_eq_some_iff.1 hu).1
        simp at this; omega
      have h1 := hc j (by omega)
      rw [h1]
      rw [List.getElem?_map, List.getElem?_take_of_lt hj, List.getElem?_eq_getElem (by omega)] at hu
      have hj2 : j < zs.length := by omega
      simp [List.getD, List.getElem?_eq_getElem hj2] at hu ⊢
      exact hu
    · rw [List.length_take]; unfold maxLen at hm; omega
theorem open_Pts {n : Nat} {v : Value} {x : DataW H × List MemPlace} (h : DataW.trod enc Tryd.prog W 0 (fun _ => true) true n 23 [v] = some x) : ∃ A c ps, v = .slice A (ps : List (Int × Int)).length c ∧ Pts W A ps := by
  rcases open_slice_pairs Tryd.underlying23 Tryd.underlying79 Tryd.cellsPt rfl rfl Tryd.cellsInt Tryd.cellsInt h with ⟨hcs, -⟩ | ⟨a, len, cap, m, k, V0, V1, D0, D1, P0, P1, hcs, -, hl, hm, hmm, -, hx⟩
  · injection hcs with hcs
    exact ⟨none, 0, [], hcs, Pts.nil⟩
  · injection hcs with hcs
    have hmc : m = cap := by rw [hmm]; rfl
    have hx' : ∀ i, i < len → ∃ p q : Int, W.cell? (a.add (i * 2)) = some (.int .i64 p) ∧ W.cell? (a.add (i * 2 + 1)) = some (.int .i64 q) := by
      intro i hi
      obtain ⟨g0, g1, d0, d1⟩ := hx i (by omega)
      obtain ⟨p, e0, -, -⟩ := DataW.trod_int Tryd.underlying3 d0
      obtain ⟨q, e1, -, -⟩ := DataW.trod_int Tryd.underlying3 d1
      injection e0 with e0
      injection e1 with e1
      rw [e0] at g0
      rw [e1] at g1
      exact ⟨p, q, g0, g1⟩
    obtain ⟨F, hF⟩ : ∃ F : Nat → Int × Int, ∀ i, i < len → W.cell? (a.add (i * 2)) = some (.int .i64 (F i).1) ∧ W.cell? (a.add (i * 2 + 1)) = some (.int .i64 (F i).2) := by
      refine ⟨fun i => if hi : i < len then ⟨Classical.choose (hx' i hi), Classical.choose (Classical.choose_spec (hx' i hi))⟩ else (0, 0), fun i hi => ?_⟩
      simp only [hi, dif_pos]
      exact Classical.choose_spec (Classical.choose_spec (hx' i hi))
    refine ⟨some a, cap, (List.range len).map F, ?_, ⟨?_, fun hn => ⟨a, rfl, ?_, fun j u hu => ?_⟩⟩, ?_⟩
    · rw [hcs, List.length_map, List.length_range]
    · rw [flat_len]
    · have h0 := (hF 0 (by simpa using hn)).1
      exact World.block_lt_of_cell? _ _ h0
    · have hj : j < len * 2 := by
        have := (List.getElem?_eq_some_iff.1 hu).1
        rw [flat_len] at this; simpa using this
      have hi : j / 2 < ((List.range len).map F).length := by simp; omega
      obtain ⟨f0, f1⟩ := flat2 ((List.range len).map F) (j / 2) hi
      obtain ⟨g0, g1⟩ := hF (j / 2) (by omega)
      have hg : ((List.range len).map F)[j / 2] = F (j / 2) := by simp
      rw [hg] at f0 f1
      rcases Nat.mod_two_eq_zero_or_one j with h2 | h2
      · have ej : j = 2 * (j / 2) := by omega
        rw [ej] at hu ⊢
        rw [f0] at hu
        rw [Nat.mul_comm, g0]; exact hu
      · have ej : j = 2 * (j / 2) + 1 := by omega
        rw [ej] at hu ⊢
        rw [f1] at hu
        rw [Nat.mul_comm, g1]; exact hu
    · rw [List.length_map, List.length_range]; unfold maxLen at hm; omega
theorem open_Tot {r : Reach} {b0 : Nat} {v : Value} {d : DataW H} {p : List MemPlace} (hv : Value.okWide Tryd.prog W r b0 26 v) (h : DataW.Trod enc Tryd.prog W 0 (fun _ => true) true 26 v d p) :
    ∃ A a B b C c t, v = totV A a B b C c t ∧ TotR W A B C t := by
  obtain ⟨v0, v1, v2, v3, y0, y1, y2, y3, n, rfl, -, -, h0, h1, h2, h3⟩ := Joins.open_agg4 Tryd.underlying26 (by kernel_rfl) Tryd.cellsTot hv h
  obtain ⟨A, a, ps, rfl, hp⟩ := open_Pts h0
  obtain ⟨s, e1, -, -⟩ := DataW.trod_int Tryd.underlying3 h1
  injection e1 with e1
  subst e1
  obtain ⟨B, b, bs, rfl, hb⟩ := open_Ints h2
  obtain ⟨C, c, cs, rfl, hc⟩ := open_Ints h3
  exact ⟨A, a, B, b, C, c, ⟨ps, s, bs, cs⟩, rfl, ⟨hp, hb, hc⟩⟩
end
theorem glob_of {w : World} (h : w.ShapedOpen Tryd.prog) : Glob w :=
  cell_of_shapedOpen_int (t := 3) (zero := #[.int .i64 0]) h (of_decide_eq_true (by kernel_rfl)) (by kernel_rfl) rfl (by kernel_rfl) (by kernel_rfl) Tryd.underlying3
end Go.Proofs.YtaofninfjdepfaaDoor
