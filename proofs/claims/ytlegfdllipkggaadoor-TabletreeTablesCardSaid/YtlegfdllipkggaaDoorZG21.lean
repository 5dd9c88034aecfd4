/-
  A tree as an argument: its reading gives the tree; the listed variables; the post behind a call that has turned nothing old.
  A world in which the rows' variables lie as the rows list them. No condition.
-/
import Derived.Test.YtlegfdllipkggaaDoorZG7
import Derived.Test.YtlegfdllipkggaaDoorZG11
import Derived.Test.YtlegfdllipkggaaDoorRows
import Derived.WalkKit
import Derived.ProofKit
import Derived.OpenShut
import Derived.HandedShaped
import Derived.Shelf.Vars
import Derived.Lib.SmallJoins
import Derived.Lib.LaidTab
import Derived.Stop.LaidErr
import Derived.Laws.IdiomArrays
import Derived.Deep.SlicePairs
import Derived.MakeChecks
import Derived.Below
import Derived.ChangeSame
import Derived.LaidMore
import Derived.Lay
import Derived.Deep.DeepHandedRow
namespace Go.Proofs.YtlegfdllipkggaaDoor
set_option linter.unusedSimpArgs false
open Go.ChangeShapes Go.WideShapes Go.ChangeAt Go.RowKit Go.Deep
set_option maxRecDepth 100000
set_option linter.unusedVariables false

section
variable {H : Type} {enc : TypeId × Value → H} {P : Program}
theorem post_of_below {f : Func} {s : ChangeSpec} {apart fresh handsOn again : Bool} {W W' : World} {args : Array Value} {v : Value} {ds gs : List (DataW H)} {before pa pv : List MemPlace}
  (hW : DataW.Whole enc P f.params.toList s.vars apart W args.toList ds gs before)
  (hres : ∀ (b : Nat) (sp : Nat → Bool) (hd : Bool), DataW.TrodAll enc P W' b sp hd f.resultTypes.toList (v.resultList f.resultTypes.size) (s.fn H (ds ++ gs)).results [])
  (hargs : ∀ sp : Nat → Bool, (∀ p ∈ before, sp p.block = true) → DataW.TrodAll enc P W' 0 sp true f.params.toList args.toList (s.fn H (ds ++ gs)).args pa)
  (hvars : ∀ sp : Nat → Bool, (∀ p ∈ before, sp p.block = true) → DataW.TrodVars enc P W' sp s.vars (s.fn H (ds ++ gs)).vars pv)
  (hps : before = pa ++ pv) (hb : Below W.heap.size W W')
  (hok : ∀ (j : Nat) (t : TypeId) (r : Value), f.resultTypes[j]? = some t → (v.resultList f.resultTypes.size)[j]? = some r → Value.okWide P W' .any 0 t r) :
  s.post enc P f apart fresh handsOn again W args v W' := by
 have hlt : ∀ p ∈ before, p.block < W.heap.size := fun p hp => hW.lt p hp
 have hold : ∀ p ∈ before, (fun b => decide (b < W.heap.size)) p.block = true := fun p hp => by simpa using hlt p hp
 refine ⟨ds, gs, before, [], pa, pv, hW, hres _ _ _, hargs _ hold, hvars _ hold, World.keptBut_mono (fun p hp => ⟨hp, ?_⟩) (hb.frame (· ∈ before)), fun _ => ?_⟩
 ·rw [hps, List.mem_append] at hp
  exact Or.inr hp
 ·obtain ⟨_, _, _, _, _, hz, hn⟩ := hW
  refine ⟨hok, _, _, ([] ++ pa) ++ pv, ⟨[] ++ pa, pv, trodAll_append (hargs _ (fun _ _ => rfl)) (hres _ _ _), hvars _ (fun _ _ => rfl), rfl, ?_, ?_⟩, ?_⟩
  ·intro b off hp
   have hin : MemPlace.cell b off ∈ before := by rw [hps]; simpa using hp
   rw [hb.frozen (hlt _ hin)]
   exact hz b off hin
  ·intro ha
   have := hn ha
   rw [hps] at this
   simpa using this
  ·intro p hp _
   rw [hps]
   simpa using hp
end
theorem Tryd.cellsInt : Tryd.prog.cellsOf 3 = 1 := by kernel_rfl
theorem Tryd.cellsPt : Tryd.prog.cellsOf 67 = 2 := by kernel_rfl
theorem Tryd.cellsNode : Tryd.prog.cellsOf 50 = 2 := by kernel_rfl
theorem Tryd.cellsIntsT : Tryd.prog.cellsOf 41 = 1 := by kernel_rfl
theorem Tryd.cellsTree : Tryd.prog.cellsOf 25 = 3 := by kernel_rfl
theorem Tryd.laidOut_ : laidOutB Tryd.prog = true := by kernel_rfl
theorem flat_len : ∀ ps : List (Int × Int), (ps.flatMap ptCells).length = ps.length * 2
 | [] => rfl
 | p :: r => by rw [List.flatMap_cons, List.length_append, flat_len r]; simp [ptCells]; omega
section
variable {H : Type} {enc : TypeId × Value → H} {W : World}
theorem open_Ints {n : Nat} {v : Value} {x : DataW H × List MemPlace} (h : DataW.trod enc Tryd.prog W 0 (fun _ => true) true n 41 [v] = some x) : ∃ A c zs, v = .slice A (zs : List Int).length c ∧ Ints W A zs := by
 rcases open_ints Tryd.underlying41 Tryd.underlying3 Tryd.cellsInt h with ⟨hcs, -⟩ | ⟨a, len, cap, zs, hcs, -, hl, hm, hz, -, hc, -⟩
 ·injection hcs with hcs
  exact ⟨none, 0, [], hcs, Ints.nil⟩
 ·injection hcs with hcs
  have hz' : zs.length = cap := by rw [hz]; rfl
  refine ⟨some a, cap, zs.take len, ?_, ⟨?_, fun hn => ⟨a, rfl, ?_, fun j u hu => ?_⟩⟩, ?_⟩
  ·rw [hcs, List.length_take, Nat.min_eq_left (by omega)]
  ·simp
  ·have h0 := hc 0 (by rw [List.length_take] at hn; omega)
   exact World.block_lt_of_cell? _ _ h0
  ·have hj : j < len := by
    have := (List.getElem?_eq_some_iff.1 hu).1
    simp at this; omega
   have h1 := hc j (by omega)
   rw [h1]
   rw [List.getElem?_map, List.getElem?_take_of_lt hj, List.getElem?_eq_getElem (by omega)] at hu
   have hj2 : j < zs.length := by omega
   simp [List.getD, List.getElem?_eq_getElem hj2] at hu ⊢
   exact hu
  ·rw [List.length_take]; unfold maxLen at hm; omega
theorem open_Pts {n : Nat} {v : Value} {x : DataW H × List MemPlace} (h : DataW.trod enc Tryd.prog W 0 (fun _ => true) true n 22 [v] = some x) : ∃ A c ps, v = .slice A (ps : List (Int × Int)).length c ∧ Pts W A ps := by
 rcases open_slice_pairs Tryd.underlying22 Tryd.underlying67 Tryd.cellsPt rfl rfl Tryd.cellsInt Tryd.cellsInt h with ⟨hcs, -⟩ | ⟨a, len, cap, m, k, V0, V1, D0, D1, P0, P1, hcs, -, hl, hm, hmm, -, hx⟩
 ·injection hcs with hcs
  exact ⟨none, 0, [], hcs, Pts.nil⟩
 ·injection hcs with hcs
  have hmc : m = cap := by rw [hmm]; rfl
  have hx' : ∀ i, i < len → ∃ p q : Int, W.cell? (a.add (i * 2)) = some (.int .i64 p) ∧ W.cell? (a.add (i * 2 + 1)) = some (.int .i64 q) := by
   intro i hi
   obtain ⟨g0, g1, d0, d1⟩ := hx i (by omega)
   obtain ⟨p, e0, -, -⟩ := DataW.trod_int Tryd.underlying3 d0
   obtain ⟨q, e1, -, -⟩ := DataW.trod_int Tryd.underlying3 d1
   injection e0 with e0
   injection e1 with e1
   rw [e0] at g0
   rw [e1] at g1
   exact ⟨p, q, g0, g1⟩
  obtain ⟨F, hF⟩ : ∃ F : Nat → Int × Int, ∀ i, i < len → W.cell? (a.add (i * 2)) = some (.int .i64 (F i).1) ∧ W.cell? (a.add (i * 2 + 1)) = some (.int .i64 (F i).2) := by
   refine ⟨fun i => if hi : i < len then ⟨Classical.choose (hx' i hi), Classical.choose (Classical.choose_spec (hx' i hi))⟩ else (0, 0), fun i hi => ?_⟩
   simp only [hi, dif_pos]
   exact Classical.choose_spec (Classical.choose_spec (hx' i hi))
  refine ⟨some a, cap, (List.range len).map F, ?_, ⟨?_, fun hn => ⟨a, rfl, ?_, fun j u hu => ?_⟩⟩, ?_⟩
  ·rw [hcs, List.length_map, List.length_range]
  ·rw [flat_len]
  ·have h0 := (hF 0 (by simpa using hn)).1
   exact World.block_lt_of_cell? _ _ h0
  ·have hj : j < len * 2 := by
    have := (List.getElem?_eq_some_iff.1 hu).1
    rw [flat_len] at this; simpa using this
   have hi : j / 2 < ((List.range len).map F).length := by simp; omega
   obtain ⟨f0, f1⟩ := flat2 ((List.range len).map F) (j / 2) hi
   obtain ⟨g0, g1⟩ := hF (j / 2) (by omega)
   have hg : ((List.range len).map F)[j / 2] = F (j / 2) := by simp
   rw [hg] at f0 f1
   rcases Nat.mod_two_eq_zero_or_one j with h2 | h2
   ·have ej : j = 2 * (j / 2) := by omega
    rw [ej] at hu ⊢
    rw [f0] at hu
    rw [Nat.mul_comm, g0]; exact hu
   ·have ej : j = 2 * (j / 2) + 1 := by omega
    rw [ej] at hu ⊢
    rw [f1] at hu
    rw [Nat.mul_comm, g1]; exact hu
  ·rw [List.length_map, List.length_range]; unfold maxLen at hm; omega
theorem open_Nds {n : Nat} {v : Value} {x : DataW H × List MemPlace} (h : DataW.trod enc Tryd.prog W 0 (fun _ => true) true n 23 [v] = some x) : ∃ A c hs, v = .slice A (hs : List Hd).length c ∧ Nds W A hs := by
 rcases open_slice Tryd.underlying23 h with ⟨hcs, -⟩ | ⟨a, len, cap, m, k, D, Pl, hcs, -, hl, hm, hmm, -, hx⟩
 ·injection hcs with hcs
  exact ⟨none, 0, [], hcs, Nds.nil⟩
 ·injection hcs with hcs
  have hmc : m = cap := by rw [hmm]; rfl
  have hx' : ∀ i, i < len → ∃ q : Hd, W.cell? (a.add (i * 2)) = some (.int .i64 q.lv) ∧ W.cell? (a.add (i * 2 + 1)) = some (.slice q.A q.zs.length q.c) ∧ Ints W q.A q.zs := by
   intro i hi
   obtain ⟨cs', h1, h2⟩ := hx i (by omega)
   rw [Tryd.cellsNode] at h1
   obtain ⟨_, hlen, hcell⟩ := World.cells?_some h1
   obtain ⟨xs, k2, hk, hxy, _, hxl, hf⟩ := DataW.trod_struct Tryd.underlying50 h2
   match xs, hxl, cs', hlen with
   | [y0, y1], _, [v0, v1], _ =>
    have g0 := hf 0 _ rfl
    have g1 := hf 1 _ rfl
    simp [Tryd.cellsInt] at g0
    simp [Tryd.cellsIntsT] at g1
    have e0 := hcell 0 (by omega)
    have e1 := hcell 1 (by omega)
    rw [add_add] at e0 e1
    obtain ⟨p, r0, -, -⟩ := DataW.trod_int Tryd.underlying3 g0
    injection r0 with r0
    subst r0
    obtain ⟨A, c, zs, rfl, hi'⟩ := open_Ints g1
    exact ⟨⟨p, A, c, zs⟩, by simpa using e0, by simpa using e1, hi'⟩
  obtain ⟨F, hF⟩ : ∃ F : Nat → Hd, ∀ i, i < len → W.cell? (a.add (i * 2)) = some (.int .i64 (F i).lv) ∧ W.cell? (a.add (i * 2 + 1)) = some (.slice (F i).A (F i).zs.length (F i).c) ∧ Ints W (F i).A (F i).zs := by
   refine ⟨fun i => if hi : i < len then Classical.choose (hx' i hi) else ⟨0, none, 0, []⟩, fun i hi => ?_⟩
   simp only [hi, dif_pos]
   exact Classical.choose_spec (hx' i hi)
  refine ⟨some a, cap, (List.range len).map F, ?_, ⟨?_, fun hn => ⟨a, rfl, ?_, fun j u hu => ?_⟩⟩, ?_, ?_⟩
  ·rw [hcs, List.length_map, List.length_range]
  ·rw [hd_len]
  ·have h0 := (hF 0 (by simpa using hn)).1
   exact World.block_lt_of_cell? _ _ h0
  ·have hj : j < len * 2 := by
    have := (List.getElem?_eq_some_iff.1 hu).1
    rw [hd_len] at this; simpa using this
   have hi : j / 2 < ((List.range len).map F).length := by simp; omega
   obtain ⟨f0, f1⟩ := hd2 ((List.range len).map F) (j / 2) hi
   obtain ⟨g0, g1, -⟩ := hF (j / 2) (by omega)
   have hg : ((List.range len).map F)[j / 2] = F (j / 2) := by simp
   rw [hg] at f0 f1
   rcases Nat.mod_two_eq_zero_or_one j with h2 | h2
   ·have ej : j = 2 * (j / 2) := by omega
    rw [ej] at hu ⊢
    rw [f0] at hu
    rw [Nat.mul_comm, g0]; exact hu
   ·have ej : j = 2 * (j / 2) + 1 := by omega
    rw [ej] at hu ⊢
    rw [f1] at hu
    rw [Nat.mul_comm, g1]; exact hu
  ·rw [List.length_map, List.length_range]; unfold maxLen at hm; omega
  ·intro q hq
   obtain ⟨i, hi, rfl⟩ := List.mem_map.1 hq
   exact (hF i (by simpa using hi)).2.2
theorem open_TreeArg {r : Reach} {b0 : Nat} {v : Value} {d : DataW H} {p : List MemPlace} (hv : Value.okWide Tryd.prog W r b0 25 v) (h : DataW.Trod enc Tryd.prog W 0 (fun _ => true) true 25 v d p) :
  ∃ t st A n c B m dd, v = .agg #[.int .i64 st, .slice A n c, .slice B m dd] ∧ TreeAt W (.agg #[.int .i64 st, .slice A n c, .slice B m dd]) t := by
 obtain ⟨v0, v1, v2, y0, y1, y2, n, rfl, -, -, h0, h1, h2⟩ := Joins.open_agg3 Tryd.underlying25 (by kernel_rfl) Tryd.cellsTree hv h
 obtain ⟨s, e1, -, -⟩ := DataW.trod_int Tryd.underlying3 h0
 injection e1 with e1
 subst e1
 obtain ⟨A, a, ps, rfl, hp⟩ := open_Pts h1
 obtain ⟨B, b, hs, rfl, hb⟩ := open_Nds h2
 exact ⟨⟨s, ps, hs.map Hd.nd⟩, s, A, _, a, B, _, b, rfl, A, a, B, b, hs, rfl, hp, hb, rfl⟩
theorem open_IntsArg {r : Reach} {b0 : Nat} {v : Value} {d : DataW H} {p : List MemPlace} (hv : Value.okWide Tryd.prog W r b0 41 v) (h : DataW.Trod enc Tryd.prog W 0 (fun _ => true) true 41 v d p) : ∃ A c zs, v = .slice A (zs : List Int).length c ∧ Ints W A zs := by
 obtain ⟨x, l, c, rfl⟩ := okWide_slice Tryd.underlying41 hv
 obtain ⟨fuel, hf⟩ := h
 exact open_Ints hf
end
theorem tab_of {w : World} (hL : laidMetH Tryd.prog Rows.tabletreeTablesRow.laid w) : TabB w.heap.size w := by
 rw [MakeChecks.laidMetH_plain _ _ _ (by kernel_rfl)] at hL
 have h3 : laidMet Tryd.prog [("internal/strconv.uint64pow10", Rows.laid_internal_strconv_uint64pow10), ("cellular/symmetry.matrices", Rows.laid_cellular_symmetry_matrices)] w := hL.tail.tail
 exact Lib.tabBelow_of_tabIs (Lib.tabIs_of_head (g := 1) (t := 135) (e := 124) (by kernel_rfl) (by kernel_rfl) Tryd.underlying135 Tryd.underlying124 (by kernel_rfl) (by kernel_rfl) h3)
theorem Tryd.cellsRow : Tryd.prog.cellsOf 122 = 4 := by kernel_rfl
theorem Tryd.cellsMat : Tryd.prog.cellsOf 123 = 32 := by kernel_rfl
theorem mat_data {H : Type} : (Rows.laid_cellular_symmetry_matrices : DataW H) = .agg ((List.range 8).map fun i => .agg ((List.range 4).map fun j => .lit (.int .i64 (matL.getD (i * 4 + j) 0)))) := rfl
theorem gmat_of {w : World} (hL : laidMetH Tryd.prog Rows.tabletreeTablesRow.laid w) : GMat w := by
 rw [MakeChecks.laidMetH_plain _ _ _ (by kernel_rfl)] at hL
 have h3 : laidMet Tryd.prog [("cellular/symmetry.matrices", Rows.laid_cellular_symmetry_matrices)] w := hL.tail.tail.tail
 obtain ⟨ps, ⟨g', t', cs, fuel, p, q, hg', ht', hvar, hd, -, -⟩, -⟩ := h3
 have hg : Tryd.prog.globalNamed "cellular/symmetry.matrices" = some 0 := by kernel_rfl
 obtain rfl := Option.some.inj (hg.symm.trans hg')
 have hty : (Tryd.prog.globals[0]?).map (·.type) = some 123 := by kernel_rfl
 obtain rfl := Option.some.inj (hty.symm.trans ht')
 obtain ⟨xs, m, -, hx, hlen, hxl, hel⟩ := DataW.trod_array Tryd.underlying123 hd
 rw [Tryd.cellsMat] at hlen
 rw [mat_data] at hx
 have hx1 : xs.map (·.1) = (List.range 8).map fun i => (.agg ((List.range 4).map fun j => .lit (.int .i64 (matL.getD (i * 4 + j) 0))) : DataW Unit) := by
  injection hx with hx hx'
  injection hx with hx
  exact hx.symm
 have key : ∀ i, i < 8 → ∀ j, j < 4 → cs[i * 4 + j]? = some (.int .i64 (matL.getD (i * 4 + j) 0)) := by
  intro i hi j hj
  have h1 := hel i hi
  rw [Tryd.cellsRow] at h1
  obtain ⟨x, hxi⟩ : ∃ x, xs[i]? = some x := ⟨xs[i]'(by omega), List.getElem?_eq_getElem (by omega)⟩
  rw [hxi] at h1
  have hxd : x.1 = .agg ((List.range 4).map fun j => .lit (.int .i64 (matL.getD (i * 4 + j) 0))) := by
   have := congrArg (·[i]?) hx1
   simp only [List.getElem?_map, hxi, List.getElem?_range hi, Option.map_some, Option.some.injEq] at this
   exact this
  obtain ⟨ys, m2, -, hy, hylen, hyl, hey⟩ := DataW.trod_array Tryd.underlying122 h1
  have h2 := hey j hj
  rw [Tryd.cellsInt] at h2
  obtain ⟨y, hyi⟩ : ∃ y, ys[j]? = some y := ⟨ys[j]'(by omega), List.getElem?_eq_getElem (by omega)⟩
  rw [hyi] at h2
  have hy1 : ys.map (·.1) = (List.range 4).map fun j => (.lit (.int .i64 (matL.getD (i * 4 + j) 0)) : DataW Unit) := by
   have := congrArg Prod.fst hy
   rw [hxd] at this
   injection this with this
   exact this.symm
  have hyd : y.1 = .lit (.int .i64 (matL.getD (i * 4 + j) 0)) := by
   have := congrArg (·[j]?) hy1
   simp only [List.getElem?_map, hyi, List.getElem?_range hj, Option.map_some, Option.some.injEq] at this
   exact this
  obtain ⟨z, e1, e2, -⟩ := DataW.trod_int Tryd.underlying3 h2
  rw [e2] at hyd
  injection hyd with hyd
  injection hyd with _ hyd
  have := congrArg (·[0]?) e1
  simp only [List.getElem?_take, List.getElem?_drop, List.getElem?_cons_zero] at this
  rw [← hyd]
  simpa [hj] using this
 have hcell := World.var?_cell hg hvar
 have h0 : w.cell? ⟨0, 0, none⟩ = some (.int .i64 (matL.getD 0 0)) := by
  rw [hcell 0]
  simpa using key 0 (by omega) 0 (by omega)
 refine ⟨World.block_lt_of_cell? _ _ h0, fun i hi => ?_⟩
 rw [hcell i]
 have := key (i / 4) (by omega) (i % 4) (by omega)
 rw [show i / 4 * 4 + i % 4 = i by omega] at this
 simpa using this
end Go.Proofs.YtlegfdllipkggaaDoor
namespace Go.Proofs.YtlegfdllipkggaaDoor
set_option linter.unusedSimpArgs false
set_option linter.unusedVariables false
open Go.ChangeShapes Go.WideShapes Go.ChangeAt Go.RowKit
set_option maxRecDepth 1000000

noncomputable def laidW (os : Os) : World := World.laidAll Tryd.prog os Rows.tabletreeTablesRow.laid
theorem laidW_os (os : Os) : (laidW os).os = os := World.laidAll_os _ _ _
theorem laidW_shaped (os : Os) (args : Array Value) : ((laidW os).forCall (fun _ _ => 0) ⟨#[], args, []⟩).Shaped Tryd.prog := World.shaped_of_ZipB (by kernel_rfl) (by kernel_rfl)
theorem laidW_met (os : Os) (args : Array Value) : laidMetH Tryd.prog Rows.tabletreeTablesRow.laid ((laidW os).forCall (fun _ _ => 0) ⟨#[], args, []⟩).memory := by
 rw [MakeChecks.laidMetH_plain _ _ _ (by kernel_rfl)]
 exact laidMet_laidAll _ (by kernel_rfl) (by kernel_rfl)
theorem laidW_witness {H : Type} {enc : TypeId × Value → H} {f : FuncId} {fn : Func} {s : OpenSpec} {conds : List PathCond} {apart : Bool} (os : Os) (args : Array Value)
  (hok : Input.okWideB Tryd.checked.prog ((laidW os).forCall (fun _ _ => 0) ⟨#[], args, []⟩) f ⟨#[], args, []⟩ = true)
  (hrow : s.preRow enc Tryd.checked.prog fn conds apart Rows.tabletreeTablesRow.laid ((laidW os).forCall (fun _ _ => 0) ⟨#[], args, []⟩).memory args) :
  ∃ (w : World) (tape : Tape) (i : Input), w.os = os ∧ (w.forCall tape i).Shaped Tryd.checked.prog ∧ i.vars = [] ∧ Input.okWide Tryd.checked.prog (w.forCall tape i) .any w.heap.size f i ∧
   s.preRow enc Tryd.checked.prog fn conds apart Rows.tabletreeTablesRow.laid (w.forCall tape i).memory i.args ∧ ({} : Assume).holds Tryd.checked.prog (lone (Frame.enter Tryd.checked.prog f i.args .normal) [] (w.forCall tape i)) :=
 ⟨laidW os, fun _ _ => 0, ⟨#[], args, []⟩, laidW_os os, laidW_shaped os args, (Input.okWide_of_okWideB (base := 0) hok).1, (Input.okWide_of_okWideB hok).2, hrow, by
  simp only [Assume.holds]
  exact ⟨by simp, by simp, fun _ => Modest.zero, by simp, by simp⟩⟩
end Go.Proofs.YtlegfdllipkggaaDoor
