/-
  cellularlaw13.ReduceChooses returns true for every input, and each argument reads afterwards as it read before: the tied card, out of the walk. No condition beyond the row's own: the listed variables of the library lie as the row lists them.
-/
import Derived.Test.YtojnnfihpiegoaaDoorZCp
import Derived.Test.YtojnnfihpiegoaaDoorCards
import Derived.Test.YtojnnfihpiegoaaDoorTie
import Derived.Test.YtojnnfihpiegoaaDoorZLawC
namespace Go.Proofs.YtojnnfihpiegoaaDoor.rc
set_option linter.unusedSimpArgs false
open Go.ChangeShapes Go.WideShapes Go.ChangeAt Go.RowKit
open Go.ChangeMaps (open_string shut_string)
set_option maxRecDepth 100000
set_option linter.unusedVariables false

theorem own : ownKnob Tryd.prog.godebug = none := by kernel_rfl
theorem arg_stays {H : Type} {enc : TypeId × Value → H} {t : TypeId} {W W' : World} {v : Value} {d : DataW H} {ps : List MemPlace} (hr : Tryd.prog.readableRec t = true) (hrow : t < Tryd.prog.types.size)
  (h : DataW.Trod enc Tryd.prog W 0 (fun _ => true) true t v d ps) (hb : Below W.heap.size W W') (hlt : ∀ x ∈ ps, x.block < W.heap.size) (sp : Nat → Bool) (hsp : ∀ x ∈ ps, sp x.block = true) :
  DataW.Trod enc Tryd.prog W' 0 sp true t v d ps :=
 WideElems.Trod_stays Tryd.laidOut_ hr hrow h (fun x hx => hb.same (hlt x hx)) (fun x hx => hsp x hx)
section
open Go.ChangeShapes Go.WideShapes Go.ChangeAt Go.RowKit Go.Deep
variable {H : Type} {enc : TypeId × Value → H} {W : World}
theorem Tryd.cellsPtsT : Tryd.prog.cellsOf 22 = 1 := by kernel_rfl
theorem Tryd.cellsNdsT : Tryd.prog.cellsOf 23 = 1 := by kernel_rfl
theorem open_Trs {n : Nat} {v : Value} {x : DataW H × List MemPlace} (h : DataW.trod enc Tryd.prog W 0 (fun _ => true) true n 38 [v] = some x) : ∃ A c ls, v = .slice A (ls : List TrH).length c ∧ Trs W A ls := by
 rcases open_slice Tryd.underlying38 h with ⟨hcs, -⟩ | ⟨a, len, cap, m, k, D, Pl, hcs, -, hl, hm, hmm, -, hx⟩
 ·injection hcs with hcs
  exact ⟨none, 0, [], hcs, Trs.nil⟩
 ·injection hcs with hcs
  have hmc : m = cap := by rw [hmm]; rfl
  have hx' : ∀ i, i < len → ∃ q : TrH, W.cell? (a.add (i * 3)) = some (.int .i64 q.st) ∧ W.cell? (a.add (i * 3 + 1)) = some (.slice q.hA q.ps.length q.hc) ∧ W.cell? (a.add (i * 3 + 2)) = some (.slice q.nA q.hs.length q.nc) ∧ Pts W q.hA q.ps ∧ Nds W q.nA q.hs := by
   intro i hi
   obtain ⟨cs', h1, h2⟩ := hx i (by omega)
   rw [Tryd.cellsTree] at h1
   obtain ⟨_, hlen, hcell⟩ := World.cells?_some h1
   obtain ⟨xs, k2, hk, hxy, _, hxl, hf⟩ := DataW.trod_struct Tryd.underlying25 h2
   match xs, hxl, cs', hlen with
   | [y0, y1, y2], _, [v0, v1, v2], _ =>
    have g0 := hf 0 _ rfl
    have g1 := hf 1 _ rfl
    have g2 := hf 2 _ rfl
    simp [Tryd.cellsInt] at g0
    simp [Tryd.cellsPtsT] at g1
    simp [Tryd.cellsNdsT] at g2
    have e0 := hcell 0 (by omega)
    have e1 := hcell 1 (by omega)
    have e2 := hcell 2 (by omega)
    rw [add_add] at e0 e1 e2
    obtain ⟨p, r0, -, -⟩ := DataW.trod_int Tryd.underlying3 g0
    injection r0 with r0
    subst r0
    obtain ⟨A, c, ps, rfl, hp⟩ := open_Pts g1
    obtain ⟨B, d, hs, rfl, hn⟩ := open_Nds g2
    exact ⟨⟨p, A, ps, c, B, hs, d⟩, by simpa using e0, by simpa using e1, by simpa using e2, hp, hn⟩
  obtain ⟨F, hF⟩ : ∃ F : Nat → TrH, ∀ i, i < len → W.cell? (a.add (i * 3)) = some (.int .i64 (F i).st) ∧ W.cell? (a.add (i * 3 + 1)) = some (.slice (F i).hA (F i).ps.length (F i).hc) ∧ W.cell? (a.add (i * 3 + 2)) = some (.slice (F i).nA (F i).hs.length (F i).nc) ∧ Pts W (F i).hA (F i).ps ∧ Nds W (F i).nA (F i).hs := by
   refine ⟨fun i => if hi : i < len then Classical.choose (hx' i hi) else ⟨0, none, [], 0, none, [], 0⟩, fun i hi => ?_⟩
   simp only [hi, dif_pos]
   exact Classical.choose_spec (hx' i hi)
  refine ⟨some a, cap, (List.range len).map F, ?_, ⟨?_, fun hn => ⟨a, rfl, ?_, fun j u hu => ?_⟩⟩, ?_, ?_⟩
  ·rw [hcs, List.length_map, List.length_range]
  ·rw [tr_len]
  ·have h0 := (hF 0 (by simpa using hn)).1
   exact World.block_lt_of_cell? _ _ h0
  ·have hj : j < len * 3 := by
    have := (List.getElem?_eq_some_iff.1 hu).1
    rw [tr_len] at this; simpa using this
   have hi : j / 3 < ((List.range len).map F).length := by simp; omega
   obtain ⟨f0, f1, f2⟩ := tr3 ((List.range len).map F) (j / 3) hi
   obtain ⟨g0, g1, g2, -⟩ := hF (j / 3) (by omega)
   have hg : ((List.range len).map F)[j / 3] = F (j / 3) := by simp
   rw [hg] at f0 f1 f2
   have h3 : j % 3 = 0 ∨ j % 3 = 1 ∨ j % 3 = 2 := by omega
   rcases h3 with h2 | h2 | h2
   ·have ej : j = 3 * (j / 3) := by omega
    rw [ej] at hu ⊢
    rw [f0] at hu
    rw [Nat.mul_comm, g0]; exact hu
   ·have ej : j = 3 * (j / 3) + 1 := by omega
    rw [ej] at hu ⊢
    rw [f1] at hu
    rw [Nat.mul_comm, g1]; exact hu
   ·have ej : j = 3 * (j / 3) + 2 := by omega
    rw [ej] at hu ⊢
    rw [f2] at hu
    rw [Nat.mul_comm, g2]; exact hu
  ·rw [List.length_map, List.length_range]; unfold maxLen at hm; omega
  ·intro q hq
   obtain ⟨i, hi, rfl⟩ := List.mem_map.1 hq
   exact (hF i (by simpa using hi)).2.2.2
theorem open_TrsArg {r : Reach} {b0 : Nat} {v : Value} {d : DataW H} {p : List MemPlace} (hv : Value.okWide Tryd.prog W r b0 38 v) (h : DataW.Trod enc Tryd.prog W 0 (fun _ => true) true 38 v d p) : ∃ A c ls, v = .slice A (ls : List TrH).length c ∧ Trs W A ls := by
 obtain ⟨x, l, c, rfl⟩ := okWide_slice Tryd.underlying38 hv
 obtain ⟨fuel, hf⟩ := h
 exact open_Trs hf
end
theorem contract (H : Type) (enc : TypeId × Value → H) (W : World) (base : Nat) (args : Array Value) (ds gs : List (DataW H)) (before : List MemPlace) (htab : TabB W.heap.size W) (hgm : GMat W)
  (hval : ∀ (j : Nat) t v, Tryd.f5.params[j]? = some t → args[j]? = some v → Value.okWide Tryd.prog W .any base t v)
  (hW : DataW.Whole enc Tryd.prog Tryd.f5.params.toList Rows.reduceChoosesSpec.vars false W args.toList ds gs before) :
  Calls Tryd.prog 5 args W fun e W' => ∃ v, e = .returned v ∧ Rows.reduceChoosesSpec.post enc Tryd.prog Tryd.f5 false true false false W args v W' := by
 have hW' := hW
 obtain ⟨p, q, hA0, hV, rfl, hfz, hnd⟩ := hW
 have hA : DataW.TrodAll enc Tryd.prog W 0 (fun _ => true) true Tryd.f5.params.toList args.toList ds p := hA0
 rw [Tryd.params5] at hA hval
 obtain ⟨v0, v1, d0, d1, p0, p1, rfl, rfl, rfl, h0, h1⟩ := trodAll_two hA
 obtain ⟨rfl, rfl⟩ := trodVars_none hV
 clear hA0
 simp only [List.append_nil] at hW'
 have hlt : ∀ x ∈ p0 ++ p1, x.block < W.heap.size := fun x hx => hW'.lt x (by simpa using hx)
 obtain ⟨t0, s0, A0, n0, c0, B0, m0, e0, rfl, ha0⟩ := open_TreeArg (hval 0 25 _ rfl rfl) h0
 obtain ⟨A1, c1, l1, rfl, ha1⟩ := open_TrsArg (hval 1 38 _ rfl rfl) h1
 refine (lawC_any t0 s0 A0 n0 c0 B0 m0 e0 A1 c1 l1 W ha0 ha1 htab hgm).mono fun e W' ⟨he, hb⟩ => ?_
 subst he
 exact ⟨_, rfl, post_of_below (pa := p0 ++ p1) (pv := []) hW' (fun _ _ _ => trodAll_mk1 (shut_bool Tryd.underlying4 _)) (fun sp hsp => trodAll_mk2 (arg_stays (by kernel_rfl) (of_decide_eq_true (by kernel_rfl)) h0 hb (fun x hx => hlt x (by simp [hx])) sp (fun x hx => hsp x (by simp [hx]))) (arg_stays (by kernel_rfl) (of_decide_eq_true (by kernel_rfl)) h1 hb (fun x hx => hlt x (by simp [hx])) sp (fun x hx => hsp x (by simp [hx])))) (fun _ _ => rfl) (by simp) hb (ok_one (by kernel_rfl) rfl (okWide_bool_mk Tryd.underlying4 _))⟩
theorem reads (os : Os) {H : Type} (enc : TypeId × Value → H) : ∃ places, DataW.whole enc Tryd.prog ((laidW os).forCall (fun _ _ => 0) ⟨#[], #[.agg #[.int .i64 0, .slice none 0 0, .slice none 0 0], .slice none 0 0], []⟩).memory Tryd.f5.params.toList Rows.reduceChoosesSpec.vars false #[(Value.agg #[.int .i64 0, .slice none 0 0, .slice none 0 0]), .slice none 0 0].toList 8 = some ([.agg [.lit (.int .i64 0), .nil, .nil], .nil], [], places) :=
 ⟨[], by kernel_rfl⟩
theorem lifted (os : Os) (started : os.Started) (H : Type) (enc : TypeId × Value → H) (F : Stop.Interp) :
  ReturnsInHanded {} Tryd.checked os 5 .any ((OpenSpec.ofChange Rows.reduceChoosesSpec).preRow enc Tryd.prog Tryd.f5 Rows.reduceChoosesRow.domain false Rows.reduceChoosesRow.laid) (((OpenSpec.ofChange Rows.reduceChoosesSpec).at F).post enc Tryd.prog Tryd.f5 false true false false) := by
 obtain ⟨places, hx⟩ := reads os enc
 refine returnsInHanded_of_row (C := Tryd.checked) (s := OpenSpec.ofChange Rows.reduceChoosesSpec) own started (by kernel_rfl) Tryd.func5
  (laidW_witness os #[.agg #[.int .i64 0, .slice none 0 0, .slice none 0 0], .slice none 0 0] (by kernel_rfl) (OpenSpec.preRow_of_cond 8 hx (by kernel_rfl) (fun k hk => by cases hk) (by kernel_rfl) (laidW_met os _))) ?_
 intro W base args ds gs before hval hW _ _ _ hL hsh _
 exact contract H enc W base args ds gs before (tab_of hL) (gmat_of hL) hval hW
theorem said : Rows.ReduceChoosesSaid :=
 OpenClaim.holds_of_cond 5 Tryd.f5 rfl rfl rfl rfl rfl rfl rfl ⟨rfl, rfl, rfl, rfl, rfl⟩ rfl rfl rfl rfl rfl (by kernel_rfl) Tryd.func5 (by kernel_rfl)
  (of_decide_eq_true (by kernel_rfl)) (by unfold Func.isWrapper; first | (rw [if_pos (by decide +kernel)]; kernel_rfl) | (rw [if_neg (by decide +kernel)]; exact ⟨rfl, rfl⟩))
  (fun os started H enc _ F => by rw [OpenClaim.pre_eq_preRow]; exact lifted os started H enc F)
theorem plain (f : FuncId) (fn : Func) (hf : Tryd.pinned.checked.prog.funcNamed "cellular/cellularlaw13.ReduceChooses" = some f) (hfn : Tryd.pinned.checked.prog.funcs[f]? = some fn) :
  false = Tryd.pinned.checked.prog.looks [] ∧ ∀ (j : Nat) t, fn.params[j]? = some t → Tryd.pinned.checked.prog.wantsStandIn t = false := by
 obtain rfl : f = 5 := Option.some.inj ((show Tryd.prog.funcNamed "cellular/cellularlaw13.ReduceChooses" = some 5 by kernel_rfl).symm.trans hf) |>.symm
 obtain rfl : fn = Tryd.f5 := (Option.some.inj (Tryd.func5.symm.trans hfn)).symm
 refine ⟨by kernel_rfl, fun j t ht => ?_⟩
 rw [Tryd.params5] at ht
 have hm : t ∈ [25, 38] := by simpa using Array.mem_of_getElem? ht
 have hall : ([25, 38].all fun u => !Tryd.prog.wantsStandIn u) = true := by kernel_rfl
 exact (show Tryd.prog.wantsStandIn t = false by simpa using List.all_eq_true.1 hall t hm)
theorem proved : Rows.ReduceChoosesCardSaid :=
 Claim7.holds_tied_plain_at .later [] _ _ _ _ said (fun _ h => by cases h) (by kernel_rfl) (fun _ h => by cases h) reduceChooses_row_tie rfl ⟨rfl, rfl⟩ (by kernel_rfl) rfl plain (by kernel_rfl)
#print axioms proved
end Go.Proofs.YtojnnfihpiegoaaDoor.rc
