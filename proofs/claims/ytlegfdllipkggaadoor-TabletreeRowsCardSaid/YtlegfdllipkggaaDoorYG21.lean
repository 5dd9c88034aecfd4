/-
  texts Few TvB Open Laid Few11 Tiny: parts of the proof; conditions stand with each theorem.
-/
import Derived.Test.YtlegfdllipkggaaDoorYG8
import Derived.Test.YtlegfdllipkggaaDoorYG3
import Derived.Test.YtlegfdllipkggaaDoorYG20
import Derived.Test.YtlegfdllipkggaaDoorYG11
import Derived.Test.YtlegfdllipkggaaDoorRows
import Derived.WalkKit
import Derived.ProofKit
import Derived.OpenShut
import Derived.HandedShaped
import Derived.Shelf.Vars
import Derived.Lib.SmallJoins
import Derived.Lib.LaidTab
import Derived.Stop.LaidErr
import Derived.Laws.IdiomArrays
import Derived.Deep.SlicePairs
import Derived.MakeChecks
import Derived.Below
import Derived.ChangeSame
import Derived.LaidMore
import Derived.Lay
import Derived.Deep.DeepHandedRow
namespace Go.Proofs.YtlegfdllipkggaaDoor
open Go.RowKit Go.Maps
set_option maxRecDepth 100000
set_option linter.unusedVariables false
set_option linter.unusedSimpArgs false

theorem any_take {α : Type} {p : α → Bool} {l : List α} {i : Nat} (hi : i < l.length) (h : (l.take i).any p = false) (h2 : p l[i] = false) : (l.take (i + 1)).any p = false := by
 rw [List.take_succ_eq_append_getElem hi, List.any_append, h]; simp [h2]
theorem any_at {α : Type} {p : α → Bool} {l : List α} {i : Nat} (hi : i < l.length) (h2 : p l[i] = true) : l.any p = true := by
 rw [List.any_eq_true]; exact ⟨l[i], List.getElem_mem hi, h2⟩
def bigN (x : Nd) : Bool := decide (20 < x.2.length)
def fewB (ps : List (Int × Int)) (ns : List Nd) : Bool := !(decide (40 < ps.length) || decide (400 < ns.length)) && !ns.any bigN
def smallB (t : PT) (n : Int) : Bool := fewB t.ps t.ns && decide ((t.ns.length : Int) ≤ n)
set_option maxHeartbeats 8000000 in
theorem few_any (st : Int) (A : Option Addr) (c : Nat) (ps : List (Int × Int)) (B : Option Addr) (d : Nat) (hs : List Hd) (w : World) (hN : Nds w B hs) :
  Calls Tryd.prog 6 #[.agg #[.int .i64 st, .slice A ps.length c, .slice B hs.length d]] w fun e w' => e = .returned (.bool (fewB ps (hs.map Hd.nd))) ∧ Below w.heap.size w w' := by
 obtain ⟨w0, hw0⟩ : ∃ w0, w0 = w.alloc (.cells #[.int .i64 st, .slice A ps.length c, .slice B hs.length d] 25) := ⟨_, rfl⟩
 have hb0 : Below w.heap.size w w0 := by rw [hw0]; exact below_new _ _
 have p0 : Blk w0 w.heap.size 25 #[.int .i64 st, .slice A ps.length c, .slice B hs.length d] := by rw [hw0]; exact Blk.new _ _ _
 have c1 := p0.cell_ 1 (.slice A ps.length c) rfl; have c2 := p0.cell_ 2 (.slice B hs.length d) rfl; have HN := Lib.hid (hN.ext hb0); have HB0 := Lib.hid hb0; have HP0 := Lib.hid p0; have HW0 := Lib.hid hw0; have hlen := hN.le; clear hb0 p0 hw0 hN; by_cases h1 : 40 < ps.length
 ·have d1 : decide ((40 : Int) < (ps.length : Int)) = true := decide_eq_true (by omega); have d1' : decide (40 < ps.length) = true := decide_eq_true h1; have HE : Hid (fewB ps (hs.map Hd.nd) = false) := Lib.hid (by unfold fewB; rw [d1']; rfl); clear h1 hlen; go_enter Tryd.func6, Tryd.ntmps6; go_upto_region 1 with fail
  rw [← HW0.out]; go_wp2; go_ret; exact ⟨ret_bool (by rw [HE.out]), HB0.out⟩
 have d1 : decide ((40 : Int) < (ps.length : Int)) = false := decide_eq_false (by omega); have d1' : decide (40 < ps.length) = false := decide_eq_false h1; by_cases h2 : 400 < hs.length
 ·have d2 : decide ((400 : Int) < (hs.length : Int)) = true := decide_eq_true (by omega); have d2' : decide (400 < hs.length) = true := decide_eq_true h2; have HE : Hid (fewB ps (hs.map Hd.nd) = false) := Lib.hid (by unfold fewB; rw [List.length_map, d1', d2']; rfl); clear h1 h2 hlen; go_enter Tryd.func6, Tryd.ntmps6; go_upto_region 1 with fail
  rw [← HW0.out]; go_wp2; go_ret; exact ⟨ret_bool (by rw [HE.out]), HB0.out⟩
 have d2 : decide ((400 : Int) < (hs.length : Int)) = false := decide_eq_false (by omega); have d2' : decide (400 < hs.length) = false := decide_eq_false h2; have HE : Hid (fewB ps (hs.map Hd.nd) = !(hs.map Hd.nd).any bigN) := Lib.hid (by unfold fewB; rw [List.length_map, d1', d2']; rfl); have HL : Hid (hs.length ≤ 400) := Lib.hid (by omega); clear h1 h2 hlen; go_enter Tryd.func6, Tryd.ntmps6; go_upto_region 1 with fail
 rw [← HW0.out]; go_wp2; clear c1 c2; go_loopw [17] (fun iv wr => ∃ k : Nat, k ≤ hs.length ∧ iv = .int .i64 k ∧ Hid (Below w0.heap.size w0 wr) ∧ Hid (((hs.map Hd.nd).take k).any bigN = false)) (fun iv _ => hs.length - (intOf iv).toNat)
 case atStart => exact ⟨0, Nat.zero_le _, rfl, Lib.hid (Below.refl _ _), Lib.hid (by simp)⟩
 case round =>
  obtain ⟨k, hk, rfl, HBR, HNB⟩ := hrel; have hwk : wrap64 ((k : Int) + 1) = (k : Int) + 1 := by have := HL.out; unfold wrap64; omega
  have c2 := (HP0.out.below HBR.out HP0.out.lt).cell_ 2 (.slice B hs.length d) rfl; by_cases hkl : k < hs.length
  ·obtain ⟨b, o, e, -, g0, g1, -⟩ := (HN.out.ext HBR.out).at_ hkl; have HAT : Hid ((hs.map Hd.nd)[k]'(by rw [List.length_map]; exact hkl) = hs[k].nd) := Lib.hid (List.getElem_map ..); have HST : Hid (bigN hs[k].nd = false → ((hs.map Hd.nd).take (k + 1)).any bigN = false) := Lib.hid (fun h => any_take (by rw [List.length_map]; exact hkl) HNB.out (by rw [HAT.out]; exact h)); have HHIT : Hid (bigN hs[k].nd = true → (hs.map Hd.nd).any bigN = true) := Lib.hid (fun h => any_at (by rw [List.length_map]; exact hkl) (by rw [HAT.out]; exact h)); clear HAT; obtain ⟨x, hx⟩ : ∃ x, x = hs[k] := ⟨_, rfl⟩
   rw [← hx] at g0 g1 HST HHIT; obtain ⟨lv, zA, zc, zs⟩ := x; dsimp only at g0 g1; have HKL := Lib.hid hkl; subst e; clear hx hk; by_cases hz : 20 < zs.length
   ·have d3 : decide ((20 : Int) < (zs.length : Int)) = true := decide_eq_true (by omega); have d3' : decide (20 < zs.length) = true := decide_eq_true hz; have HF := Lib.hid (HHIT.out d3'); clear hz; go_wp2; go_ret; exact ⟨ret_bool (by rw [HE.out, HF.out]; rfl), HB0.out.trans (HBR.out.mono HB0.out.size)⟩
   ·have d3 : decide ((20 : Int) < (zs.length : Int)) = false := decide_eq_false (by omega); have d3' : decide (20 < zs.length) = false := decide_eq_false hz; have HF := Lib.hid (HST.out d3'); clear hz; go_wp2; go_roundw
    case rel => exact ⟨k + 1, HKL.out, (by first | rfl | (rw [hwk]; rfl)), HBR, HF⟩
    case measure => (try rw [hwk]); exact meas_step HKL.out
  ·have hke : k = hs.length := Nat.le_antisymm hk (Nat.le_of_not_lt hkl); have HF : Hid ((hs.map Hd.nd).any bigN = false) := Lib.hid (by
    have := HNB.out; rwa [List.take_of_length_le (by rw [List.length_map, hke]; exact Nat.le_refl _)] at this)
   clear hke hk; go_wp2; go_ret; exact ⟨ret_bool (by rw [HE.out, HF.out]; rfl), HB0.out.trans (HBR.out.mono HB0.out.size)⟩
section
variable {w w' : World} {t u : PT} {v x : Value}
theorem few_tv (h : TreeAt w v t) : Calls Tryd.prog 6 #[v] w fun e w' => e = .returned (.bool (fewB t.ps t.ns)) ∧ Below w.heap.size w w' := by
 obtain ⟨A, c, B, d, os, rfl, h1, h2, h3⟩ := h; have := few_any t.st A c t.ps B d os w h2; rw [h3] at this; exact this
end
structure TvB (w : World) (p : Nat) (hA : Option Addr) (hc : Nat) (vA : Option Addr) (vc : Nat) (rA : Option Addr) (rc : Nat) (y : TabH) : Prop where
 blk : Blk w p 31 #[.int .i64 y.st, .int .i64 y.sym, .slice hA y.hood.length hc, .slice vA y.vs.length vc, .slice rA y.rs.length rc]
 tb : TabR w hA vA rA y
section
variable {w w' : World} {p : Nat} {hA : Option Addr} {hc : Nat} {vA : Option Addr} {vc : Nat} {rA : Option Addr} {rc : Nat} {y : TabH}
theorem TvB.ext (h : TvB w p hA hc vA vc rA rc y) (hb : Below w.heap.size w w') : TvB w' p hA hc vA vc rA rc y := ⟨h.blk.ext hb, h.tb.ext hb⟩
theorem TvB.new (h : TabR w hA vA rA y) : TvB (w.alloc (.cells #[.int .i64 y.st, .int .i64 y.sym, .slice hA y.hood.length hc, .slice vA y.vs.length vc, .slice rA y.rs.length rc] 31)) w.heap.size hA hc vA vc rA rc y := ⟨Blk.new _ _ _, h.ext (below_new _ _)⟩
theorem TvB.cells (h : TvB w p hA hc vA vc rA rc y) : w.cell? ⟨p, 0, none⟩ = some (.int .i64 y.st) ∧ w.cell? ⟨p, 1, none⟩ = some (.int .i64 y.sym) ∧ w.cell? ⟨p, 2, none⟩ = some (.slice hA y.hood.length hc) ∧ w.cell? ⟨p, 3, none⟩ = some (.slice vA y.vs.length vc) ∧ w.cell? ⟨p, 4, none⟩ = some (.slice rA y.rs.length rc) :=
 ⟨h.blk.cell_ 0 _ rfl, h.blk.cell_ 1 _ rfl, h.blk.cell_ 2 _ rfl, h.blk.cell_ 3 _ rfl, h.blk.cell_ 4 _ rfl⟩
end
end Go.Proofs.YtlegfdllipkggaaDoor
namespace Go.Proofs.YtlegfdllipkggaaDoor
set_option linter.unusedSimpArgs false
open Go.ChangeShapes Go.WideShapes Go.ChangeAt Go.RowKit Go.Deep
set_option maxRecDepth 100000
set_option linter.unusedVariables false

section
variable {H : Type} {enc : TypeId × Value → H} {P : Program}
theorem post_of_below {f : Func} {s : ChangeSpec} {apart fresh handsOn again : Bool} {W W' : World} {args : Array Value} {v : Value} {ds gs : List (DataW H)} {before pa pv : List MemPlace}
  (hW : DataW.Whole enc P f.params.toList s.vars apart W args.toList ds gs before)
  (hres : ∀ (b : Nat) (sp : Nat → Bool) (hd : Bool), DataW.TrodAll enc P W' b sp hd f.resultTypes.toList (v.resultList f.resultTypes.size) (s.fn H (ds ++ gs)).results [])
  (hargs : ∀ sp : Nat → Bool, (∀ p ∈ before, sp p.block = true) → DataW.TrodAll enc P W' 0 sp true f.params.toList args.toList (s.fn H (ds ++ gs)).args pa)
  (hvars : ∀ sp : Nat → Bool, (∀ p ∈ before, sp p.block = true) → DataW.TrodVars enc P W' sp s.vars (s.fn H (ds ++ gs)).vars pv)
  (hps : before = pa ++ pv) (hb : Below W.heap.size W W')
  (hok : ∀ (j : Nat) (t : TypeId) (r : Value), f.resultTypes[j]? = some t → (v.resultList f.resultTypes.size)[j]? = some r → Value.okWide P W' .any 0 t r) :
  s.post enc P f apart fresh handsOn again W args v W' := by
 have hlt : ∀ p ∈ before, p.block < W.heap.size := fun p hp => hW.lt p hp; have hold : ∀ p ∈ before, (fun b => decide (b < W.heap.size)) p.block = true := fun p hp => by simpa using hlt p hp
 refine ⟨ds, gs, before, [], pa, pv, hW, hres _ _ _, hargs _ hold, hvars _ hold, World.keptBut_mono (fun p hp => ⟨hp, ?_⟩) (hb.frame (· ∈ before)), fun _ => ?_⟩
 ·rw [hps, List.mem_append] at hp; exact Or.inr hp
 ·obtain ⟨_, _, _, _, _, hz, hn⟩ := hW; refine ⟨hok, _, _, ([] ++ pa) ++ pv, ⟨[] ++ pa, pv, trodAll_append (hargs _ (fun _ _ => rfl)) (hres _ _ _), hvars _ (fun _ _ => rfl), rfl, ?_, ?_⟩, ?_⟩
  ·intro b off hp; have hin : MemPlace.cell b off ∈ before := by rw [hps]; simpa using hp
   rw [hb.frozen (hlt _ hin)]; exact hz b off hin
  ·intro ha; have := hn ha; rw [hps] at this; simpa using this
  ·intro p hp _; rw [hps]; simpa using hp
end
theorem Tryd.cellsInt : Tryd.prog.cellsOf 3 = 1 := by kernel_rfl
theorem Tryd.cellsPt : Tryd.prog.cellsOf 67 = 2 := by kernel_rfl
theorem Tryd.cellsNode : Tryd.prog.cellsOf 50 = 2 := by kernel_rfl
theorem Tryd.cellsIntsT : Tryd.prog.cellsOf 41 = 1 := by kernel_rfl
theorem Tryd.cellsTree : Tryd.prog.cellsOf 25 = 3 := by kernel_rfl
theorem Tryd.laidOut_ : laidOutB Tryd.prog = true := by kernel_rfl
theorem flat_len : ∀ ps : List (Int × Int), (ps.flatMap ptCells).length = ps.length * 2
 | [] => rfl
 | p :: r => by rw [List.flatMap_cons, List.length_append, flat_len r]; simp [ptCells]; omega
section
variable {H : Type} {enc : TypeId × Value → H} {W : World}
theorem open_Ints {n : Nat} {v : Value} {x : DataW H × List MemPlace} (h : DataW.trod enc Tryd.prog W 0 (fun _ => true) true n 41 [v] = some x) : ∃ A c zs, v = .slice A (zs : List Int).length c ∧ Ints W A zs := by
 rcases open_ints Tryd.underlying41 Tryd.underlying3 Tryd.cellsInt h with ⟨hcs, -⟩ | ⟨a, len, cap, zs, hcs, -, hl, hm, hz, -, hc, -⟩
 ·injection hcs with hcs
  exact ⟨none, 0, [], hcs, Ints.nil⟩
 ·injection hcs with hcs
  have hz' : zs.length = cap := by rw [hz]; rfl
  refine ⟨some a, cap, zs.take len, ?_, ⟨?_, fun hn => ⟨a, rfl, ?_, fun j u hu => ?_⟩⟩, ?_⟩
  ·rw [hcs, List.length_take, Nat.min_eq_left (by omega)]
  ·simp
  ·have h0 := hc 0 (by rw [List.length_take] at hn; omega); exact World.block_lt_of_cell? _ _ h0
  ·have hj : j < len := by
    have := (List.getElem?_eq_some_iff.1 hu).1; simp at this; omega
   have h1 := hc j (by omega); rw [h1]; rw [List.getElem?_map, List.getElem?_take_of_lt hj, List.getElem?_eq_getElem (by omega)] at hu; have hj2 : j < zs.length := by omega
   simp [List.getD, List.getElem?_eq_getElem hj2] at hu ⊢; exact hu
  ·rw [List.length_take]; unfold maxLen at hm; omega
theorem open_Pts {n : Nat} {v : Value} {x : DataW H × List MemPlace} (h : DataW.trod enc Tryd.prog W 0 (fun _ => true) true n 22 [v] = some x) : ∃ A c ps, v = .slice A (ps : List (Int × Int)).length c ∧ Pts W A ps := by
 rcases open_slice_pairs Tryd.underlying22 Tryd.underlying67 Tryd.cellsPt rfl rfl Tryd.cellsInt Tryd.cellsInt h with ⟨hcs, -⟩ | ⟨a, len, cap, m, k, V0, V1, D0, D1, P0, P1, hcs, -, hl, hm, hmm, -, hx⟩
 ·injection hcs with hcs
  exact ⟨none, 0, [], hcs, Pts.nil⟩
 ·injection hcs with hcs
  have hmc : m = cap := by rw [hmm]; rfl
  have hx' : ∀ i, i < len → ∃ p q : Int, W.cell? (a.add (i * 2)) = some (.int .i64 p) ∧ W.cell? (a.add (i * 2 + 1)) = some (.int .i64 q) := by
   intro i hi; obtain ⟨g0, g1, d0, d1⟩ := hx i (by omega); obtain ⟨p, e0, -, -⟩ := DataW.trod_int Tryd.underlying3 d0; obtain ⟨q, e1, -, -⟩ := DataW.trod_int Tryd.underlying3 d1; injection e0 with e0
   injection e1 with e1
   rw [e0] at g0; rw [e1] at g1; exact ⟨p, q, g0, g1⟩
  obtain ⟨F, hF⟩ : ∃ F : Nat → Int × Int, ∀ i, i < len → W.cell? (a.add (i * 2)) = some (.int .i64 (F i).1) ∧ W.cell? (a.add (i * 2 + 1)) = some (.int .i64 (F i).2) := by
   refine ⟨fun i => if hi : i < len then ⟨Classical.choose (hx' i hi), Classical.choose (Classical.choose_spec (hx' i hi))⟩ else (0, 0), fun i hi => ?_⟩; simp only [hi, dif_pos]; exact Classical.choose_spec (Classical.choose_spec (hx' i hi))
  refine ⟨some a, cap, (List.range len).map F, ?_, ⟨?_, fun hn => ⟨a, rfl, ?_, fun j u hu => ?_⟩⟩, ?_⟩
  ·rw [hcs, List.length_map, List.length_range]
  ·rw [flat_len]
  ·have h0 := (hF 0 (by simpa using hn)).1; exact World.block_lt_of_cell? _ _ h0
  ·have hj : j < len * 2 := by
    have := (List.getElem?_eq_some_iff.1 hu).1; rw [flat_len] at this; simpa using this
   have hi : j / 2 < ((List.range len).map F).length := by simp; omega
   obtain ⟨f0, f1⟩ := flat2 ((List.range len).map F) (j / 2) hi; obtain ⟨g0, g1⟩ := hF (j / 2) (by omega); have hg : ((List.range len).map F)[j / 2] = F (j / 2) := by simp
   rw [hg] at f0 f1; rcases Nat.mod_two_eq_zero_or_one j with h2 | h2
   ·have ej : j = 2 * (j / 2) := by omega
    rw [ej] at hu ⊢; rw [f0] at hu; rw [Nat.mul_comm, g0]; exact hu
   ·have ej : j = 2 * (j / 2) + 1 := by omega
    rw [ej] at hu ⊢; rw [f1] at hu; rw [Nat.mul_comm, g1]; exact hu
  ·rw [List.length_map, List.length_range]; unfold maxLen at hm; omega
theorem open_Nds {n : Nat} {v : Value} {x : DataW H × List MemPlace} (h : DataW.trod enc Tryd.prog W 0 (fun _ => true) true n 23 [v] = some x) : ∃ A c hs, v = .slice A (hs : List Hd).length c ∧ Nds W A hs := by
 rcases open_slice Tryd.underlying23 h with ⟨hcs, -⟩ | ⟨a, len, cap, m, k, D, Pl, hcs, -, hl, hm, hmm, -, hx⟩
 ·injection hcs with hcs
  exact ⟨none, 0, [], hcs, Nds.nil⟩
 ·injection hcs with hcs
  have hmc : m = cap := by rw [hmm]; rfl
  have hx' : ∀ i, i < len → ∃ q : Hd, W.cell? (a.add (i * 2)) = some (.int .i64 q.lv) ∧ W.cell? (a.add (i * 2 + 1)) = some (.slice q.A q.zs.length q.c) ∧ Ints W q.A q.zs := by
   intro i hi; obtain ⟨cs', h1, h2⟩ := hx i (by omega); rw [Tryd.cellsNode] at h1; obtain ⟨_, hlen, hcell⟩ := World.cells?_some h1; obtain ⟨xs, k2, hk, hxy, _, hxl, hf⟩ := DataW.trod_struct Tryd.underlying50 h2
   match xs, hxl, cs', hlen with
   | [y0, y1], _, [v0, v1], _ =>
    have g0 := hf 0 _ rfl; have g1 := hf 1 _ rfl; simp [Tryd.cellsInt] at g0; simp [Tryd.cellsIntsT] at g1; have e0 := hcell 0 (by omega); have e1 := hcell 1 (by omega); rw [add_add] at e0 e1; obtain ⟨p, r0, -, -⟩ := DataW.trod_int Tryd.underlying3 g0; injection r0 with r0
    subst r0; obtain ⟨A, c, zs, rfl, hi'⟩ := open_Ints g1; exact ⟨⟨p, A, c, zs⟩, by simpa using e0, by simpa using e1, hi'⟩
  obtain ⟨F, hF⟩ : ∃ F : Nat → Hd, ∀ i, i < len → W.cell? (a.add (i * 2)) = some (.int .i64 (F i).lv) ∧ W.cell? (a.add (i * 2 + 1)) = some (.slice (F i).A (F i).zs.length (F i).c) ∧ Ints W (F i).A (F i).zs := by
   refine ⟨fun i => if hi : i < len then Classical.choose (hx' i hi) else ⟨0, none, 0, []⟩, fun i hi => ?_⟩; simp only [hi, dif_pos]; exact Classical.choose_spec (hx' i hi)
  refine ⟨some a, cap, (List.range len).map F, ?_, ⟨?_, fun hn => ⟨a, rfl, ?_, fun j u hu => ?_⟩⟩, ?_, ?_⟩
  ·rw [hcs, List.length_map, List.length_range]
  ·rw [hd_len]
  ·have h0 := (hF 0 (by simpa using hn)).1; exact World.block_lt_of_cell? _ _ h0
  ·have hj : j < len * 2 := by
    have := (List.getElem?_eq_some_iff.1 hu).1; rw [hd_len] at this; simpa using this
   have hi : j / 2 < ((List.range len).map F).length := by simp; omega
   obtain ⟨f0, f1⟩ := hd2 ((List.range len).map F) (j / 2) hi; obtain ⟨g0, g1, -⟩ := hF (j / 2) (by omega); have hg : ((List.range len).map F)[j / 2] = F (j / 2) := by simp
   rw [hg] at f0 f1; rcases Nat.mod_two_eq_zero_or_one j with h2 | h2
   ·have ej : j = 2 * (j / 2) := by omega
    rw [ej] at hu ⊢; rw [f0] at hu; rw [Nat.mul_comm, g0]; exact hu
   ·have ej : j = 2 * (j / 2) + 1 := by omega
    rw [ej] at hu ⊢; rw [f1] at hu; rw [Nat.mul_comm, g1]; exact hu
  ·rw [List.length_map, List.length_range]; unfold maxLen at hm; omega
  ·intro q hq; obtain ⟨i, hi, rfl⟩ := List.mem_map.1 hq; exact (hF i (by simpa using hi)).2.2
theorem open_TreeArg {r : Reach} {b0 : Nat} {v : Value} {d : DataW H} {p : List MemPlace} (hv : Value.okWide Tryd.prog W r b0 25 v) (h : DataW.Trod enc Tryd.prog W 0 (fun _ => true) true 25 v d p) :
  ∃ t st A n c B m dd, v = .agg #[.int .i64 st, .slice A n c, .slice B m dd] ∧ TreeAt W (.agg #[.int .i64 st, .slice A n c, .slice B m dd]) t := by
 obtain ⟨v0, v1, v2, y0, y1, y2, n, rfl, -, -, h0, h1, h2⟩ := Joins.open_agg3 Tryd.underlying25 (by kernel_rfl) Tryd.cellsTree hv h; obtain ⟨s, e1, -, -⟩ := DataW.trod_int Tryd.underlying3 h0; injection e1 with e1
 subst e1; obtain ⟨A, a, ps, rfl, hp⟩ := open_Pts h1; obtain ⟨B, b, hs, rfl, hb⟩ := open_Nds h2; exact ⟨⟨s, ps, hs.map Hd.nd⟩, s, A, _, a, B, _, b, rfl, A, a, B, b, hs, rfl, hp, hb, rfl⟩
theorem open_IntsArg {r : Reach} {b0 : Nat} {v : Value} {d : DataW H} {p : List MemPlace} (hv : Value.okWide Tryd.prog W r b0 41 v) (h : DataW.Trod enc Tryd.prog W 0 (fun _ => true) true 41 v d p) : ∃ A c zs, v = .slice A (zs : List Int).length c ∧ Ints W A zs := by
 obtain ⟨x, l, c, rfl⟩ := okWide_slice Tryd.underlying41 hv; obtain ⟨fuel, hf⟩ := h; exact open_Ints hf
end
theorem tab_of {w : World} (hL : laidMetH Tryd.prog Rows.tabletreeTablesRow.laid w) : TabB w.heap.size w := by
 rw [MakeChecks.laidMetH_plain _ _ _ (by kernel_rfl)] at hL; have h3 : laidMet Tryd.prog [("internal/strconv.uint64pow10", Rows.laid_internal_strconv_uint64pow10), ("cellular/symmetry.matrices", Rows.laid_cellular_symmetry_matrices)] w := hL.tail.tail; exact Lib.tabBelow_of_tabIs (Lib.tabIs_of_head (g := 1) (t := 135) (e := 124) (by kernel_rfl) (by kernel_rfl) Tryd.underlying135 Tryd.underlying124 (by kernel_rfl) (by kernel_rfl) h3)
theorem Tryd.cellsRow : Tryd.prog.cellsOf 122 = 4 := by kernel_rfl
theorem Tryd.cellsMat : Tryd.prog.cellsOf 123 = 32 := by kernel_rfl
theorem mat_data {H : Type} : (Rows.laid_cellular_symmetry_matrices : DataW H) = .agg ((List.range 8).map fun i => .agg ((List.range 4).map fun j => .lit (.int .i64 (matL.getD (i * 4 + j) 0)))) := rfl
theorem gmat_of {w : World} (hL : laidMetH Tryd.prog Rows.tabletreeTablesRow.laid w) : GMat w := by
 rw [MakeChecks.laidMetH_plain _ _ _ (by kernel_rfl)] at hL; have h3 : laidMet Tryd.prog [("cellular/symmetry.matrices", Rows.laid_cellular_symmetry_matrices)] w := hL.tail.tail.tail; obtain ⟨ps, ⟨g', t', cs, fuel, p, q, hg', ht', hvar, hd, -, -⟩, -⟩ := h3; have hg : Tryd.prog.globalNamed "cellular/symmetry.matrices" = some 0 := by kernel_rfl
 obtain rfl := Option.some.inj (hg.symm.trans hg'); have hty : (Tryd.prog.globals[0]?).map (·.type) = some 123 := by kernel_rfl
 obtain rfl := Option.some.inj (hty.symm.trans ht'); obtain ⟨xs, m, -, hx, hlen, hxl, hel⟩ := DataW.trod_array Tryd.underlying123 hd; rw [Tryd.cellsMat] at hlen; rw [mat_data] at hx; have hx1 : xs.map (·.1) = (List.range 8).map fun i => (.agg ((List.range 4).map fun j => .lit (.int .i64 (matL.getD (i * 4 + j) 0))) : DataW Unit) := by
  injection hx with hx hx'
  injection hx with hx
  exact hx.symm
 have key : ∀ i, i < 8 → ∀ j, j < 4 → cs[i * 4 + j]? = some (.int .i64 (matL.getD (i * 4 + j) 0)) := by
  intro i hi j hj; have h1 := hel i hi; rw [Tryd.cellsRow] at h1; obtain ⟨x, hxi⟩ : ∃ x, xs[i]? = some x := ⟨xs[i]'(by omega), List.getElem?_eq_getElem (by omega)⟩
  rw [hxi] at h1; have hxd : x.1 = .agg ((List.range 4).map fun j => .lit (.int .i64 (matL.getD (i * 4 + j) 0))) := by
   have := congrArg (·[i]?) hx1; simp only [List.getElem?_map, hxi, List.getElem?_range hi, Option.map_some, Option.some.injEq] at this; exact this
  obtain ⟨ys, m2, -, hy, hylen, hyl, hey⟩ := DataW.trod_array Tryd.underlying122 h1; have h2 := hey j hj; rw [Tryd.cellsInt] at h2; obtain ⟨y, hyi⟩ : ∃ y, ys[j]? = some y := ⟨ys[j]'(by omega), List.getElem?_eq_getElem (by omega)⟩
  rw [hyi] at h2; have hy1 : ys.map (·.1) = (List.range 4).map fun j => (.lit (.int .i64 (matL.getD (i * 4 + j) 0)) : DataW Unit) := by
   have := congrArg Prod.fst hy; rw [hxd] at this; injection this with this
   exact this.symm
  have hyd : y.1 = .lit (.int .i64 (matL.getD (i * 4 + j) 0)) := by
   have := congrArg (·[j]?) hy1; simp only [List.getElem?_map, hyi, List.getElem?_range hj, Option.map_some, Option.some.injEq] at this; exact this
  obtain ⟨z, e1, e2, -⟩ := DataW.trod_int Tryd.underlying3 h2; rw [e2] at hyd; injection hyd with hyd
  injection hyd with _ hyd
  have := congrArg (·[0]?) e1; simp only [List.getElem?_take, List.getElem?_drop, List.getElem?_cons_zero] at this; rw [← hyd]; simpa [hj] using this
 have hcell := World.var?_cell hg hvar; have h0 : w.cell? ⟨0, 0, none⟩ = some (.int .i64 (matL.getD 0 0)) := by
  rw [hcell 0]; simpa using key 0 (by omega) 0 (by omega)
 refine ⟨World.block_lt_of_cell? _ _ h0, fun i hi => ?_⟩; rw [hcell i]; have := key (i / 4) (by omega) (i % 4) (by omega); rw [show i / 4 * 4 + i % 4 = i by omega] at this; simpa using this
end Go.Proofs.YtlegfdllipkggaaDoor
namespace Go.Proofs.YtlegfdllipkggaaDoor
set_option linter.unusedSimpArgs false
set_option linter.unusedVariables false
open Go.ChangeShapes Go.WideShapes Go.ChangeAt Go.RowKit
set_option maxRecDepth 1000000

noncomputable def laidW (os : Os) : World := World.laidAll Tryd.prog os Rows.tabletreeTablesRow.laid
theorem laidW_os (os : Os) : (laidW os).os = os := World.laidAll_os _ _ _
theorem laidW_shaped (os : Os) (args : Array Value) : ((laidW os).forCall (fun _ _ => 0) ⟨#[], args, []⟩).Shaped Tryd.prog := World.shaped_of_ZipB (by kernel_rfl) (by kernel_rfl)
theorem laidW_met (os : Os) (args : Array Value) : laidMetH Tryd.prog Rows.tabletreeTablesRow.laid ((laidW os).forCall (fun _ _ => 0) ⟨#[], args, []⟩).memory := by
 rw [MakeChecks.laidMetH_plain _ _ _ (by kernel_rfl)]; exact laidMet_laidAll _ (by kernel_rfl) (by kernel_rfl)
theorem laidW_witness {H : Type} {enc : TypeId × Value → H} {f : FuncId} {fn : Func} {s : OpenSpec} {conds : List PathCond} {apart : Bool} (os : Os) (args : Array Value)
  (hok : Input.okWideB Tryd.checked.prog ((laidW os).forCall (fun _ _ => 0) ⟨#[], args, []⟩) f ⟨#[], args, []⟩ = true)
  (hrow : s.preRow enc Tryd.checked.prog fn conds apart Rows.tabletreeTablesRow.laid ((laidW os).forCall (fun _ _ => 0) ⟨#[], args, []⟩).memory args) :
  ∃ (w : World) (tape : Tape) (i : Input), w.os = os ∧ (w.forCall tape i).Shaped Tryd.checked.prog ∧ i.vars = [] ∧ Input.okWide Tryd.checked.prog (w.forCall tape i) .any w.heap.size f i ∧
   s.preRow enc Tryd.checked.prog fn conds apart Rows.tabletreeTablesRow.laid (w.forCall tape i).memory i.args ∧ ({} : Assume).holds Tryd.checked.prog (lone (Frame.enter Tryd.checked.prog f i.args .normal) [] (w.forCall tape i)) :=
 ⟨laidW os, fun _ _ => 0, ⟨#[], args, []⟩, laidW_os os, laidW_shaped os args, (Input.okWide_of_okWideB (base := 0) hok).1, (Input.okWide_of_okWideB hok).2, hrow, by
  simp only [Assume.holds]; exact ⟨by simp, by simp, fun _ => Modest.zero, by simp, by simp⟩⟩
end Go.Proofs.YtlegfdllipkggaaDoor
namespace Go.Proofs.YtlegfdllipkggaaDoor
open Go.RowKit
set_option maxRecDepth 100000
set_option linter.unusedVariables false
set_option linter.unusedSimpArgs false
theorem any_take15 {α : Type} {p : α → Bool} {l : List α} {i : Nat} (hi : i < l.length) (h : (l.take i).any p = false) (h2 : p l[i] = false) : (l.take (i + 1)).any p = false := by
 rw [List.take_succ_eq_append_getElem hi, List.any_append, h]; simp [h2]
def few11 (t : TabL) : Bool := !(decide (30 < t.hood.length) || decide (50 < t.vars.length) || decide (30 < t.rows.length)) && !(t.vars.any fun l => decide (30 < l.length)) && !(t.rows.any fun r => decide (30 < r.1.length))
set_option maxHeartbeats 8000000 in
theorem few11_any (hA : Option Addr) (hc : Nat) (vA : Option Addr) (vc : Nat) (rA : Option Addr) (rc : Nat) (t : TabH) (w : World) (hT : TabR w hA vA rA t) :
  Calls Tryd.prog 31 #[tabV hA hc vA vc rA rc t] w fun e w' => e = .returned (.bool (few11 t.tab)) ∧ Below w.heap.size w w' := by
 obtain ⟨w0, hw0⟩ : ∃ w0, w0 = w.alloc (.cells #[.int .i64 t.st, .int .i64 t.sym, .slice hA t.hood.length hc, .slice vA t.vs.length vc, .slice rA t.rs.length rc] 31) := ⟨_, rfl⟩
 have hb0 : Below w.heap.size w w0 := by rw [hw0]; exact below_new _ _
 have p0 : Blk w0 w.heap.size 31 #[.int .i64 t.st, .int .i64 t.sym, .slice hA t.hood.length hc, .slice vA t.vs.length vc, .slice rA t.rs.length rc] := by rw [hw0]; exact Blk.new _ _ _
 have HTR := Lib.hid (hT.ext hb0); have HB0 := Lib.hid hb0; have HP := Lib.hid p0; have HW0 := Lib.hid hw0; have hh9 : t.hood.length ≤ 9223372036854775807 := hT.hood.le; have hv9 : t.vs.length ≤ 9223372036854775807 := hT.vars.le; have hr9 : t.rs.length ≤ 9223372036854775807 := hT.rows.le; obtain ⟨res, hres⟩ : ∃ res, res = few11 t.tab := ⟨_, rfl⟩
 rw [← hres]; unfold few11 TabH.tab at hres; dsimp only at hres; rw [List.length_map, List.length_map, List.any_map, List.any_map] at hres; have HRES := Lib.hid hres; have x2 := p0.cell_ 2 (.slice hA t.hood.length hc) rfl; have x3 := p0.cell_ 3 (.slice vA t.vs.length vc) rfl; have x4 := p0.cell_ 4 (.slice rA t.rs.length rc) rfl; unfold tabV; clear hb0 p0 hw0 hT hres; cases k1 : decide (30 < t.hood.length) with
 | true =>
  have q1 : decide ((30 : Int) < (t.hood.length : Int)) = true := by have := of_decide_eq_true k1; exact decide_eq_true (by omega)
  have HE : Hid (res = false) := Lib.hid (by rw [HRES.out, k1]; simp); clear k1; go_enter Tryd.func31, Tryd.ntmps31; go_upto_region 1 with fail
  rw [← HW0.out]; go_wp2; go_ret; exact ⟨by first | (rw [HE.out]; done) | (rw [HE.out]; rfl), HB0.out⟩
 | false =>
  have q1 : decide ((30 : Int) < (t.hood.length : Int)) = false := by have := of_decide_eq_false k1; exact decide_eq_false (by omega)
  cases k2 : decide (50 < t.vs.length) with
  | true =>
   have q2 : decide ((50 : Int) < (t.vs.length : Int)) = true := by have := of_decide_eq_true k2; exact decide_eq_true (by omega)
   have HE : Hid (res = false) := Lib.hid (by rw [HRES.out, k2]; simp); clear k1 k2; go_enter Tryd.func31, Tryd.ntmps31; go_upto_region 1 with fail
   rw [← HW0.out]; go_wp2; go_ret; exact ⟨by first | (rw [HE.out]; done) | (rw [HE.out]; rfl), HB0.out⟩
  | false =>
   have q2 : decide ((50 : Int) < (t.vs.length : Int)) = false := by have := of_decide_eq_false k2; exact decide_eq_false (by omega)
   cases k3 : decide (30 < t.rs.length) with
   | true =>
    have q3 : decide ((30 : Int) < (t.rs.length : Int)) = true := by have := of_decide_eq_true k3; exact decide_eq_true (by omega)
    have HE : Hid (res = false) := Lib.hid (by rw [HRES.out, k3]; simp); clear k1 k2 k3; go_enter Tryd.func31, Tryd.ntmps31; go_upto_region 1 with fail
    rw [← HW0.out]; go_wp2; go_ret; exact ⟨by first | (rw [HE.out]; done) | (rw [HE.out]; rfl), HB0.out⟩
   | false =>
    have q3 : decide ((30 : Int) < (t.rs.length : Int)) = false := by have := of_decide_eq_false k3; exact decide_eq_false (by omega)
    have HRES2 : Hid (res = (!(t.vs.any ((fun l => decide (30 < l.length)) ∘ Vh.zs)) && !(t.rs.any ((fun r => decide (30 < r.1.length)) ∘ Rh.rw_)))) := Lib.hid (by rw [HRES.out, k1, k2, k3]; simp); clear k1 k2 k3; go_enter Tryd.func31, Tryd.ntmps31; go_upto_region 1 with fail
    rw [← HW0.out]; go_wp2; clear q1 q2 q3; go_loopw [24] (fun iv wr => ∃ i : Nat, i ≤ t.vs.length ∧ iv = .int .i64 i ∧ w0 = wr ∧ Hid ((t.vs.take i).any ((fun l => decide (30 < l.length)) ∘ Vh.zs) = false)) (fun iv _ => t.vs.length - (intOf iv).toNat)
    case atStart => exact ⟨0, Nat.zero_le _, rfl, rfl, Lib.hid rfl⟩
    case round =>
     obtain ⟨i, hi, rfl, rfl, HN⟩ := hrel; by_cases hil : i < t.vs.length
     ·obtain ⟨b, o, rfl, -, k0, kz⟩ := HTR.out.vars.at_ hil; obtain ⟨vh, hvh⟩ : ∃ v, v = t.vs[i] := ⟨_, rfl⟩
      rw [← hvh] at k0; have hany : decide (30 < vh.zs.length) = true → t.vs.any ((fun l => decide (30 < l.length)) ∘ Vh.zs) = true := fun h => List.any_eq_true.2 ⟨t.vs[i], List.getElem_mem hil, by rw [← hvh]; exact h⟩; have hnon : decide (30 < vh.zs.length) = false → (t.vs.take (i + 1)).any ((fun l => decide (30 < l.length)) ∘ Vh.zs) = false := fun h => any_take15 hil HN.out (by rw [← hvh]; exact h); have HANY := Lib.hid hany; have HNON := Lib.hid hnon; clear hvh kz hany hnon; have hwi : wrap64 ((i : Int) + 1) = (i : Int) + 1 := by unfold wrap64; omega
      have HI := Lib.hid hil; have HWI := Lib.hid hwi; cases hb : decide (30 < vh.zs.length) with
      | true =>
       have q4 : decide ((30 : Int) < (vh.zs.length : Int)) = true := by have := of_decide_eq_true hb; exact decide_eq_true (by omega)
       have HE : Hid (res = false) := Lib.hid (by
        have := HANY.out hb; rw [HRES2.out, this]; rfl)
       clear hi hb; go_wp2; go_ret; exact ⟨by first | (rw [HE.out]; done) | (rw [HE.out]; rfl), HB0.out⟩
      | false =>
       have q4 : decide ((30 : Int) < (vh.zs.length : Int)) = false := by have := of_decide_eq_false hb; exact decide_eq_false (by omega)
       have HN2 : Hid ((t.vs.take (i + 1)).any ((fun l => decide (30 < l.length)) ∘ Vh.zs) = false) := Lib.hid (HNON.out hb); clear hi hb; go_wp2; go_roundw
       case rel => exact ⟨i + 1, HI.out, (by first | rfl | (rw [HWI.out]; rfl)), (by first | trivial | rfl), HN2⟩
       case measure => (try rw [HWI.out]); exact meas_step HI.out
     ·obtain rfl : i = t.vs.length := Nat.le_antisymm hi (Nat.le_of_not_lt hil); have HRES3 : Hid (res = !(t.rs.any ((fun r => decide (30 < r.1.length)) ∘ Rh.rw_))) := Lib.hid (by
       have h := HN.out; rw [List.take_length] at h; rw [HRES2.out, h]; rfl)
      clear hi hil HN; go_wp2; go_loopw [38] (fun iv wr => ∃ i : Nat, i ≤ t.rs.length ∧ iv = .int .i64 i ∧ w0 = wr ∧ Hid ((t.rs.take i).any ((fun r => decide (30 < r.1.length)) ∘ Rh.rw_) = false)) (fun iv _ => t.rs.length - (intOf iv).toNat)
      case atStart => exact ⟨0, Nat.zero_le _, rfl, rfl, Lib.hid rfl⟩
      case round =>
       obtain ⟨i, hi, rfl, rfl, HN⟩ := hrel; by_cases hil : i < t.rs.length
       ·obtain ⟨b, o, rfl, -, k0, -, kz⟩ := HTR.out.rows.at_ hil; obtain ⟨vh, hvh⟩ : ∃ v, v = t.rs[i] := ⟨_, rfl⟩
        rw [← hvh] at k0; have hany : decide (30 < vh.zs.length) = true → t.rs.any ((fun r => decide (30 < r.1.length)) ∘ Rh.rw_) = true := fun h => List.any_eq_true.2 ⟨t.rs[i], List.getElem_mem hil, by rw [← hvh]; exact h⟩; have hnon : decide (30 < vh.zs.length) = false → (t.rs.take (i + 1)).any ((fun r => decide (30 < r.1.length)) ∘ Rh.rw_) = false := fun h => any_take15 hil HN.out (by rw [← hvh]; exact h); have HANY := Lib.hid hany; have HNON := Lib.hid hnon; clear hvh kz hany hnon; have hwi : wrap64 ((i : Int) + 1) = (i : Int) + 1 := by unfold wrap64; omega
        have HI := Lib.hid hil; have HWI := Lib.hid hwi; cases hb : decide (30 < vh.zs.length) with
        | true =>
         have q4 : decide ((30 : Int) < (vh.zs.length : Int)) = true := by have := of_decide_eq_true hb; exact decide_eq_true (by omega)
         have HE : Hid (res = false) := Lib.hid (by
          have := HANY.out hb; rw [HRES3.out, this]; rfl)
         clear hi hb; go_wp2; go_ret; exact ⟨by first | (rw [HE.out]; done) | (rw [HE.out]; rfl), HB0.out⟩
        | false =>
         have q4 : decide ((30 : Int) < (vh.zs.length : Int)) = false := by have := of_decide_eq_false hb; exact decide_eq_false (by omega)
         have HN2 : Hid ((t.rs.take (i + 1)).any ((fun r => decide (30 < r.1.length)) ∘ Rh.rw_) = false) := Lib.hid (HNON.out hb); clear hi hb; go_wp2; go_roundw
         case rel => exact ⟨i + 1, HI.out, (by first | rfl | (rw [HWI.out]; rfl)), (by first | trivial | rfl), HN2⟩
         case measure => (try rw [HWI.out]); exact meas_step HI.out
       ·obtain rfl : i = t.rs.length := Nat.le_antisymm hi (Nat.le_of_not_lt hil); have HE : Hid (res = true) := Lib.hid (by
         have h := HN.out; rw [List.take_length] at h; rw [HRES3.out, h]; rfl)
        clear hi hil HN; go_wp2; go_ret; exact ⟨by first | (rw [HE.out]; done) | (rw [HE.out]; rfl), HB0.out⟩
def tinyM (st : Int) : Nat := (max 1 (min st 9)).toNat
def tinyB (t : TabL) : Bool := decide (tinyM t.st ^ t.hood.length ≤ 1024) && few11 t
theorem tinyM_rng (st : Int) : 1 ≤ tinyM st ∧ tinyM st ≤ 9 ∧ max 1 (min st 9) = (tinyM st : Int) := by
 unfold tinyM; omega
set_option maxHeartbeats 8000000 in
theorem tiny_any (hA : Option Addr) (hc : Nat) (vA : Option Addr) (vc : Nat) (rA : Option Addr) (rc : Nat) (t : TabH) (w : World) (hT : TabR w hA vA rA t) :
  Calls Tryd.prog 11 #[tabV hA hc vA vc rA rc t] w fun e w' => e = .returned (.bool (tinyB t.tab)) ∧ Below w.heap.size w w' := by
 obtain ⟨w0, hw0⟩ : ∃ w0, w0 = w.alloc (.cells #[.int .i64 t.st, .int .i64 t.sym, .slice hA t.hood.length hc, .slice vA t.vs.length vc, .slice rA t.rs.length rc] 31) := ⟨_, rfl⟩
 have hb0 : Below w.heap.size w w0 := by rw [hw0]; exact below_new _ _
 have p0 : Blk w0 w.heap.size 31 #[.int .i64 t.st, .int .i64 t.sym, .slice hA t.hood.length hc, .slice vA t.vs.length vc, .slice rA t.rs.length rc] := by rw [hw0]; exact Blk.new _ _ _
 have HCALL := Lib.hid (few11_any hA hc vA vc rA rc t w0 (hT.ext hb0)); have HB0 := Lib.hid hb0; have HW0 := Lib.hid hw0; have hh9 : t.hood.length ≤ 9223372036854775807 := hT.hood.le; obtain ⟨m, hm⟩ : ∃ m, m = tinyM t.st := ⟨_, rfl⟩
 obtain ⟨m1, m9, hmm⟩ := tinyM_rng t.st; rw [← hm] at m1 m9 hmm; have HM := Lib.hid (And.intro m1 m9); obtain ⟨res, hres⟩ : ∃ res, res = tinyB t.tab := ⟨_, rfl⟩
 rw [← hres]; unfold tinyB at hres; rw [show t.tab.st = t.st from rfl, show t.tab.hood = t.hood from rfl, ← hm] at hres; have HRES := Lib.hid hres; have x0 := p0.cell_ 0 (.int .i64 t.st) rfl; have x1 := p0.cell_ 1 (.int .i64 t.sym) rfl; have x2 := p0.cell_ 2 (.slice hA t.hood.length hc) rfl; have x3 := p0.cell_ 3 (.slice vA t.vs.length vc) rfl; have x4 := p0.cell_ 4 (.slice rA t.rs.length rc) rfl; unfold tabV at HCALL ⊢; clear hb0 p0 hw0 hT hres hm m1 m9; go_enter Tryd.func11, Tryd.ntmps11; go_upto_region 1 with fail
 rw [← HW0.out]; go_wp2; go_loopw [3, 7] (fun nv iv wr => ∃ i : Nat, i ≤ t.hood.length ∧ nv = .int .i64 ((m ^ i : Nat) : Int) ∧ iv = .int .i64 i ∧ w0 = wr ∧ Hid (m ^ i ≤ 1024)) (fun _ iv _ => t.hood.length - (intOf iv).toNat)
 case atStart => exact ⟨0, Nat.zero_le _, (by first | rfl | (rw [Nat.pow_zero]; rfl)), rfl, rfl, Lib.hid (by rw [Nat.pow_zero]; decide)⟩
 case round =>
  obtain ⟨i, hi, rfl, rfl, rfl, HN⟩ := hrel; by_cases hil : i < t.hood.length
  ·have hwi : wrap64 ((i : Int) + 1) = (i : Int) + 1 := by unfold wrap64; omega
   have HI := Lib.hid hil; have HWI := Lib.hid hwi; obtain ⟨n, hn⟩ : ∃ n, n = m ^ i := ⟨_, rfl⟩
   have hn1 : n * m ≤ 1024 * 9 := Nat.mul_le_mul (by rw [hn]; exact HN.out) HM.out.2; have hps : m ^ (i + 1) = n * m := by rw [hn, Nat.pow_succ]
   have hw : wrap64 ((n : Int) * (m : Int)) = ((n * m : Nat) : Int) := by rw [← Int.natCast_mul]; unfold wrap64; omega
   obtain ⟨nn, hnn⟩ : ∃ nn, nn = n * m := ⟨_, rfl⟩
   rw [← hnn] at hn1 hps hw; have HPS := Lib.hid hps; rw [← hn]; clear hi hn hps hnn; by_cases hb : 1024 < nn
   ·have q1 : decide ((1024 : Int) < (nn : Int)) = true := decide_eq_true (by omega); have HE : Hid (res = false) := Lib.hid (by
     have h1 : m ^ (i + 1) ≤ m ^ t.hood.length := Nat.pow_le_pow_right (by have := HM.out; omega) HI.out; rw [HPS.out] at h1; rw [HRES.out, decide_eq_false (by omega), Bool.false_and])
    clear hb hn1; go_wp2; go_ret; exact ⟨by first | (rw [HE.out]; done) | (rw [HE.out]; rfl), HB0.out⟩
   ·have q1 : decide ((1024 : Int) < (nn : Int)) = false := decide_eq_false (by omega); have HN2 : Hid (m ^ (i + 1) ≤ 1024) := Lib.hid (by rw [HPS.out]; omega); clear hb hn1; go_wp2; go_roundw
    case rel => exact ⟨i + 1, HI.out, (by first | rfl | (rw [HPS.out]; done) | (rw [HPS.out]; rfl) | (rw [HPS.out, hw])), (by first | rfl | (rw [HWI.out]; rfl)), (by first | trivial | rfl), HN2⟩
    case measure => (try rw [HWI.out]); exact meas_step HI.out
  ·obtain rfl : i = t.hood.length := Nat.le_antisymm hi (Nat.le_of_not_lt hil); have HE : Hid (res = few11 t.tab) := Lib.hid (by rw [HRES.out, decide_eq_true HN.out, Bool.true_and]); obtain ⟨n, hn⟩ : ∃ n, n = m ^ t.hood.length := ⟨_, rfl⟩
   rw [← hn]; clear hi hil hn; go_wp2_with (go_at_call 31; refine HCALL.out.mono ?_; rintro e w2 ⟨rfl, hb2⟩; refine Hid.out ?_); refine Lib.hid ?_; have HB2 := Lib.hid (HB0.out.trans (hb2.mono HB0.out.size)); clear hb2; go_wp2; go_ret; exact ⟨by first | (rw [HE.out]; done) | (rw [HE.out]; rfl), HB2.out⟩
end Go.Proofs.YtlegfdllipkggaaDoor
