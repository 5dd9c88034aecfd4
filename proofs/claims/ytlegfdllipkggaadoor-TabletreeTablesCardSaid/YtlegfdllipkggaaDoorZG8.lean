/-
  cellularref12.Value: where the root leads to. Where the tree is valid and the states are as many as its levels.
  Rows of a rule table, and lists of numbers in a slice, as they lie in memory. No condition.
  tabletree.Table in plain lists: the rows of a tree. No condition.
  tabletree.same. No condition.
  The walker of tabletree.Table in memory: the tree, the centre, the elements, the rows. No condition.
  The closure of (*walker).walk: an element is chosen, the walk goes on, the element is taken away. Where the walk does what it says.
-/
import Derived.Test.YtlegfdllipkggaaDoorZG3
import Derived.Test.YtlegfdllipkggaaDoorZG7
import Derived.Test.YtlegfdllipkggaaDoorZG1
namespace Go.Proofs.YtlegfdllipkggaaDoor
open Go.RowKit
set_option maxRecDepth 100000
set_option linter.unusedVariables false
set_option linter.unusedSimpArgs false

set_option maxHeartbeats 4000000 in
theorem val12_any (st : Int) (A : Option Addr) (n c : Nat) (B : Option Addr) (d : Nat) (hs : List Hd) (Av : Option Addr) (cv : Nat) (ins : List Nat) (w : World) (hN : Nds w B hs) (hv : Ints w Av (ins.map fun (s : Nat) => (s : Int)))
  (q : Nat) (hV : VNd q (hs.map Hd.nd)) (hp : 0 < hs.length) (hroot : (ndAt (hs.map Hd.nd) (hs.length - 1)).1 = (ins.length : Int)) (hq : ∀ s ∈ ins, s < q) :
  Calls Tryd.prog 37 #[.agg #[.int .i64 st, .slice A n c, .slice B hs.length d], .slice Av ins.length cv] w fun e w' => e = .returned (.int .i64 (val (hs.map Hd.nd) ((hs.length - 1 : Nat) : Int) ins)) ∧ Below w.heap.size w w' := by
 obtain ⟨w0, hw0⟩ : ∃ w0, w0 = w.alloc (.cells #[.int .i64 st, .slice A n c, .slice B hs.length d] 25) := ⟨_, rfl⟩
 have hb0 : Below w.heap.size w w0 := by rw [hw0]; exact below_new _ _
 have p0 : Blk w0 w.heap.size 25 #[.int .i64 st, .slice A n c, .slice B hs.length d] := by rw [hw0]; exact Blk.new _ _ _
 have hlN := hN.le
 have hlI := hv.le
 rw [List.length_map] at hlI
 obtain ⟨N1, hN1⟩ : ∃ N1, N1 = hs.length - 1 := ⟨_, rfl⟩
 have hwN : wrap64 ((hs.length : Int) - 1) = (N1 : Int) := by unfold wrap64; omega
 have HN1 : Hid (N1 < hs.length) := Lib.hid (by omega)
 rw [← hN1] at hroot ⊢
 obtain ⟨r, hr⟩ : ∃ r, r = val (hs.map Hd.nd) (N1 : Int) ins := ⟨_, rfl⟩
 rw [← hr]
 have HR := Lib.hid hr
 have HRT := Lib.hid hroot
 have HV := Lib.hid hV
 have HQ := Lib.hid hq
 have HB0 := Lib.hid hb0
 have HP0 := Lib.hid p0
 have HW0 := Lib.hid hw0
 have HN := Lib.hid (hN.ext hb0)
 have HI := Lib.hid (hv.ext hb0)
 have HLI := Lib.hid hlI
 have c2 := p0.cell_ 2 (.slice B hs.length d) rfl
 clear hb0 p0 hw0 hN hv hV hp hroot hq hr hN1 hlN hlI
 go_enter Tryd.func37, Tryd.ntmps37
 go_upto_region 1 with fail
 rw [← HW0.out]
 go_wp2
 clear c2
 go_loopw [5, 6] (fun kv iv wr => ∃ (cur : Int) (i : Nat), kv = .int .i64 cur ∧ iv = .int .i64 i ∧ i ≤ ins.length ∧ Hid (Below w0.heap.size w0 wr) ∧ Hid (val (hs.map Hd.nd) cur (ins.drop i) = r) ∧ Hid (i < ins.length → 0 ≤ cur ∧ cur.toNat < hs.length ∧ (ndAt (hs.map Hd.nd) cur.toNat).1 = ((ins.length - i : Nat) : Int))) (fun _ iv _ => ins.length - (intOf iv).toNat)
 case atStart => exact ⟨(N1 : Int), 0, (by first | rfl | (rw [hwN])), rfl, Nat.zero_le _, Lib.hid (Below.refl _ _), Lib.hid HR.out.symm, Lib.hid (fun _ => ⟨Int.natCast_nonneg _, by rw [Int.toNat_natCast]; exact HN1.out, by rw [Int.toNat_natCast]; exact HRT.out⟩)⟩
 case round =>
  obtain ⟨cur, i, rfl, rfl, hi, HBR, HVL, HC⟩ := hrel
  clear hwN
  have c2 := (HP0.out.below HBR.out HP0.out.lt).cell_ 2 (.slice B hs.length d) rfl
  by_cases hil : i < ins.length
  ·have hwi : wrap64 ((i : Int) + 1) = (i : Int) + 1 := by have := HLI.out; unfold wrap64; omega
   obtain ⟨k0, k1, k2⟩ := HC.out hil
   obtain ⟨kn, hkn⟩ : ∃ kn : Nat, cur = kn := ⟨cur.toNat, (Int.toNat_of_nonneg k0).symm⟩
   subst hkn
   rw [Int.toNat_natCast] at k1 k2
   have hk1' : kn < (hs.map Hd.nd).length := by rw [List.length_map]; exact k1
   obtain ⟨b, o, e, -, g0, g1, gz⟩ := (HN.out.ext HBR.out).at_ k1
   have hnd := ndl_at hs k1
   have hzl := HV.out.lev.len kn hk1'
   have hkids := HV.out.lev.kids kn hk1'
   obtain ⟨x, hx⟩ : ∃ x, x = hs[kn] := ⟨_, rfl⟩
   rw [← hx] at g0 g1 gz hnd
   obtain ⟨lv, zA, zc, zs⟩ := x
   dsimp only at g0 g1 gz
   change ndAt (hs.map Hd.nd) kn = (lv, zs) at hnd
   rw [hnd] at hzl hkids k2
   dsimp only at hzl hkids k2
   have hil2 : i < (ins.map fun (s : Nat) => (s : Int)).length := by rw [List.length_map]; exact hil
   obtain ⟨b2, o2, e2, -, gi⟩ := (HI.out.ext HBR.out).at_ hil2
   rw [List.getElem_map] at gi
   have hsq := HQ.out _ (List.getElem_mem hil)
   have hdrop := List.drop_eq_getElem_cons hil
   obtain ⟨s, hs'⟩ : ∃ s, s = ins[i] := ⟨_, rfl⟩
   rw [← hs'] at gi hsq hdrop
   have hsz : s < zs.length := by rw [hzl]; exact hsq
   obtain ⟨b3, o3, e3, -, gk⟩ := gz.at_ hsz
   have hgd : zs.getD s 0 = zs[s] := by rw [List.getD_eq_getElem?_getD, List.getElem?_eq_getElem hsz]; rfl
   obtain ⟨z, hz⟩ : ∃ z, z = zs[s] := ⟨_, rfl⟩
   have hzm : z ∈ zs := by rw [hz]; exact List.getElem_mem hsz
   rw [← hz] at gk hgd
   have hv2 := HVL.out
   rw [hdrop] at hv2
   simp only [val, Int.toNat_natCast, hnd, hgd] at hv2
   have HV2 := Lib.hid hv2
   have HC2 : Hid (i + 1 < ins.length → 0 ≤ z ∧ z.toNat < hs.length ∧ (ndAt (hs.map Hd.nd) z.toNat).1 = ((ins.length - (i + 1) : Nat) : Int)) := Lib.hid (fun h => by
    obtain ⟨m1, m2, m3⟩ := hkids (by omega) z hzm
    rw [List.length_map] at m2
    exact ⟨m1, m2, by omega⟩)
   have HIL := Lib.hid hil
   have hsz2 := hsz
   clear hx hs' hz hzm hkids hdrop hv2 k0 hgd hnd gz k2 hzl hsq hi
   subst e e2 e3
   go_upto_region 5 with fail
   go_quiet (fail)
   go_wp2
   go_roundw
   case rel => exact ⟨z, i + 1, rfl, (by first | rfl | (rw [hwi]; rfl)), HIL.out, (by first | exact HBR | exact Lib.hid (HBR.out.drew) | exact Lib.hid (below_drewN HBR.out _)), HV2, HC2⟩
   case measure => (try rw [hwi]); exact meas_step HIL.out
  ·have hie : i = ins.length := Nat.le_antisymm hi (Nat.le_of_not_lt hil)
   have hv2 := HVL.out
   rw [hie, List.drop_of_length_le (Nat.le_refl _)] at hv2
   have HE : Hid (cur = r) := Lib.hid hv2
   clear hie hv2 hi
   go_wp2
   go_ret
   exact ⟨ret_int (by rw [HE.out]), HB0.out.trans (HBR.out.mono HB0.out.size)⟩
end Go.Proofs.YtlegfdllipkggaaDoor
namespace Go.Proofs.YtlegfdllipkggaaDoor
open Go.RowKit
set_option maxRecDepth 100000
set_option linter.unusedVariables false
set_option linter.unusedSimpArgs false

/-- a row of a table: its elements, its new state -/
abbrev Rw := List Int × Int
/-- a row as it lies -/
structure Rh where
 A : Option Addr
 c : Nat
 zs : List Int
 out : Int
def Rh.val (h : Rh) : Value := .slice h.A h.zs.length h.c
def Rh.cells (h : Rh) : List Value := [.slice h.A h.zs.length h.c, .int .i64 h.out]
def Rh.rw_ (h : Rh) : Rw := (h.zs, h.out)
theorem rh2 : ∀ (hs : List Rh) (k : Nat) (hk : k < hs.length), (hs.flatMap Rh.cells)[2 * k]? = some (.slice hs[k].A hs[k].zs.length hs[k].c) ∧ (hs.flatMap Rh.cells)[2 * k + 1]? = some (.int .i64 hs[k].out)
 | p :: ps, 0, _ => by simp [Rh.cells]
 | p :: ps, k + 1, hk => by
  have h := rh2 ps k (by simpa using hk)
  have e1 : 2 * (k + 1) = (2 * k) + 1 + 1 := by omega
  have e2 : 2 * (k + 1) + 1 = (2 * k + 1) + 1 + 1 := by omega
  simp only [List.flatMap_cons, Rh.cells, List.cons_append, List.nil_append, e1, List.getElem?_cons_succ, List.getElem_cons_succ]
  exact h
theorem rh_len : ∀ hs : List Rh, (hs.flatMap Rh.cells).length = hs.length * 2
 | [] => rfl
 | p :: r => by rw [List.flatMap_cons, List.length_append, rh_len r]; simp [Rh.cells]; omega
/-- the slice at A reads as the rows hs -/
def Rws (w : World) (A : Option Addr) (hs : List Rh) : Prop := Reads w w.heap.size 2 A hs.length (hs.flatMap Rh.cells) ∧ hs.length ≤ 9223372036854775807 ∧ ∀ h ∈ hs, Ints w h.A h.zs
section
variable {w w' : World} {A : Option Addr} {hs : List Rh}
theorem Rws.at_ {k : Nat} (h : Rws w A hs) (hk : k < hs.length) : ∃ b o, A = some ⟨b, o, none⟩ ∧ b < w.heap.size ∧ w.cell? ⟨b, o + k * 2, none⟩ = some (.slice hs[k].A hs[k].zs.length hs[k].c) ∧ w.cell? ⟨b, o + k * 2 + 1, none⟩ = some (.int .i64 hs[k].out) ∧ Ints w hs[k].A hs[k].zs := by
 obtain ⟨ad, e, hb, hc⟩ := h.1.2 (by omega)
 obtain ⟨f1, f2⟩ := rh2 hs k hk
 obtain ⟨f0, _⟩ := rh2 hs 0 (by omega)
 have h0 := hc _ _ f0
 obtain ⟨b, o, sp⟩ := ad
 obtain rfl := spot_none h0
 refine ⟨b, o, e, hb, ?_, ?_, h.2.2 _ (List.getElem_mem hk)⟩
 ·rw [Nat.mul_comm]; have := hc _ _ f1; rwa [addr_add] at this
 ·rw [Nat.mul_comm]; have := hc _ _ f2; rwa [addr_add] at this
theorem Rws.le (h : Rws w A hs) : hs.length ≤ 9223372036854775807 := h.2.1
theorem Rws.ext (h : Rws w A hs) (hb : Below w.heap.size w w') : Rws w' A hs := ⟨(Reads.below h.1 hb).more hb.size, h.2.1, fun x hx => (h.2.2 x hx).ext hb⟩
theorem Rws.drewN (h : Rws w A hs) (n : Nat) : Rws (w.drewN n) A hs := h
theorem Rws.nil : Rws w A [] := ⟨Reads.none_, by simp, fun _ h => absurd h (by simp)⟩
end
/-- v holds the rows hs, in memory from base on; so do the rows' elements -/
def OwnR (T I : TypeId) (w : World) (base : Nat) (v : Value) (hs : List Rh) : Prop := w.ownsRow base T 2 v hs.length (hs.flatMap Rh.cells) ∧ ∀ h ∈ hs, OwnI I w base h.val h.zs
section
variable {T I : TypeId} {w w' : World} {base : Nat} {v : Value} {hs : List Rh}
theorem OwnR.nil (T I : TypeId) (w : World) (base : Nat) : OwnR T I w base (.slice none 0 0) [] := ⟨World.ownsRow_nil _ _ _ _, fun _ h => absurd h (by simp)⟩
theorem OwnR.rws (h : OwnR T I w base v hs) : ∃ A c, v = .slice A hs.length c ∧ Rws w A hs ∧ NewA base A := by
 obtain ⟨A, c, e, h1, h2⟩ := own_form h.1
 exact ⟨A, c, e, ⟨h1.1, h1.2, fun x hx => OwnI.reads (h.2 x hx)⟩, h2⟩
theorem OwnR.ext (h : OwnR T I w base v hs) (hb : Below w.heap.size w w') : OwnR T I w' base v hs := ⟨own_below h.1 hb, fun x hx => (h.2 x hx).ext hb⟩
theorem OwnR.kept (h : OwnR T I w base v hs) {S : Nat → Prop} (hk : Kept S w w') (hv : ∀ g, v.ownBlock = some g → ¬ S g) (hz : ∀ x ∈ hs, ∀ g, x.val.ownBlock = some g → ¬ S g) : OwnR T I w' base v hs :=
 ⟨hk.own h.1 hv, fun x hx => hk.own (h.2 x hx) (hz x hx)⟩
end
/-- a list of numbers in a slice, as it lies -/
structure Vh where
 A : Option Addr
 c : Nat
 zs : List Int
def Vh.val (h : Vh) : Value := .slice h.A h.zs.length h.c
def Vh.cells (h : Vh) : List Value := [.slice h.A h.zs.length h.c]
theorem vh1 : ∀ (hs : List Vh) (k : Nat) (hk : k < hs.length), (hs.flatMap Vh.cells)[k]? = some (.slice hs[k].A hs[k].zs.length hs[k].c)
 | p :: ps, 0, _ => by simp [Vh.cells]
 | p :: ps, k + 1, hk => by
  have h := vh1 ps k (by simpa using hk)
  simp only [List.flatMap_cons, Vh.cells, List.cons_append, List.nil_append, List.getElem?_cons_succ, List.getElem_cons_succ]
  exact h
theorem vh_len : ∀ hs : List Vh, (hs.flatMap Vh.cells).length = hs.length * 1
 | [] => rfl
 | p :: r => by rw [List.flatMap_cons, List.length_append, vh_len r]; simp [Vh.cells]; omega
def Vrs (w : World) (A : Option Addr) (hs : List Vh) : Prop := Reads w w.heap.size 1 A hs.length (hs.flatMap Vh.cells) ∧ hs.length ≤ 9223372036854775807 ∧ ∀ h ∈ hs, Ints w h.A h.zs
section
variable {w w' : World} {A : Option Addr} {hs : List Vh}
theorem Vrs.at_ {k : Nat} (h : Vrs w A hs) (hk : k < hs.length) : ∃ b o, A = some ⟨b, o, none⟩ ∧ b < w.heap.size ∧ w.cell? ⟨b, o + k, none⟩ = some (.slice hs[k].A hs[k].zs.length hs[k].c) ∧ Ints w hs[k].A hs[k].zs := by
 obtain ⟨ad, e, hb, hc⟩ := h.1.2 (by omega)
 have f1 := vh1 hs k hk
 have f0 := vh1 hs 0 (by omega)
 have h0 := hc _ _ f0
 obtain ⟨b, o, sp⟩ := ad
 obtain rfl := spot_none h0
 refine ⟨b, o, e, hb, ?_, h.2.2 _ (List.getElem_mem hk)⟩
 have := hc _ _ f1; rwa [addr_add] at this
theorem Vrs.le (h : Vrs w A hs) : hs.length ≤ 9223372036854775807 := h.2.1
theorem Vrs.ext (h : Vrs w A hs) (hb : Below w.heap.size w w') : Vrs w' A hs := ⟨(Reads.below h.1 hb).more hb.size, h.2.1, fun x hx => (h.2.2 x hx).ext hb⟩
theorem Vrs.drewN (h : Vrs w A hs) (n : Nat) : Vrs (w.drewN n) A hs := h
theorem Vrs.nil : Vrs w A [] := ⟨Reads.none_, by simp, fun _ h => absurd h (by simp)⟩
end
/-- v holds the lists hs, in memory from base on; so do their elements -/
def OwnV (T I : TypeId) (w : World) (base : Nat) (v : Value) (hs : List Vh) : Prop := w.ownsRow base T 1 v hs.length (hs.flatMap Vh.cells) ∧ ∀ h ∈ hs, OwnI I w base h.val h.zs
section
variable {T I : TypeId} {w w' : World} {base : Nat} {v : Value} {hs : List Vh}
theorem OwnV.nil (T I : TypeId) (w : World) (base : Nat) : OwnV T I w base (.slice none 0 0) [] := ⟨World.ownsRow_nil _ _ _ _, fun _ h => absurd h (by simp)⟩
theorem OwnV.vrs (h : OwnV T I w base v hs) : ∃ A c, v = .slice A hs.length c ∧ Vrs w A hs ∧ NewA base A := by
 obtain ⟨A, c, e, h1, h2⟩ := own_form h.1
 exact ⟨A, c, e, ⟨h1.1, h1.2, fun x hx => OwnI.reads (h.2 x hx)⟩, h2⟩
theorem OwnV.ext (h : OwnV T I w base v hs) (hb : Below w.heap.size w w') : OwnV T I w' base v hs := ⟨own_below h.1 hb, fun x hx => (h.2 x hx).ext hb⟩
theorem OwnV.kept (h : OwnV T I w base v hs) {S : Nat → Prop} (hk : Kept S w w') (hv : ∀ g, v.ownBlock = some g → ¬ S g) (hz : ∀ x ∈ hs, ∀ g, x.val.ownBlock = some g → ¬ S g) : OwnV T I w' base v hs :=
 ⟨hk.own h.1 hv, fun x hx => hk.own (h.2 x hx) (hz x hx)⟩
end
/-- a row of numbers, cut to its first m -/
theorem OwnI.cut {I : TypeId} {w : World} {base g n c : Nat} {zs : List Int} (h : OwnI I w base (.slice (some ⟨g, 0, none⟩) n c) zs) (hn : n = zs.length) {m : Nat} (hm : m ≤ n) : OwnI I w base (.slice (some ⟨g, 0, none⟩) m c) (zs.take m) := by
 subst hn
 obtain ⟨h1, h2⟩ := h
 have hl : (zs.take m).length = m := by rw [List.length_take]; exact Nat.min_eq_left hm
 unfold OwnI
 rw [hl]
 refine ⟨by rw [List.length_map, hl, Nat.mul_one], ?_⟩
 rcases h2 with ⟨e, -⟩ | ⟨g', cap, cur, e, h4, h5, h6, h7, h8, h9⟩
 ·cases e
 ·injection e with e1 e2 e3
  injection e1 with e1
  injection e1 with e1
  subst e1 e3
  refine .inr ⟨g, c, cur, rfl, h4, h5, Nat.le_trans hm h6, h7, h8, ?_⟩
  have := congrArg (List.take (m * 1)) h9
  rw [List.take_take, Nat.min_eq_left (by omega), ← List.map_take, Nat.mul_one] at this
  rw [Nat.mul_one]
  exact this
/-- a rule table, its lists as they lie -/
structure TabH where
 st : Int
 sym : Int
 hood : List (Int × Int)
 vs : List Vh
 rs : List Rh
/-- .. in plain lists -/
structure TabL where
 st : Int
 sym : Int
 hood : List (Int × Int)
 vars : List (List Int)
 rows : List Rw
def TabH.tab (t : TabH) : TabL := ⟨t.st, t.sym, t.hood, t.vs.map Vh.zs, t.rs.map Rh.rw_⟩
/-- its five cells -/
def tabV (hA : Option Addr) (hc : Nat) (vA : Option Addr) (vc : Nat) (rA : Option Addr) (rc : Nat) (t : TabH) : Value :=
 .agg #[.int .i64 t.st, .int .i64 t.sym, .slice hA t.hood.length hc, .slice vA t.vs.length vc, .slice rA t.rs.length rc]
structure TabR (w : World) (hA vA rA : Option Addr) (t : TabH) : Prop where
 hood : Pts w hA t.hood
 vars : Vrs w vA t.vs
 rows : Rws w rA t.rs
theorem TabR.ext {w w' : World} {hA vA rA : Option Addr} {t : TabH} (h : TabR w hA vA rA t) (hb : Below w.heap.size w w') : TabR w' hA vA rA t := ⟨h.hood.ext hb, h.vars.ext hb, h.rows.ext hb⟩
end Go.Proofs.YtlegfdllipkggaaDoor
namespace Go.Proofs.YtlegfdllipkggaaDoor
open Go.RowKit
set_option linter.unusedVariables false
set_option linter.unusedSimpArgs false

/-- all elements are the first -/
def sameL (l : List Int) : Bool := l.all fun n => decide (n = l.headD 0)
/-- a row that is left out -/
def skipR (c : Int) (ins : List Int) (out : Int) : Bool := if c < 0 then decide (out = 0) else decide (ins.getD c.toNat 0 = out)
/-- the rows that begin with ins, from node k on, L levels ahead of the new states -/
def rowsT (ns : List Nd) (c : Int) : Nat → List Int → Int → List Rw
 | 0, ins, k => if skipR c ins k = true then [] else [(ins, k)]
 | L + 1, ins, k => if sameL (ndAt ns k.toNat).2 = true then rowsT ns c L (ins ++ [-1 - (ins.length : Int)]) ((ndAt ns k.toNat).2.headD 0)
  else (List.range (ndAt ns k.toNat).2.length).flatMap fun (s : Nat) => rowsT ns c L (ins ++ [(s : Int)]) ((ndAt ns k.toNat).2.getD s 0)
/-- .. of the first j branches -/
def rowsK (ns : List Nd) (c : Int) (L : Nat) (ins l : List Int) (j : Nat) : List Rw := (List.range j).flatMap fun (s : Nat) => rowsT ns c L (ins ++ [(s : Int)]) (l.getD s 0)
theorem rowsK_step (ns : List Nd) (c : Int) (L : Nat) (ins l : List Int) (j : Nat) : rowsK ns c L ins l (j + 1) = rowsK ns c L ins l j ++ rowsT ns c L (ins ++ [(j : Int)]) (l.getD j 0) := by
 unfold rowsK
 rw [List.range_succ, List.flatMap_append]
 simp
theorem rowsK_le (ns : List Nd) (c : Int) (L : Nat) (ins l : List Int) {j m : Nat} (h : j ≤ m) : (rowsK ns c L ins l j).length ≤ (rowsK ns c L ins l m).length := by
 induction m with
 | zero =>
  obtain rfl : j = 0 := by omega
  exact Nat.le_refl _
 | succ m ih =>
  rcases Nat.lt_or_ge m j with h1 | h1
  ·obtain rfl : j = m + 1 := by omega
   exact Nat.le_refl _
  ·rw [rowsK_step, List.length_append]
   have := ih h1
   omega
theorem rowsT_all {ns : List Nd} {c : Int} {L : Nat} {ins : List Int} {k : Int} (h : sameL (ndAt ns k.toNat).2 = true) : rowsT ns c (L + 1) ins k = rowsT ns c L (ins ++ [-1 - (ins.length : Int)]) ((ndAt ns k.toNat).2.headD 0) := by
 rw [rowsT, if_pos h]
theorem rowsT_each {ns : List Nd} {c : Int} {L : Nat} {ins : List Int} {k : Int} (h : sameL (ndAt ns k.toNat).2 = false) : rowsT ns c (L + 1) ins k = rowsK ns c L ins (ndAt ns k.toNat).2 (ndAt ns k.toNat).2.length := by
 rw [rowsT, if_neg (by rw [h]; simp)]
 rfl
theorem sameL_no {l : List Int} {j : Nat} (hj : j < l.length) (h : ¬ l[j] = l.headD 0) : sameL l = false := by
 unfold sameL
 rw [List.all_eq_false]
 exact ⟨l[j], List.getElem_mem hj, by simpa using h⟩
theorem sameL_yes {l : List Int} (h : ∀ j (hj : j < l.length), l[j] = l.headD 0) : sameL l = true := by
 unfold sameL
 rw [List.all_eq_true]
 intro n hn
 obtain ⟨j, hj, rfl⟩ := List.mem_iff_getElem.1 hn
 simpa using h j hj
end Go.Proofs.YtlegfdllipkggaaDoor
namespace Go.Proofs.YtlegfdllipkggaaDoor
open Go.RowKit
set_option maxRecDepth 100000
set_option linter.unusedVariables false
set_option linter.unusedSimpArgs false
set_option maxHeartbeats 4000000 in
theorem samei_any (A : Option Addr) (l : List Int) (c : Nat) (w : World) (ha : Ints w A l) :
  Calls Tryd.prog 51 #[.slice A l.length c] w fun e w' => e = .returned (.bool (sameL l)) ∧ w' = w := by
 have hn := ha.le
 have HA := Lib.hid ha
 clear ha
 go_enter Tryd.func51, Tryd.ntmps51
 go_wp2
 go_loopw [7] (fun iv wr => ∃ (j : Nat), j ≤ l.length ∧ iv = .int .i64 j ∧ wr = w ∧ Hid (∀ i (hi : i < l.length), i < j → l[i] = l.headD 0)) (fun iv _ => l.length - (intOf iv).toNat)
 case atStart => exact ⟨0, Nat.zero_le _, rfl, rfl, Lib.hid (fun i hi h => by omega)⟩
 case round =>
  obtain ⟨j, hj, rfl, rfl, HI⟩ := hrel
  by_cases hjl : j < l.length
  ·have h0 : 0 < l.length := by omega
   obtain ⟨b, o, rfl, -, hc⟩ := HA.out.at_ hjl
   obtain ⟨b', o', e', -, hc0⟩ := HA.out.at_ h0
   obtain ⟨rfl, rfl⟩ : b = b' ∧ o = o' := by injection e' with e'; injection e' with h1 h2; exact ⟨h1, h2⟩
   have hhd : l[0] = l.headD 0 := by
    cases l with
    | nil => exact absurd h0 (by simp)
    | cons x r => rfl
   obtain ⟨x, hx⟩ : ∃ x, x = l[j] := ⟨_, rfl⟩
   obtain ⟨y, hy⟩ : ∃ y, y = l.headD 0 := ⟨_, rfl⟩
   rw [hhd, ← hy, Nat.add_zero] at hc0
   rw [← hx] at hc
   have HX := Lib.hid (And.intro hx hy)
   have HJ := Lib.hid hjl
   have hwj : wrap64 ((j : Int) + 1) = (j : Int) + 1 := by unfold wrap64; omega
   clear e' hhd hx hy
   by_cases e : x = y
   ·have f1 : (x == y) = true := beq_iff_eq.2 e
    have HE := Lib.hid e
    clear e
    go_wp2
    go_roundw
    case rel => exact ⟨j + 1, HJ.out, (by first | rfl | (rw [hwj]; rfl)), (by first | rfl | trivial), Lib.hid (fun i hi h => by
     rcases Nat.lt_or_ge i j with h1 | h1
     ·exact HI.out i hi h1
     ·obtain rfl : i = j := by omega
      rw [← HX.out.1, ← HX.out.2]
      exact HE.out)⟩
    case measure => (try rw [hwj]); exact meas_step HJ.out
   ·have f1 : (x == y) = false := beq_false_of_ne e
    have HNO : Hid (sameL l = false) := Lib.hid (sameL_no HJ.out (by rw [← HX.out.1, ← HX.out.2]; exact e))
    clear e
    go_wp2
    go_ret
    exact ⟨ret_bool (by rw [HNO.out]), rfl⟩
  ·obtain rfl : j = l.length := Nat.le_antisymm hj (Nat.le_of_not_lt hjl)
   have HY : Hid (sameL l = true) := Lib.hid (sameL_yes fun i hi => HI.out i hi hi)
   clear hj hjl
   go_wp2
   go_ret
   exact ⟨ret_bool (by rw [HY.out]), rfl⟩
end Go.Proofs.YtlegfdllipkggaaDoor
namespace Go.Proofs.YtlegfdllipkggaaDoor
set_option linter.unusedSimpArgs false
open Go.RowKit Go.Maps
set_option maxRecDepth 100000
set_option linter.unusedVariables false

abbrev OwnRA (w : World) (base : Nat) (v : Value) (hs : List Rh) : Prop := OwnR 47 3 w base v hs
structure WkW (B p : Nat) (c0 c1 c2 c3 : Value) (iv : Value) (ins : List Int) (rv : Value) (rs : List Rh) (w : World) : Prop where
 blk : Blk w p 59 #[c0, c1, c2, c3, iv, rv]
 ir : OwnIA w B iv ins
 rr : OwnRA w B rv rs
 ap : ∀ x ∈ rs, ∀ g, iv.ownBlock = some g → x.val.ownBlock ≠ some g
 lo : B ≤ p
/-- the blocks that a step turns -/
def TwkS (p : Nat) (iv rv : Value) (g : Nat) : Prop := g = p ∨ iv.ownBlock = some g ∨ rv.ownBlock = some g
/-- what a step leaves standing -/
structure Mv (p : Nat) (iv rv : Value) (w : World) (iv' rv' : Value) (w' : World) : Prop where
 kept : Kept (TwkS p iv rv) w w'
 hi : ∀ g, iv'.ownBlock = some g → iv.ownBlock = some g ∨ w.heap.size ≤ g
 hr : ∀ g, rv'.ownBlock = some g → rv.ownBlock = some g ∨ w.heap.size ≤ g
section
variable {B p : Nat} {c0 c1 c2 c3 : Value} {iv iv1 iv2 : Value} {ins : List Int} {rv rv1 rv2 : Value} {rs : List Rh} {w w1 w2 : World}
theorem Mv.refl (p : Nat) (iv rv : Value) (w : World) : Mv p iv rv w iv rv w := ⟨Kept.refl _ _, fun g h => .inl h, fun g h => .inl h⟩
theorem Mv.trans (h : Mv p iv rv w iv1 rv1 w1) (k : Mv p iv1 rv1 w1 iv2 rv2 w2) : Mv p iv rv w iv2 rv2 w2 := by
 have hs := h.kept.below.size
 refine ⟨⟨h.kept.below.trans k.kept.below, fun g hg hn => ?_⟩, fun g e => ?_, fun g e => ?_⟩
 ·refine (k.kept.block g (Nat.lt_of_lt_of_le hg hs) fun h2 => ?_).trans (h.kept.block g hg hn)
  rcases h2 with h2 | h2 | h2
  ·exact hn (.inl h2)
  ·rcases h.hi g h2 with h3 | h3
   ·exact hn (.inr (.inl h3))
   ·omega
  ·rcases h.hr g h2 with h3 | h3
   ·exact hn (.inr (.inr h3))
   ·omega
 ·rcases k.hi g e with h3 | h3
  ·exact h.hi g h3
  ·exact .inr (by omega)
 ·rcases k.hr g e with h3 | h3
  ·exact h.hr g h3
  ·exact .inr (by omega)
/-- nothing old was turned -/
theorem Mv.of_new (h : Below w.heap.size w w1) : Mv p iv rv w iv rv w1 := ⟨Kept.of_new _ h, fun g e => .inl e, fun g e => .inl e⟩
theorem WkW.ext (h : WkW B p c0 c1 c2 c3 iv ins rv rs w) (hb : Below w.heap.size w w1) : WkW B p c0 c1 c2 c3 iv ins rv rs w1 := ⟨h.blk.below hb h.blk.lt, h.ir.ext hb, h.rr.ext hb, h.ap, h.lo⟩
theorem WkW.lt_size (h : WkW B p c0 c1 c2 c3 iv ins rv rs w) : B ≤ w.heap.size := Nat.le_trans h.lo (Nat.le_of_lt h.blk.lt)
/-- what stands ahead of the walker stands behind a step -/
theorem WkW.below (h : WkW B p c0 c1 c2 c3 iv ins rv rs w) (m : Mv p iv rv w iv1 rv1 w1) : Below B w w1 := m.kept.to_below h.lt_size fun g hg hs => by
 rcases hs with hs | hs | hs
 ·have := h.lo; omega
 ·have := (own_lt' h.ir hs).2; omega
 ·have := (own_lt' h.rr.1 hs).2; omega
/-- a block that is none of the walker's stands -/
theorem Mv.blk {g : Nat} {T : TypeId} {cs : Array Value} (m : Mv p iv rv w iv1 rv1 w1) (hb : Blk w g T cs) (h1 : g ≠ p) (h2 : iv.ownBlock ≠ some g) (h3 : rv.ownBlock ≠ some g) : Blk w1 g T cs :=
 m.kept.blk hb fun hs => by
  rcases hs with hs | hs | hs
  ·exact h1 hs
  ·exact h2 hs
  ·exact h3 hs
/-- an element is chosen -/
theorem WkW.pushI (h : WkW B p c0 c1 c2 c3 iv ins rv rs w) {z : Int} {iv' : Value} (ho : OwnIA w1 B iv' (ins ++ [z])) (hk : Kept (fun g => iv.ownBlock = some g) w w1) (hn : iv'.ownBlock = iv.ownBlock ∨ ∃ g, iv'.ownBlock = some g ∧ w.heap.size ≤ g) :
  WkW B p c0 c1 c2 c3 iv' (ins ++ [z]) rv rs (w1.setCell ⟨p, 4, none⟩ iv') ∧ Mv p iv rv w iv' rv (w1.setCell ⟨p, 4, none⟩ iv') := by
 have b1 := hk.blk h.blk (own_blk_ne' h.ir h.blk (by decide))
 have r1 : OwnRA w1 B rv rs := OwnR.kept h.rr hk (fun g e1 e2 => own_ne h.ir h.rr.1 (by decide) e2 e1) (fun x hx g e1 e2 => h.ap x hx g e2 e1)
 have k7 : Kept (fun g => g = p) w1 (w1.setCell ⟨p, 4, none⟩ iv') := (Kept.refl (fun g => g = p) w1).setCell (p := ⟨p, 4, none⟩) (Or.inl rfl) iv'
 refine ⟨⟨b1.set_ 4 iv', k7.own ho (fun g e1 e2 => by subst e2; exact own_blk_ne' ho b1 (by decide) e1), OwnR.kept r1 k7 (fun g e1 e2 => by subst e2; exact own_blk_ne' r1.1 b1 (by decide) e1) (fun x hx g e1 e2 => by subst e2; exact own_blk_ne' (r1.2 x hx) b1 (by decide) e1), fun x hx g e1 e2 => ?_, h.lo⟩, ⟨?_, fun g e => ?_, fun g e => .inl e⟩⟩
 ·rcases hn with hn | ⟨g', hg, hs⟩
  ·exact h.ap x hx g (by rw [← hn]; exact e1) e2
  ·rw [hg] at e1
   injection e1 with e1
   have := (own_lt' (h.rr.2 x hx) e2).1
   omega
 ·exact (hk.mono fun g _ e => .inr (.inl e)).setCell (p := ⟨p, 4, none⟩) (.inl (.inl rfl)) iv'
 ·rcases hn with hn | ⟨g', hg, hs⟩
  ·exact .inl (by rw [← hn]; exact e)
  ·rw [hg] at e
   injection e with e
   exact .inr (by omega)
/-- the last elements are taken away -/
theorem WkW.cutI {g n c : Nat} (h : WkW B p c0 c1 c2 c3 (.slice (some ⟨g, 0, none⟩) n c) ins rv rs w) (hn : n = ins.length) {m : Nat} (hm : m ≤ n) :
  WkW B p c0 c1 c2 c3 (.slice (some ⟨g, 0, none⟩) m c) (ins.take m) rv rs (w.setCell ⟨p, 4, none⟩ (.slice (some ⟨g, 0, none⟩) m c)) ∧ Mv p (.slice (some ⟨g, 0, none⟩) n c) rv w (.slice (some ⟨g, 0, none⟩) m c) rv (w.setCell ⟨p, 4, none⟩ (.slice (some ⟨g, 0, none⟩) m c)) := by
 have ho := OwnI.cut h.ir hn hm
 have k7 : Kept (fun g => g = p) w (w.setCell ⟨p, 4, none⟩ (.slice (some ⟨g, 0, none⟩) m c)) := (Kept.refl (fun g => g = p) w).setCell (p := ⟨p, 4, none⟩) (Or.inl rfl) _
 refine ⟨⟨h.blk.set_ 4 _, k7.own ho (fun g e1 e2 => by subst e2; exact own_blk_ne' ho h.blk (by decide) e1), OwnR.kept h.rr k7 (fun g e1 e2 => by subst e2; exact own_blk_ne' h.rr.1 h.blk (by decide) e1) (fun x hx g e1 e2 => by subst e2; exact own_blk_ne' (h.rr.2 x hx) h.blk (by decide) e1), h.ap, h.lo⟩, ⟨k7.mono fun g _ e => .inl e, fun g e => .inl e, fun g e => .inl e⟩⟩
/-- a row is made of the elements -/
theorem WkW.pushR (h : WkW B p c0 c1 c2 c3 iv ins rv rs w) {x : Rh} {rv' : Value} (hI : OwnIA w B x.val x.zs) (ho : OwnRA w1 B rv' (rs ++ [x])) (hk : Kept (fun g => rv.ownBlock = some g) w w1) (hn : rv'.ownBlock = rv.ownBlock ∨ ∃ g, rv'.ownBlock = some g ∧ w.heap.size ≤ g)
  (hx : ∀ g, iv.ownBlock = some g → x.val.ownBlock ≠ some g) :
  WkW B p c0 c1 c2 c3 iv ins rv' (rs ++ [x]) (w1.setCell ⟨p, 5, none⟩ rv') ∧ Mv p iv rv w iv rv' (w1.setCell ⟨p, 5, none⟩ rv') := by
 have b1 := hk.blk h.blk (own_blk_ne' h.rr.1 h.blk (by decide))
 have i1 := hk.own h.ir (fun g e1 e2 => own_ne h.ir h.rr.1 (by decide) e1 e2)
 have k7 : Kept (fun g => g = p) w1 (w1.setCell ⟨p, 5, none⟩ rv') := (Kept.refl (fun g => g = p) w1).setCell (p := ⟨p, 5, none⟩) (Or.inl rfl) rv'
 refine ⟨⟨b1.set_ 5 rv', k7.own i1 (fun g e1 e2 => by subst e2; exact own_blk_ne' i1 b1 (by decide) e1), OwnR.kept ho k7 (fun g e1 e2 => by subst e2; exact own_blk_ne' ho.1 b1 (by decide) e1) (fun y hy g e1 e2 => by subst e2; exact own_blk_ne' (ho.2 y hy) b1 (by decide) e1), fun y hy g e1 => ?_, h.lo⟩, ⟨?_, fun g e => .inl e, fun g e => ?_⟩⟩
 ·rcases List.mem_append.1 hy with hy | hy
  ·exact h.ap y hy g e1
  ·rw [List.mem_singleton.1 hy]; exact hx g e1
 ·exact (hk.mono fun g _ e => .inr (.inr e)).setCell (p := ⟨p, 5, none⟩) (.inl (.inl rfl)) rv'
 ·rcases hn with hn | ⟨g', hg, hs⟩
  ·exact .inl (by rw [← hn]; exact e)
  ·rw [hg] at e
   injection e with e
   exact .inr (by omega)
end
/-- what walk hands back -/
def WkPost (B p : Nat) (c0 c1 c2 c3 : Value) (ins : List Int) (tot : List Rw) (iv rv : Value) (w : World) (e : Ending) (w' : World) : Prop :=
 ∃ b iv' rv' rs', e = .returned (.bool b) ∧ WkW B p c0 c1 c2 c3 iv' ins rv' rs' w' ∧ (b = true → rs'.map Rh.rw_ = tot ∧ tot.length ≤ 400) ∧ (b = false → 400 < tot.length) ∧ Mv p iv rv w iv' rv' w'
end Go.Proofs.YtlegfdllipkggaaDoor
namespace Go.Proofs.YtlegfdllipkggaaDoor
open Go.RowKit Go.Maps
set_option maxRecDepth 100000
set_option linter.unusedVariables false
set_option linter.unusedSimpArgs false
theorem own_capI {w : World} {base : Nat} {v : Value} {zs : List Int} (h : OwnIA w base v zs) (hn : 0 < zs.length) : ∃ g cap, v = .slice (some ⟨g, 0, none⟩) zs.length cap ∧ zs.length ≤ cap := by
 rcases h.2 with ⟨rfl, h0⟩ | ⟨g, cap, cur, rfl, h2⟩
 ·exact absurd hn (by omega)
 ·exact ⟨g, cap, rfl, h2.2.2.1⟩
structure StpJ (V : World) (bs : Nat) (acc : List Int) (xv : Value) (z : Int) (p : Nat) (gB : Nat) (c0 : Value) (c1 : Value) (c2 : Value) (c3 : Value) (rv : Value) (rs : List Rh) (b0 b1 b2 b3 b4 b5 b6 b7 b8 b9 b10 : Bool) (v8 v9 v10 v11 v12 v13 v14 v15 v16 v17 : Value) (w : World) : Prop where
 h0 : b0 = true → v8 = .pointer (some ⟨p, 0, none⟩)
 h1 : b1 = true → v9 = .pointer (some ⟨p, 0, none⟩)
 h2 : b2 = true → v10 = .pointer (some ⟨p, 0, none⟩)
 h3 : b3 = true → v11 = .pointer (some ⟨p, 4, none⟩)
 h4 : b4 = true → v12 = xv
 h5 : b5 = true → v13 = .int .i64 z
 h8 : b8 = true → v16 = .pointer (some ⟨p, 0, none⟩)
 h9 : b9 = true → v17 = .pointer (some ⟨p, 4, none⟩)
 hk : b7 = false → ∀ p : Addr, p.block < V.heap.size → w.cell? p = V.cell? p
 wa : b6 = false → w = V.drew
 wb : b6 = true → b7 = false → v14 = .slice (some ⟨V.heap.size, 0, none⟩) 1 1 ∧ w = V.drew.alloc (.cells #[.int .i64 z] 3)
 wc : b7 = true → b10 = false → ∃ X c, v15 = .slice X (acc.length + 1) c ∧ OwnIA w bs (.slice X (acc.length + 1) c) (acc ++ [z]) ∧ Kept (fun g => xv.ownBlock = some g) V w ∧ ((Value.slice X (acc.length + 1) c).ownBlock = xv.ownBlock ∨ ∃ g, (Value.slice X (acc.length + 1) c).ownBlock = some g ∧ V.heap.size ≤ g)
 wd : b10 = true → ∃ iv1, WkW bs p c0 c1 c2 c3 iv1 (acc ++ [z]) rv rs w ∧ Mv p xv rv V iv1 rv w
 ord2 : b10 = true → b7 = true ∧ b9 = true
 e0 : b10 = false → w.cell? ⟨gB, 0, none⟩ = V.cell? ⟨gB, 0, none⟩
 o2 : b2 = true → b1 = true
 o3 : b3 = true → b2 = true
 o4 : b4 = true → b3 = true
 o6 : b6 = true → b5 = true
 o7 : b7 = true → b4 = true ∧ b6 = true
 o8 : b8 = true → b0 = true
 o9 : b9 = true → b8 = true
structure Stp3J (V : World) (p : Nat) (g : Nat) (nn : Nat) (ic2 : Nat) (b0 b1 b2 b3 b4 b5 b6 b7 b8 b9 : Bool) (v21 v22 v23 v24 v25 v26 v27 v28 v29 : Value) (w : World) : Prop where
 h0 : b0 = true → v21 = .pointer (some ⟨p, 0, none⟩)
 h1 : b1 = true → v22 = .pointer (some ⟨p, 0, none⟩)
 h2 : b2 = true → v23 = .pointer (some ⟨p, 0, none⟩)
 h3 : b3 = true → v24 = .pointer (some ⟨p, 4, none⟩)
 h4 : b4 = true → v25 = .slice (some ⟨g, 0, none⟩) (nn + 1) ic2
 h5 : b5 = true → v26 = .int .i64 (nn : Int)
 h6 : b6 = true → v27 = .slice (some ⟨g, 0, none⟩) nn ic2
 h7 : b7 = true → v28 = .pointer (some ⟨p, 0, none⟩)
 h8 : b8 = true → v29 = .pointer (some ⟨p, 4, none⟩)
 hk : b9 = false → ∀ p : Addr, w.cell? p = V.cell? p
 wa : b9 = false → w = V.drew
 wd : b9 = true → w = V.drew.setCell ⟨p, 4, none⟩ (.slice (some ⟨g, 0, none⟩) nn ic2)
 ord9 : b9 = true → b0 = true ∧ b1 = true ∧ b2 = true ∧ b3 = true ∧ b4 = true ∧ b5 = true ∧ b6 = true ∧ b7 = true ∧ b8 = true
 o8 : b8 = true → b7 = true
set_option maxHeartbeats 16000000 in
theorem step_any (B p gB gK : Nat) (c0 c1 c2 c3 iv : Value) (ins : List Int) (rv : Value) (rs : List Rh) (el nx : Int) (tot : List Rw) (w : World) (hW : WkW B p c0 c1 c2 c3 iv ins rv rs w)
  (h2 : Blk w gB 56 #[.pointer (some ⟨p, 0, none⟩)]) (h3 : Blk w gK 3 #[.int .i64 (ins.length : Int)]) (n2 : gB ≠ p) (n3 : gK ≠ p) (a3 : iv.ownBlock ≠ some gK) (hl : ins.length ≤ 100)
  (hw : ∀ iv1 w1, WkW B p c0 c1 c2 c3 iv1 (ins ++ [el]) rv rs w1 → Mv p iv rv w iv1 rv w1 → Calls Tryd.prog 26 #[.pointer (some ⟨p, 0, none⟩), .int .i64 nx] w1 (WkPost B p c0 c1 c2 c3 (ins ++ [el]) tot iv1 rv w1)) :
  Calls Tryd.prog 50 #[.int .i64 el, .int .i64 nx, .pointer (some ⟨gB, 0, none⟩), .pointer (some ⟨gK, 0, none⟩)] w (WkPost B p c0 c1 c2 c3 ins tot iv rv w) := by
 obtain ⟨iA, ic, ei, -, -⟩ := hW.ir.ints
 subst ei
 have HW := Lib.hid hW
 have H2 := Lib.hid h2
 have H3 := Lib.hid h3
 have HNE := Lib.hid (And.intro n2 (And.intro n3 a3))
 have HWK := Lib.hid hw
 have HAL : Hid (ins.length < 1000000000000) := Lib.hid (by omega)
 have HOWN := Lib.hid hW.ir
 have HBS := Lib.hid hW.lt_size
 have HL2 : Hid (gB < w.heap.size ∧ w.cell? ⟨gB, 0, none⟩ = some (.pointer (some ⟨p, 0, none⟩))) := Lib.hid ⟨h2.lt, h2.cell_ 0 _ rfl⟩
 have HLP : Hid (p < w.heap.size ∧ w.cell? ⟨p, 4, none⟩ = some (.slice iA ins.length ic)) := Lib.hid ⟨hW.blk.lt, hW.blk.cell_ 4 _ rfl⟩
 have HE2 : Hid (¬ (Value.slice iA ins.length ic).ownBlock = some gB) := Lib.hid (own_blk_ne' hW.ir h2 (by decide))
 clear hW h2 h3 n2 n3 a3 hw hl
 go_enter Tryd.func50, Tryd.ntmps50
 go_upto_region 1 with fail
 refine wp_region_J (by kernel_rfl) (fun listed act w' => ∃ b0 b1 b2 b3 b4 b5 b6 b7 b8 b9 b10 v8 v9 v10 v11 v12 v13 v14 v15 v16 v17, listed = #[b0, b1, b2, b3, b4, b5, b6, b7, b8, b9, b10] ∧ act = Act.mk #[.int .i64 el, .int .i64 nx, .pointer (some ⟨gB, 0, none⟩), .pointer (some ⟨gK, 0, none⟩), undef, undef, .bool false, undef, v8, v9, v10, v11, v12, v13, v14, v15, v16, v17, undef, undef, undef, undef, undef, undef, undef, undef, undef, undef, undef, undef, undef] [] ∧ StpJ w B ins (.slice iA ins.length ic) el p gB c0 c1 c2 c3 rv rs b0 b1 b2 b3 b4 b5 b6 b7 b8 b9 b10 v8 v9 v10 v11 v12 v13 v14 v15 v16 v17 w') ?_ ?_ ?_
 ·exact ⟨_, _, _, _, _, _, _, _, _, _, _, _, _, _, _, _, _, _, _, _, _, rfl, rfl, ⟨(by simp), (by simp), (by simp), (by simp), (by simp), (by simp), (by simp), (by simp), (fun _ _ _ => rfl), (fun _ => rfl), (by simp), (by simp), (by simp), (by simp), (fun _ => rfl), (by simp), (by simp), (by simp), (by simp), (by simp), (by simp), (by simp)⟩⟩
 ·rintro i listed act w' hi ⟨b0, b1, b2, b3, b4, b5, b6, b7, b8, b9, b10, v8, v9, v10, v11, v12, v13, v14, v15, v16, v17, rfl, rfl, H⟩
  have hi16 : i < 11 := by
   obtain ⟨-, o, ho, -⟩ := mem_ready.1 hi
   exact (Array.getElem?_eq_some_iff.1 ho).1
  obtain rfl | rfl | rfl | rfl | rfl | rfl | rfl | rfl | rfl | rfl | rfl : i = 0 ∨ i = 1 ∨ i = 2 ∨ i = 3 ∨ i = 4 ∨ i = 5 ∨ i = 6 ∨ i = 7 ∨ i = 8 ∨ i = 9 ∨ i = 10 := by omega
  all_goals simp [mem_ready, Region.binds] at hi
  ·have bSf : b10 = false := by
    cases hb : b10 with
    | false => rfl
    | true => exact absurd (H.o8 (H.o9 (H.ord2 hb).2)) (by simp [hi])
   have cc := (H.e0 bSf).trans HL2.out.2
   clear bSf
   refine wpOp_hidden rfl fun K hK => ?_
   go_wp2
   refine OnlyN.mk (hK.out _ _ ⟨true, _, _, _, _, _, _, _, _, _, _, .pointer (some ⟨p, 0, none⟩), _, _, _, _, _, _, _, _, _, rfl, rfl, ⟨fun _ => rfl, H.h1, H.h2, H.h3, H.h4, H.h5, H.h8, H.h9, H.hk, H.wa, H.wb, H.wc, H.wd, H.ord2, H.e0, H.o2, H.o3, H.o4, H.o6, H.o7, fun h => rfl, H.o9⟩⟩)
  ·have bAf : b7 = false := by
    cases hb : b7 with
    | false => rfl
    | true => exact absurd (H.o2 (H.o3 (H.o4 (H.o7 hb).1))) (by simp [hi])
   have cc := (H.hk bAf ⟨gB, 0, none⟩ HL2.out.1).trans HL2.out.2
   clear bAf
   refine wpOp_hidden rfl fun K hK => ?_
   go_wp2
   refine OnlyN.mk (hK.out _ _ ⟨_, true, _, _, _, _, _, _, _, _, _, _, .pointer (some ⟨p, 0, none⟩), _, _, _, _, _, _, _, _, rfl, rfl, ⟨H.h0, fun _ => rfl, H.h2, H.h3, H.h4, H.h5, H.h8, H.h9, H.hk, H.wa, H.wb, H.wc, H.wd, H.ord2, H.e0, fun h => rfl, H.o3, H.o4, H.o6, H.o7, H.o8, H.o9⟩⟩)
  ·obtain rfl := H.h1 (by simp [hi])
   refine wpOp_hidden rfl fun K hK => ?_
   go_wp2
   refine OnlyN.mk (hK.out _ _ ⟨_, _, true, _, _, _, _, _, _, _, _, _, _, .pointer (some ⟨p, 0, none⟩), _, _, _, _, _, _, _, rfl, rfl, ⟨H.h0, H.h1, fun _ => rfl, H.h3, H.h4, H.h5, H.h8, H.h9, H.hk, H.wa, H.wb, H.wc, H.wd, H.ord2, H.e0, fun _ => (by simp [hi]), fun h => rfl, H.o4, H.o6, H.o7, H.o8, H.o9⟩⟩)
  ·obtain rfl := H.h2 (by simp [hi])
   refine wpOp_hidden rfl fun K hK => ?_
   go_wp2
   refine OnlyN.mk (hK.out _ _ ⟨_, _, _, true, _, _, _, _, _, _, _, _, _, _, .pointer (some ⟨p, 4, none⟩), _, _, _, _, _, _, rfl, rfl, ⟨H.h0, H.h1, H.h2, fun _ => rfl, H.h4, H.h5, H.h8, H.h9, H.hk, H.wa, H.wb, H.wc, H.wd, H.ord2, H.e0, H.o2, fun _ => (by simp [hi]), fun h => rfl, H.o6, H.o7, H.o8, H.o9⟩⟩)
  ·have bAf : b7 = false := by
    cases hb : b7 with
    | false => rfl
    | true => exact absurd (H.o7 hb).1 (by simp [hi])
   obtain rfl := H.h3 (by simp [hi])
   have cc := (H.hk bAf ⟨p, 4, none⟩ HLP.out.1).trans HLP.out.2
   clear bAf
   refine wpOp_hidden rfl fun K hK => ?_
   go_wp2
   refine OnlyN.mk (hK.out _ _ ⟨_, _, _, _, true, _, _, _, _, _, _, _, _, _, _, (.slice iA ins.length ic), _, _, _, _, _, rfl, rfl, ⟨H.h0, H.h1, H.h2, H.h3, fun _ => rfl, H.h5, H.h8, H.h9, H.hk, H.wa, H.wb, H.wc, H.wd, H.ord2, H.e0, H.o2, H.o3, fun _ => (by simp [hi]), H.o6, fun h => ⟨rfl, (H.o7 h).2⟩, H.o8, H.o9⟩⟩)
  ·refine wpOp_hidden rfl fun K hK => ?_
   go_wp2
   refine OnlyN.mk (hK.out _ _ ⟨_, _, _, _, _, true, _, _, _, _, _, _, _, _, _, _, .int .i64 el, _, _, _, _, rfl, rfl, ⟨H.h0, H.h1, H.h2, H.h3, H.h4, fun _ => rfl, H.h8, H.h9, H.hk, H.wa, H.wb, H.wc, H.wd, H.ord2, H.e0, H.o2, H.o3, H.o4, fun h => rfl, H.o7, H.o8, H.o9⟩⟩)
  ·have bAf : b7 = false := by
    cases hb : b7 with
    | false => rfl
    | true => exact absurd (H.o7 hb).2 (by simp [hi])
   obtain rfl := H.h5 (by simp [hi])
   have hw := H.wa (by simp [hi])
   have hA := bAf
   subst hw
   clear bAf
   refine wpOp_hidden rfl fun K hK => ?_
   go_wp2
   refine OnlyN.mk (hK.out _ _ ⟨_, _, _, _, _, _, true, _, _, _, _, _, _, _, _, _, _, .slice (some ⟨w.heap.size, 0, none⟩) 1 1, _, _, _, rfl, rfl, ⟨H.h0, H.h1, H.h2, H.h3, H.h4, H.h5, H.h8, H.h9, fun _ p hp => World.cell?_alloc_lt w _ p hp, fun h => (by cases h), fun _ _ => ⟨rfl, rfl⟩, fun h => absurd h (by rw [hA]; decide), fun h => absurd (H.ord2 h).1 (by rw [hA]; decide), H.ord2, fun _ => World.cell?_alloc_lt w _ _ HL2.out.1, H.o2, H.o3, H.o4, fun _ => (by simp [hi]), fun h => ⟨(H.o7 h).1, rfl⟩, H.o8, H.o9⟩⟩)
  ·obtain rfl := H.h4 (by simp [hi])
   obtain ⟨hv, hw⟩ := H.wb (by simp [hi]) (by simp [hi])
   obtain ⟨Vd, hVd⟩ : ∃ Vd, Vd = World.drew w := ⟨_, rfl⟩
   have hsz : w.heap.size = Vd.heap.size := by rw [hVd]; rfl
   rw [← hVd] at hw
   rw [hsz] at hv
   subst hw
   subst hv
   have hown : OwnIA Vd B (.slice iA ins.length ic) ins := by rw [hVd]; exact HOWN.out
   have hal := HAL.out
   have hws : B ≤ Vd.heap.size := by rw [← hsz]; exact HBS.out
   have HVD := Lib.hid hVd
   have HSZ := Lib.hid hsz
   clear hVd hsz
   refine wpOp_hidden rfl fun K hK => ?_
   refine wpList_pushIk rfl _ _ _ rfl B 3 Tryd.underlying41 Tryd.infoInt _ _ rfl hown _ rfl hal hws ?_
   intro xv' w6 ho6 hk6 hm6
   obtain ⟨xA', xc', hxv', -, -⟩ := ho6.ints
   rw [List.length_append, List.length_singleton] at hxv'
   subst hxv'
   have HO6 := Lib.hid ho6
   have HK6 : Hid (Kept (fun g => Value.ownBlock (.slice iA ins.length ic) = some g) w w6) := Lib.hid (Kept.trans (by rw [HVD.out]; exact (Kept.refl _ w).drew) hk6)
   have HM6 : Hid ((Value.slice xA' (ins.length + 1) xc').ownBlock = Value.ownBlock (.slice iA ins.length ic) ∨ ∃ g, (Value.slice xA' (ins.length + 1) xc').ownBlock = some g ∧ w.heap.size ≤ g) := Lib.hid (by rw [HSZ.out]; exact hm6)
   clear ho6 hk6 hm6 hown hal hws
   go_wp2
   refine OnlyN.mk (hK.out _ _ ⟨_, _, _, _, _, _, _, true, _, _, _, _, _, _, _, _, _, _, .slice xA' (ins.length + 1) xc', _, _, rfl, rfl, ⟨H.h0, H.h1, H.h2, H.h3, H.h4, H.h5, H.h8, H.h9, fun h => (by cases h), fun h => absurd h (by simp [hi]), fun _ h => (by cases h), fun _ _ => ⟨_, _, rfl, HO6.out, HK6.out, HM6.out⟩, fun h => absurd (H.ord2 h).1 (by simp [hi]), fun h => ⟨rfl, (H.ord2 h).2⟩, fun _ => HK6.out.cell HL2.out.1 HE2.out, H.o2, H.o3, H.o4, H.o6, fun _ => (by simp [hi]), H.o8, H.o9⟩⟩)
  ·obtain rfl := H.h0 (by simp [hi])
   refine wpOp_hidden rfl fun K hK => ?_
   go_wp2
   refine OnlyN.mk (hK.out _ _ ⟨_, _, _, _, _, _, _, _, true, _, _, _, _, _, _, _, _, _, _, .pointer (some ⟨p, 0, none⟩), _, rfl, rfl, ⟨H.h0, H.h1, H.h2, H.h3, H.h4, H.h5, fun _ => rfl, H.h9, H.hk, H.wa, H.wb, H.wc, H.wd, H.ord2, H.e0, H.o2, H.o3, H.o4, H.o6, H.o7, fun _ => (by simp [hi]), fun h => rfl⟩⟩)
  ·obtain rfl := H.h8 (by simp [hi])
   refine wpOp_hidden rfl fun K hK => ?_
   go_wp2
   refine OnlyN.mk (hK.out _ _ ⟨_, _, _, _, _, _, _, _, _, true, _, _, _, _, _, _, _, _, _, _, .pointer (some ⟨p, 4, none⟩), rfl, rfl, ⟨H.h0, H.h1, H.h2, H.h3, H.h4, H.h5, H.h8, fun _ => rfl, H.hk, H.wa, H.wb, H.wc, H.wd, fun h => ⟨(H.ord2 h).1, rfl⟩, H.e0, H.o2, H.o3, H.o4, H.o6, H.o7, H.o8, fun _ => (by simp [hi])⟩⟩)
  ·obtain rfl := H.h9 (by simp [hi])
   obtain ⟨xA', xc', hv, ho6, hk6, hm6⟩ := H.wc (by simp [hi]) (by simp [hi])
   subst hv
   have b6 := hk6.blk HW.out.blk (own_blk_ne' HW.out.ir HW.out.blk (by decide))
   have cx6 := b6.cell_ 4 _ rfl
   have fx6 := b6.frozen 4
   clear b6
   have HPOST := Lib.hid (HW.out.pushI ho6 hk6 hm6)
   clear ho6 hk6 hm6
   refine wpOp_hidden rfl fun K hK => ?_
   go_wp2
   refine OnlyN.mk (hK.out _ _ ⟨_, _, _, _, _, _, _, _, _, _, true, _, _, _, _, _, _, _, _, _, _, rfl, rfl, ⟨H.h0, H.h1, H.h2, H.h3, H.h4, H.h5, H.h8, H.h9, fun h => absurd h (by simp [hi]), fun h => absurd h (by simp [hi]), fun _ h => absurd h (by simp [hi]), fun _ h => (by cases h), fun _ => ⟨_, HPOST.out⟩, fun _ => (by simp [hi]), fun h => (by cases h), H.o2, H.o3, H.o4, H.o6, H.o7, H.o8, H.o9⟩⟩)
 ·rintro listed act w' hr ⟨b0, b1, b2, b3, b4, b5, b6, b7, b8, b9, b10, v8, v9, v10, v11, v12, v13, v14, v15, v16, v17, rfl, rfl, H⟩
  have hn := List.eq_nil_iff_forall_not_mem.1 hr
  have r0 := hn 0
  simp [mem_ready, Region.binds] at r0
  subst r0
  have r1 := hn 1
  simp [mem_ready, Region.binds] at r1
  subst r1
  have r2 := hn 2
  simp [mem_ready, Region.binds] at r2
  subst r2
  have r3 := hn 3
  simp [mem_ready, Region.binds] at r3
  subst r3
  have r4 := hn 4
  simp [mem_ready, Region.binds] at r4
  subst r4
  have r5 := hn 5
  simp [mem_ready, Region.binds] at r5
  subst r5
  have r6 := hn 6
  simp [mem_ready, Region.binds] at r6
  subst r6
  have r7 := hn 7
  simp [mem_ready, Region.binds] at r7
  subst r7
  have r8 := hn 8
  simp [mem_ready, Region.binds] at r8
  subst r8
  have r9 := hn 9
  simp [mem_ready, Region.binds] at r9
  subst r9
  have r10 := hn 10
  simp [mem_ready, Region.binds] at r10
  subst r10
  try dsimp only
  obtain ⟨iv1, hw1, hm1⟩ := H.wd rfl
  obtain ⟨v1, rfl⟩ : ∃ v1 : World, v1 = w' := ⟨_, rfl⟩
  have HW1 := Lib.hid hw1
  have HM1 := Lib.hid hm1
  clear H hr hn hw1 hm1 HOWN HAL HBS HL2 HLP
  have HN2 : Hid (∀ iv' rv' w1, Mv p (.slice iA ins.length ic) rv w iv' rv' w1 → Blk w1 gB 56 #[.pointer (some ⟨p, 0, none⟩)] ∧ Blk w1 gK 3 #[.int .i64 (ins.length : Int)]) := Lib.hid (fun iv' rv' w1 m =>
   ⟨m.blk H2.out HNE.out.1 HE2.out (own_blk_ne' HW.out.rr.1 H2.out (by decide)), m.blk H3.out HNE.out.2.1 HNE.out.2.2 (own_blk_ne' HW.out.rr.1 H3.out (by decide))⟩)
  have hcall := HWK.out iv1 v1 HW1.out HM1.out
  have HCALL := Lib.hid hcall
  have cB := (HN2.out _ _ _ HM1.out).1.cell_ 0 (.pointer (some ⟨p, 0, none⟩)) rfl
  clear hcall HWK
  go_wp2_with (go_at_call 26; refine HCALL.out.mono ?_; rintro e v2 ⟨b, iv2, rv2, rs2, rfl, hw2, ht2, hf2, hm2⟩; refine Hid.out ?_)
  refine Lib.hid ?_
  obtain ⟨g, ic2, e2, hcap⟩ := own_capI hw2.ir (by rw [List.length_append, List.length_singleton]; exact Nat.succ_pos _)
  rw [List.length_append, List.length_singleton] at e2 hcap
  subst e2
  have HM2 := Lib.hid (HM1.out.trans hm2)
  have HW2 := Lib.hid hw2
  have HT2 := Lib.hid (And.intro ht2 hf2)
  have HCAP := Lib.hid hcap
  have HLB : Hid (v2.cell? ⟨gB, 0, none⟩ = some (.pointer (some ⟨p, 0, none⟩)) ∧ v2.cell? ⟨gK, 0, none⟩ = some (.int .i64 (ins.length : Int))) := Lib.hid ⟨(HN2.out _ _ _ HM2.out).1.cell_ 0 _ rfl, (HN2.out _ _ _ HM2.out).2.cell_ 0 _ rfl⟩
  have HLI : Hid (v2.cell? ⟨p, 4, none⟩ = some (.slice (some ⟨g, 0, none⟩) (ins.length + 1) ic2) ∧ v2.frozen? ⟨p, 4, none⟩ = false) := Lib.hid ⟨hw2.blk.cell_ 4 _ rfl, hw2.blk.frozen 4⟩
  clear cB hw2 ht2 hf2 hm2 hcap HCALL HN2
  go_upto_region 3 with fail
  refine wp_region_J (by kernel_rfl) (fun listed act w' => ∃ b0 b1 b2 b3 b4 b5 b6 b7 b8 b9 v21 v22 v23 v24 v25 v26 v27 v28 v29, listed = #[b0, b1, b2, b3, b4, b5, b6, b7, b8, b9] ∧ act = Act.mk #[.int .i64 el, .int .i64 nx, .pointer (some ⟨gB, 0, none⟩), .pointer (some ⟨gK, 0, none⟩), undef, undef, .bool false, .bool b, v8, v9, v10, v11, v12, v13, v14, v15, v16, v17, .pointer (some ⟨p, 0, none⟩), .int .i64 nx, .bool b, v21, v22, v23, v24, v25, v26, v27, v28, v29, undef] [] ∧ Stp3J v2 p g ins.length ic2 b0 b1 b2 b3 b4 b5 b6 b7 b8 b9 v21 v22 v23 v24 v25 v26 v27 v28 v29 w') ?_ ?_ ?_
  ·exact ⟨_, _, _, _, _, _, _, _, _, _, _, _, _, _, _, _, _, _, _, rfl, rfl, ⟨(by simp), (by simp), (by simp), (by simp), (by simp), (by simp), (by simp), (by simp), (by simp), (fun _ _ => rfl), (fun _ => rfl), (by simp), (by simp), (by simp)⟩⟩
  ·rintro i listed act w' hi ⟨b0, b1, b2, b3, b4, b5, b6, b7, b8, b9, v21, v22, v23, v24, v25, v26, v27, v28, v29, rfl, rfl, H⟩
   have hi16 : i < 10 := by
    obtain ⟨-, o, ho, -⟩ := mem_ready.1 hi
    exact (Array.getElem?_eq_some_iff.1 ho).1
   obtain rfl | rfl | rfl | rfl | rfl | rfl | rfl | rfl | rfl | rfl : i = 0 ∨ i = 1 ∨ i = 2 ∨ i = 3 ∨ i = 4 ∨ i = 5 ∨ i = 6 ∨ i = 7 ∨ i = 8 ∨ i = 9 := by omega
   all_goals simp [mem_ready, Region.binds] at hi
   ·have b9f : b9 = false := by
     cases hb : b9 with
     | false => rfl
     | true => exact absurd (H.ord9 hb).1 (by simp [hi])
    have cc := (H.hk b9f ⟨gB, 0, none⟩).trans HLB.out.1
    clear b9f
    refine wpOp_hidden rfl fun K hK => ?_
    go_wp2
    refine OnlyN.mk (hK.out _ _ ⟨true, _, _, _, _, _, _, _, _, _, .pointer (some ⟨p, 0, none⟩), _, _, _, _, _, _, _, _, rfl, rfl, ⟨fun _ => rfl, H.h1, H.h2, H.h3, H.h4, H.h5, H.h6, H.h7, H.h8, H.hk, H.wa, H.wd, fun h => ⟨rfl, (H.ord9 h).2.1, (H.ord9 h).2.2.1, (H.ord9 h).2.2.2.1, (H.ord9 h).2.2.2.2.1, (H.ord9 h).2.2.2.2.2.1, (H.ord9 h).2.2.2.2.2.2.1, (H.ord9 h).2.2.2.2.2.2.2.1, (H.ord9 h).2.2.2.2.2.2.2.2⟩, H.o8⟩⟩)
   ·have b9f : b9 = false := by
     cases hb : b9 with
     | false => rfl
     | true => exact absurd (H.ord9 hb).2.1 (by simp [hi])
    have cc := (H.hk b9f ⟨gB, 0, none⟩).trans HLB.out.1
    clear b9f
    refine wpOp_hidden rfl fun K hK => ?_
    go_wp2
    refine OnlyN.mk (hK.out _ _ ⟨_, true, _, _, _, _, _, _, _, _, _, .pointer (some ⟨p, 0, none⟩), _, _, _, _, _, _, _, rfl, rfl, ⟨H.h0, fun _ => rfl, H.h2, H.h3, H.h4, H.h5, H.h6, H.h7, H.h8, H.hk, H.wa, H.wd, fun h => ⟨(H.ord9 h).1, rfl, (H.ord9 h).2.2.1, (H.ord9 h).2.2.2.1, (H.ord9 h).2.2.2.2.1, (H.ord9 h).2.2.2.2.2.1, (H.ord9 h).2.2.2.2.2.2.1, (H.ord9 h).2.2.2.2.2.2.2.1, (H.ord9 h).2.2.2.2.2.2.2.2⟩, H.o8⟩⟩)
   ·have b9f : b9 = false := by
     cases hb : b9 with
     | false => rfl
     | true => exact absurd (H.ord9 hb).2.2.1 (by simp [hi])
    obtain rfl := H.h1 (by simp [hi])
    clear b9f
    refine wpOp_hidden rfl fun K hK => ?_
    go_wp2
    refine OnlyN.mk (hK.out _ _ ⟨_, _, true, _, _, _, _, _, _, _, _, _, .pointer (some ⟨p, 0, none⟩), _, _, _, _, _, _, rfl, rfl, ⟨H.h0, H.h1, fun _ => rfl, H.h3, H.h4, H.h5, H.h6, H.h7, H.h8, H.hk, H.wa, H.wd, fun h => ⟨(H.ord9 h).1, (H.ord9 h).2.1, rfl, (H.ord9 h).2.2.2.1, (H.ord9 h).2.2.2.2.1, (H.ord9 h).2.2.2.2.2.1, (H.ord9 h).2.2.2.2.2.2.1, (H.ord9 h).2.2.2.2.2.2.2.1, (H.ord9 h).2.2.2.2.2.2.2.2⟩, H.o8⟩⟩)
   ·have b9f : b9 = false := by
     cases hb : b9 with
     | false => rfl
     | true => exact absurd (H.ord9 hb).2.2.2.1 (by simp [hi])
    obtain rfl := H.h2 (by simp [hi])
    clear b9f
    refine wpOp_hidden rfl fun K hK => ?_
    go_wp2
    refine OnlyN.mk (hK.out _ _ ⟨_, _, _, true, _, _, _, _, _, _, _, _, _, .pointer (some ⟨p, 4, none⟩), _, _, _, _, _, rfl, rfl, ⟨H.h0, H.h1, H.h2, fun _ => rfl, H.h4, H.h5, H.h6, H.h7, H.h8, H.hk, H.wa, H.wd, fun h => ⟨(H.ord9 h).1, (H.ord9 h).2.1, (H.ord9 h).2.2.1, rfl, (H.ord9 h).2.2.2.2.1, (H.ord9 h).2.2.2.2.2.1, (H.ord9 h).2.2.2.2.2.2.1, (H.ord9 h).2.2.2.2.2.2.2.1, (H.ord9 h).2.2.2.2.2.2.2.2⟩, H.o8⟩⟩)
   ·have b9f : b9 = false := by
     cases hb : b9 with
     | false => rfl
     | true => exact absurd (H.ord9 hb).2.2.2.2.1 (by simp [hi])
    obtain rfl := H.h3 (by simp [hi])
    have cc := (H.hk b9f ⟨p, 4, none⟩).trans HLI.out.1
    clear b9f
    refine wpOp_hidden rfl fun K hK => ?_
    go_wp2
    refine OnlyN.mk (hK.out _ _ ⟨_, _, _, _, true, _, _, _, _, _, _, _, _, _, .slice (some ⟨g, 0, none⟩) (ins.length + 1) ic2, _, _, _, _, rfl, rfl, ⟨H.h0, H.h1, H.h2, H.h3, fun _ => rfl, H.h5, H.h6, H.h7, H.h8, H.hk, H.wa, H.wd, fun h => ⟨(H.ord9 h).1, (H.ord9 h).2.1, (H.ord9 h).2.2.1, (H.ord9 h).2.2.2.1, rfl, (H.ord9 h).2.2.2.2.2.1, (H.ord9 h).2.2.2.2.2.2.1, (H.ord9 h).2.2.2.2.2.2.2.1, (H.ord9 h).2.2.2.2.2.2.2.2⟩, H.o8⟩⟩)
   ·have b9f : b9 = false := by
     cases hb : b9 with
     | false => rfl
     | true => exact absurd (H.ord9 hb).2.2.2.2.2.1 (by simp [hi])
    have cc := (H.hk b9f ⟨gK, 0, none⟩).trans HLB.out.2
    clear b9f
    refine wpOp_hidden rfl fun K hK => ?_
    go_wp2
    refine OnlyN.mk (hK.out _ _ ⟨_, _, _, _, _, true, _, _, _, _, _, _, _, _, _, .int .i64 (ins.length : Int), _, _, _, rfl, rfl, ⟨H.h0, H.h1, H.h2, H.h3, H.h4, fun _ => rfl, H.h6, H.h7, H.h8, H.hk, H.wa, H.wd, fun h => ⟨(H.ord9 h).1, (H.ord9 h).2.1, (H.ord9 h).2.2.1, (H.ord9 h).2.2.2.1, (H.ord9 h).2.2.2.2.1, rfl, (H.ord9 h).2.2.2.2.2.2.1, (H.ord9 h).2.2.2.2.2.2.2.1, (H.ord9 h).2.2.2.2.2.2.2.2⟩, H.o8⟩⟩)
   ·have b9f : b9 = false := by
     cases hb : b9 with
     | false => rfl
     | true => exact absurd (H.ord9 hb).2.2.2.2.2.2.1 (by simp [hi])
    obtain rfl := H.h4 (by simp [hi])
    obtain rfl := H.h5 (by simp [hi])
    have hcap := HCAP.out
    have hcap2 : ins.length ≤ ic2 := Nat.le_of_succ_le hcap
    clear b9f
    refine wpOp_hidden rfl fun K hK => ?_
    go_wp2
    refine OnlyN.mk (hK.out _ _ ⟨_, _, _, _, _, _, true, _, _, _, _, _, _, _, _, _, .slice (some ⟨g, 0, none⟩) ins.length ic2, _, _, rfl, rfl, ⟨H.h0, H.h1, H.h2, H.h3, H.h4, H.h5, fun _ => rfl, H.h7, H.h8, H.hk, H.wa, H.wd, fun h => ⟨(H.ord9 h).1, (H.ord9 h).2.1, (H.ord9 h).2.2.1, (H.ord9 h).2.2.2.1, (H.ord9 h).2.2.2.2.1, (H.ord9 h).2.2.2.2.2.1, rfl, (H.ord9 h).2.2.2.2.2.2.2.1, (H.ord9 h).2.2.2.2.2.2.2.2⟩, H.o8⟩⟩)
   ·have b9f : b9 = false := by
     cases hb : b9 with
     | false => rfl
     | true => exact absurd (H.ord9 hb).2.2.2.2.2.2.2.1 (by simp [hi])
    obtain rfl := H.h0 (by simp [hi])
    clear b9f
    refine wpOp_hidden rfl fun K hK => ?_
    go_wp2
    refine OnlyN.mk (hK.out _ _ ⟨_, _, _, _, _, _, _, true, _, _, _, _, _, _, _, _, _, .pointer (some ⟨p, 0, none⟩), _, rfl, rfl, ⟨H.h0, H.h1, H.h2, H.h3, H.h4, H.h5, H.h6, fun _ => rfl, H.h8, H.hk, H.wa, H.wd, fun h => ⟨(H.ord9 h).1, (H.ord9 h).2.1, (H.ord9 h).2.2.1, (H.ord9 h).2.2.2.1, (H.ord9 h).2.2.2.2.1, (H.ord9 h).2.2.2.2.2.1, (H.ord9 h).2.2.2.2.2.2.1, rfl, (H.ord9 h).2.2.2.2.2.2.2.2⟩, fun _ => rfl⟩⟩)
   ·have b9f : b9 = false := by
     cases hb : b9 with
     | false => rfl
     | true => exact absurd (H.ord9 hb).2.2.2.2.2.2.2.2 (by simp [hi])
    obtain rfl := H.h7 (by simp [hi])
    clear b9f
    refine wpOp_hidden rfl fun K hK => ?_
    go_wp2
    refine OnlyN.mk (hK.out _ _ ⟨_, _, _, _, _, _, _, _, true, _, _, _, _, _, _, _, _, _, .pointer (some ⟨p, 4, none⟩), rfl, rfl, ⟨H.h0, H.h1, H.h2, H.h3, H.h4, H.h5, H.h6, H.h7, fun _ => rfl, H.hk, H.wa, H.wd, fun h => ⟨(H.ord9 h).1, (H.ord9 h).2.1, (H.ord9 h).2.2.1, (H.ord9 h).2.2.2.1, (H.ord9 h).2.2.2.2.1, (H.ord9 h).2.2.2.2.2.1, (H.ord9 h).2.2.2.2.2.2.1, (H.ord9 h).2.2.2.2.2.2.2.1, rfl⟩, fun _ => (by simp [hi])⟩⟩)
   ·obtain rfl := H.h6 (by simp [hi])
    obtain rfl := H.h8 (by simp [hi])
    have hw := H.wa (by simp [hi])
    subst hw
    have cc : (World.drew v2).cell? ⟨p, 4, none⟩ = some (.slice (some ⟨g, 0, none⟩) (ins.length + 1) ic2) := HLI.out.1
    have cf : (World.drew v2).frozen? ⟨p, 4, none⟩ = false := HLI.out.2
    refine wpOp_hidden rfl fun K hK => ?_
    go_wp2
    refine OnlyN.mk (hK.out _ _ ⟨_, _, _, _, _, _, _, _, _, true, _, _, _, _, _, _, _, _, _, rfl, rfl, ⟨H.h0, H.h1, H.h2, H.h3, H.h4, H.h5, H.h6, H.h7, H.h8, fun h => (by cases h), fun h => (by cases h), fun _ => rfl, fun _ => ⟨(by simp [hi]), (by simp [hi]), (by simp [hi]), (by simp [hi]), (by simp [hi]), (by simp [hi]), (by simp [hi]), H.o8 (by simp [hi]), (by simp [hi])⟩, H.o8⟩⟩)
  ·rintro listed act w' hr ⟨b0, b1, b2, b3, b4, b5, b6, b7, b8, b9, v21, v22, v23, v24, v25, v26, v27, v28, v29, rfl, rfl, H⟩
   have hn := List.eq_nil_iff_forall_not_mem.1 hr
   have r0 := hn 0
   simp [mem_ready, Region.binds] at r0
   subst r0
   have r1 := hn 1
   simp [mem_ready, Region.binds] at r1
   subst r1
   have r2 := hn 2
   simp [mem_ready, Region.binds] at r2
   subst r2
   have r3 := hn 3
   simp [mem_ready, Region.binds] at r3
   subst r3
   have r4 := hn 4
   simp [mem_ready, Region.binds] at r4
   subst r4
   have r5 := hn 5
   simp [mem_ready, Region.binds] at r5
   subst r5
   have r6 := hn 6
   simp [mem_ready, Region.binds] at r6
   subst r6
   have r7 := hn 7
   simp [mem_ready, Region.binds] at r7
   subst r7
   have r8 := hn 8
   simp [mem_ready, Region.binds] at r8
   subst r8
   have r9 := hn 9
   simp [mem_ready, Region.binds] at r9
   subst r9
   try dsimp only
   have hwd := H.wd rfl
   obtain ⟨v3, rfl⟩ : ∃ v3 : World, v3 = w' := ⟨_, rfl⟩
   have hdr : Below v2.heap.size v2 (World.drew v2) := (Below.refl _ v2).drew
   obtain ⟨hw3, hm3⟩ := (HW2.out.ext hdr).cutI (m := ins.length) (by rw [List.length_append, List.length_singleton]) (Nat.le_succ _)
   rw [List.take_left' rfl, ← hwd] at hw3
   rw [← hwd] at hm3
   have HW3 := Lib.hid hw3
   have HM3 := Lib.hid (HM2.out.trans ((Mv.of_new hdr).trans hm3))
   clear H hr hn hwd hdr hw3 hm3
   go_wp2
   go_ret
   exact ⟨b, _, rv2, rs2, rfl, HW3.out, HT2.out.1, HT2.out.2, HM3.out⟩
end Go.Proofs.YtlegfdllipkggaaDoor
