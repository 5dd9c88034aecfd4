/-
  texts RClsM RClsW RWalkM: parts of the proof; conditions stand with each theorem.
-/
import Derived.Test.YtlegfdllipkggaaDoorYG6
import Derived.Test.YtlegfdllipkggaaDoorYG5
namespace Go.Proofs.YtlegfdllipkggaaDoor
set_option linter.unusedSimpArgs false
open Go.RowKit
set_option maxRecDepth 100000
set_option linter.unusedVariables false

theorem Tryd.infoInts : (Tryd.prog.info? 41).map (fun i => (i.zero, i.size, i.bytes)) = some (some (.slice none 0 0), 1, 24) := by kernel_rfl
theorem wpList_pushS {P : Program} {wr : World} {ops : Array Oper} {rest : List Oper} {o : Oper} {a : Act} {Q : Exit → Act → World → Prop} (hgd : o.guard = none) (s x : Operand) (t : TypeId)
  (ho : o.op = .call { callee := .builtin .append, args := #[s, x], argTypes := #[t, t] })
  (base : Nat) (e : TypeId) (ht : P.underlying t = some (.slice e)) (hi : (P.info? e).map (fun i => (i.zero, i.size, i.bytes)) = some (some (.slice none 0 0), 1, 24))
  (v : Value) (xs : List Value) (hs : a.eval s = v) (hown : wr.ownsRow base e 1 v xs.length xs)
  (A : Option Addr) (n c : Nat) (hx : a.eval x = .slice (some ⟨wr.heap.size, 0, none⟩) 1 1)
  (hn : xs.length < 1000000000000) (hbase : base ≤ wr.heap.size)
  (h : ∀ v' w', w'.ownsRow base e 1 v' (xs.length + 1) (xs ++ [.slice A n c]) → Kept (fun g => v.ownBlock = some g) wr w' → (v'.ownBlock = v.ownBlock ∨ ∃ g, v'.ownBlock = some g ∧ wr.heap.size ≤ g) → wpList P ops Q rest (a.put o.dst v') w') :
  wpList P ops Q (o :: rest) a (wr.alloc (.cells #[.slice A n c] e)) := by
 obtain ⟨i0, hi0, hz0, hz1, hz2⟩ := info_parts hi; refine wpList_append_own_at _ hgd s x t ho base e i0 (.slice none 0 0) 1 24 ht hi0 hz0 hz1 hz2 rfl (by decide) v xs.length _ hs (hown.alloc _) ⟨wr.heap.size, 0, none⟩ 1 1 [.slice A n c] hx (by simp) ?_ (by simp [Value.oneCell']) (by unfold maxLen; omega) (by omega) (by simp; omega) ?_
 ·intro j u hu; rw [addr_add]; have : (wr.alloc (.cells #[.slice A n c] e)).cell? ⟨wr.heap.size, 0 + j, none⟩ = #[Value.slice A n c][0 + j]? := cell_of_row _ _ _ _ _ _ (heap_alloc_new wr _); rw [this]; cases j with
  | zero => simpa using hu
  | succ j => simp at hu
 ·intro v' w' hown' hg _ hat; refine h v' w' hown' (((Kept.refl _ wr).alloc _).grown hg fun g hg => Or.inl hg) ?_; rcases hat with hat | hat
  ·exact .inl hat
  ·exact .inr ⟨_, hat, by simp⟩
structure ClW (B : Nat) (l : List Nd) (k : Nat) (cv nv : Value) (vs : List Hd) (w : World) : Prop where
 cr : OwnIA w B cv (clsTo l k).2
 nr : w.ownsRow B 41 1 nv vs.length (vs.map Hd.val)
 ne : ∀ x ∈ vs, OwnIA w B x.val x.zs
 eq : vs.map Hd.nd = (clsTo l k).1
 ap : ∀ x ∈ vs, ∀ g, x.val.ownBlock = some g → cv.ownBlock ≠ some g
section
variable {B : Nat} {l : List Nd} {k : Nat} {cv nv : Value} {vs : List Hd} {w w' w1 w2 : World}
theorem ClW.ext (h : ClW B l k cv nv vs w) (hb : Below w.heap.size w w') : ClW B l k cv nv vs w' :=
 ⟨h.cr.ext hb, own_below h.nr hb, fun x hx => (h.ne x hx).ext hb, h.eq, h.ap⟩
theorem ClW.start (B : Nat) (l : List Nd) (w : World) : ClW B l 0 (.slice none 0 0) (.slice none 0 0) [] w :=
 ⟨OwnI.nil _ _ _, World.ownsRow_nil _ _ _ _, fun _ h => absurd h (by simp), rfl, fun _ h => absurd h (by simp)⟩
theorem ClW.at_ (h : ClW B l k cv nv vs w) {j : Nat} (hj : j < vs.length) : ∃ A b o c, nv = .slice (some ⟨b, o, none⟩) vs.length c ∧ w.cell? ⟨b, o + j, none⟩ = some (.slice A vs[j].zs.length vs[j].c) ∧ A = vs[j].A ∧ Ints w A vs[j].zs := by
 obtain ⟨A, c, rfl, hr, -⟩ := own_form h.nr; obtain ⟨ad, e, hb, hc⟩ := hr.1.2 (by omega); have h0 := hc 0 _ (by rw [List.getElem?_map, List.getElem?_eq_getElem (by omega : 0 < vs.length)]; rfl); have h1 := hc j _ (by rw [List.getElem?_map, List.getElem?_eq_getElem hj]; rfl); obtain ⟨b, o, sp⟩ := ad; obtain rfl := spot_none h0; rw [addr_add] at h1; subst e; refine ⟨_, b, o, c, rfl, h1, rfl, (h.ne _ (List.getElem_mem hj)).reads⟩
theorem ClW.push (h : ClW B l k cv nv vs w) (hk : k < l.length) {A : Option Addr} {c : Nat} {zs : List Int} {W0 : Nat} (hzs : zs = nxOf (clsTo l k).2 (ndAt l k)) (hx : OwnIA w W0 (.slice A zs.length c) zs) (hB : B ≤ W0) (hcW : ∀ g, cv.ownBlock = some g → g < W0)
  {cv' nv' : Value} (ho : OwnIA w1 B cv' ((clsTo l k).2 ++ [(((posOf (clsTo l k).1 ((ndAt l k).1, zs)).getD k : Nat) : Int)])) (hk1 : Kept (fun g => cv.ownBlock = some g) w w1) (hm1 : Moved cv cv' w)
  (hs : w2.ownsRow B 41 1 nv' (vs.length + 1) (vs.map Hd.val ++ [.slice A zs.length c])) (hk2 : Kept (fun g => nv.ownBlock = some g) w1 w2) :
  ClW B l (k + 1) cv' nv' (vs ++ [⟨(ndAt l k).1, A, c, zs⟩]) w2 := by
 have hlen : (clsTo l k).1.length = k := (clsTo_len l k (by omega)).1; have e2 : (clsTo l (k + 1)) = ((clsTo l k).1 ++ [((ndAt l k).1, zs)], (clsTo l k).2 ++ [(((posOf (clsTo l k).1 ((ndAt l k).1, zs)).getD k : Nat) : Int)]) := by
  rw [clsTo_succ l hk]; unfold clsStep; rw [← hzs, hlen]
 have nr1 : w1.ownsRow B 41 1 nv vs.length (vs.map Hd.val) := hk1.own h.nr (fun g e1 e2 => own_ne h.cr h.nr (by decide) e2 e1); have hxb : OwnIA w B (.slice A zs.length c) zs := hx.down hB; have hnx : ∀ g, (Value.slice A zs.length c).ownBlock = some g → cv.ownBlock ≠ some g := fun g e1 e2 => by
  have := (own_lt' hx e1).2; have := hcW g e2; omega
 refine ⟨?_, ?_, fun x hxm => ?_, ?_, fun x hxm g e1 e2 => ?_⟩
 ·rw [e2]; exact hk2.own ho (fun g e1 e2 => own_ne ho nr1 (by decide) e1 e2)
 ·rw [List.length_append, List.map_append]; exact hs
 ·rcases List.mem_append.1 hxm with hxm | hxm
  ·have h1 := hk1.own (h.ne x hxm) (fun g e1 e2 => h.ap x hxm g e1 e2); exact hk2.own h1 (fun g e1 e2 => own_ne h1 nr1 (by decide) e1 e2)
  ·rw [List.mem_singleton] at hxm; subst hxm; have h1 := hk1.own hxb hnx; exact hk2.own h1 (fun g e1 e2 => own_ne h1 nr1 (by decide) e1 e2)
 ·rw [e2, List.map_append, h.eq]; rfl
 ·have hold : g < w.heap.size ∧ cv.ownBlock ≠ some g := by
   rcases List.mem_append.1 hxm with hxm | hxm
   ·exact ⟨(own_lt' (h.ne x hxm) e1).1, h.ap x hxm g e1⟩
   ·rw [List.mem_singleton] at hxm; subst hxm; exact ⟨(own_lt' hxb e1).1, hnx g e1⟩
  rcases hm1 with hm1 | ⟨g', hm1, hg⟩
  ·rw [hm1] at e2; exact hold.2 e2
  ·rw [hm1] at e2; injection e2 with e2
   omega
end

theorem first_at {N : List Nd} {x : Nd} {j : Nat} (hj : j < N.length) (k : Nat) : ((posOf (N.drop j) x).map (· + j)).getD k = if ndAt N j = x then j else ((posOf (N.drop (j + 1)) x).map (· + (j + 1))).getD k := by
 rw [List.drop_eq_getElem_cons hj, ndAt_get N hj]; rw [show posOf (N[j] :: N.drop (j + 1)) x = if N[j] = x then some 0 else (posOf (N.drop (j + 1)) x).map (· + 1) from rfl]; by_cases h : N[j] = x
 ·rw [if_pos h, if_pos h]
  simp
 ·rw [if_neg h, if_neg h]; cases hp : posOf (N.drop (j + 1)) x with
  | none => rfl
  | some i => simp only [Option.map_some, Option.getD_some]; omega
theorem first_zero (N : List Nd) (x : Nd) (k : Nat) : ((posOf (N.drop 0) x).map (· + 0)).getD k = (posOf N x).getD k := by
 simp
theorem first_end (N : List Nd) (x : Nd) : ((posOf (N.drop N.length) x).map (· + N.length)).getD N.length = N.length := by
 rw [List.drop_length]; rfl
theorem nx_take {tv : List Int} {x : Nd} {m : Nat} (hm : m < x.2.length) : (nxOf tv x).take (m + 1) = (nxOf tv x).take m ++ [if 1 < x.1 then tv.getD (x.2[m]).toNat 0 else x.2[m]] := by
 unfold nxOf; by_cases h : 1 < x.1
 ·rw [if_pos h, if_pos h, List.take_succ_eq_append_getElem (by rw [List.length_map]; exact hm), List.getElem_map]
 ·rw [if_neg h, if_neg h, List.take_succ_eq_append_getElem hm]
theorem nx_len (tv : List Int) (x : Nd) : (nxOf tv x).length = x.2.length := by
 unfold nxOf
 split
 ·exact List.length_map _
 ·rfl
set_option maxHeartbeats 16000000 in
theorem classes_any (B0 : Option Addr) (d : Nat) (hs : List Hd) (w : World) (hN : Nds w B0 hs) {q : Nat} (hv : VNd q (hs.map Hd.nd)) (hL : hs.length ≤ 900000000000) (hq : q ≤ 1000000) :
  Calls Tryd.prog 60 #[.slice B0 hs.length d] w fun e w' => ∃ A c, e = .returned (.slice A hs.length c) ∧ Ints w' A (clsTo (hs.map Hd.nd) hs.length).2 ∧ Below w.heap.size w w' := by
 have HN := Lib.hid hN; have HV := Lib.hid hv; have HL := Lib.hid hL; have HQ := Lib.hid hq; clear hN hv hL hq; go_enter Tryd.func60, Tryd.ntmps60; go_wp2; go_loopw [3, 4, 5] (fun cv nv i wr => ∃ (k : Nat) (vs : List Hd), k ≤ hs.length ∧ i = .int .i64 k ∧ Hid (vs.length = k) ∧ Hid (ClW w.heap.size (hs.map Hd.nd) k cv nv vs wr) ∧ Hid (Below w.heap.size w wr)) (fun _ _ i _ => hs.length - (intOf i).toNat)
 case atStart => exact ⟨0, [], Nat.zero_le _, rfl, Lib.hid rfl, Lib.hid (ClW.start _ _ _), Lib.hid (Below.refl _ _)⟩
 case round =>
  obtain ⟨k, vs, hk, rfl, HVL, HC, HB⟩ := hrel; obtain ⟨Wo, rfl⟩ : ∃ Wo, Wo = wr := ⟨_, rfl⟩
  by_cases hlt : k < hs.length
  ·have hw1 : wrap64 ((k : Int) + 1) = (k : Int) + 1 := by have := HL.out; unfold wrap64; omega
   have hndk := ndl_at hs hlt; obtain ⟨b1, o1, eb1, hb1, -, -, -⟩ := (HN.out.ext HB.out).at_ hlt; obtain ⟨x, hx⟩ : ∃ x, x = hs[k] := ⟨_, rfl⟩
   have hat : ∀ W, Below w.heap.size w W → W.cell? ⟨b1, o1 + k * 2, none⟩ = some (.int .i64 x.lv) ∧ W.cell? ⟨b1, o1 + k * 2 + 1, none⟩ = some (.slice x.A x.zs.length x.c) ∧ Ints W x.A x.zs := fun W hW => by
    obtain ⟨b, o, e, -, h1, h2, h3⟩ := (HN.out.ext hW).at_ hlt; rw [eb1] at e; injection e with e
    injection e with e1 e2
    subst e1 e2; rw [← hx] at h1 h2 h3; exact ⟨h1, h2, h3⟩
   rw [← hx] at hndk; have hlq := HV.out.lev.len k (by rw [List.length_map]; exact hlt); have hkids := HV.out.lev.kids k (by rw [List.length_map]; exact hlt); have hord := HV.out.ordk k (by rw [List.length_map]; exact hlt); obtain ⟨lv, zA, zc, zs⟩ := x; dsimp only at hat; change ndAt (hs.map Hd.nd) k = (lv, zs) at hndk; rw [hndk] at hlq hkids hord; dsimp only at hlq hkids hord; have HND := Lib.hid hndk; have HAT := Lib.hid hat; have HLT := Lib.hid hlt; have HZQ : Hid (zs.length ≤ 1000000) := Lib.hid (by have := HQ.out; omega); have HKID : Hid (1 < lv → ∀ z ∈ zs, 0 ≤ z ∧ z < (k : Int)) := Lib.hid (fun h z hz => ⟨(hkids h z hz).1, hord h z hz⟩); obtain ⟨cl, hcl⟩ : ∃ cl, cl = (clsTo (hs.map Hd.nd) k).2 := ⟨_, rfl⟩
   have hcll : cl.length = k := by rw [hcl]; exact (clsTo_len _ k (by rw [List.length_map]; exact hk)).2
   obtain ⟨cA, cc, rfl, hci, hcn⟩ := HC.out.cr.ints; rw [← hcl] at hci; rw [show (clsTo (hs.map Hd.nd) k).2.length = cl.length from by rw [hcl]] at *; have HCI := Lib.hid hci; have HCL := Lib.hid hcl; have HCLL := Lib.hid hcll; subst eb1; obtain ⟨h0, h1, hzi⟩ := hat Wo HB.out; have HZI := Lib.hid hzi; clear hb1 hx hndk hat hlq hkids hord hcl hcll hci hcn hk hlt hzi; have hlt := HLT.out; go_wp2; clear h0 h1; go_loopw [6, 7] (fun nx s wi => ∃ (m : Nat), m ≤ zs.length ∧ s = .int .i64 m ∧ Hid (OwnIA wi Wo.heap.size nx ((nxOf cl (lv, zs)).take m)) ∧ Hid (Below Wo.heap.size Wo wi)) (fun _ s _ => zs.length - (intOf s).toNat)
   case atStart => exact ⟨0, Nat.zero_le _, rfl, Lib.hid (OwnI.nil _ _ _), Lib.hid (Below.refl _ _)⟩
   case round =>
    obtain ⟨m, hm, rfl, HO, HBI⟩ := hrel; obtain ⟨g0, g1, -⟩ := HAT.out wr (HB.out.trans (HBI.out.mono HB.out.size)); have hwm : wrap64 ((m : Int) + 1) = (m : Int) + 1 := by have := HZQ.out; unfold wrap64; omega
    by_cases hml : m < zs.length
    ·obtain ⟨bz, oz, ez, -, hcm⟩ := (HZI.out.ext HBI.out).at_ hml; have HST := Lib.hid (nx_take (tv := cl) (x := (lv, zs)) hml); have HKM : Hid (1 < lv → 0 ≤ zs[m] ∧ zs[m] < (k : Int)) := Lib.hid (fun h => HKID.out h _ (List.getElem_mem hml)); obtain ⟨z, hz⟩ : ∃ z, z = zs[m] := ⟨_, rfl⟩
     dsimp only at HST; rw [← hz] at hcm HST HKM; subst ez; have hown := HO.out; have hnl : ((nxOf cl (lv, zs)).take m).length < 1000000000000 := by rw [List.length_take]; have := HZQ.out; omega
     clear hz; by_cases hl1 : 1 < lv
     ·have d1 : decide (1 < lv) = true := decide_eq_true hl1; obtain ⟨z0, zk⟩ := HKM.out hl1; have hst := HST.out; rw [if_pos hl1] at hst; obtain ⟨zn, rfl⟩ : ∃ zn : Nat, z = zn := ⟨z.toNat, by omega⟩
      have hznk : zn < cl.length := by have := HCLL.out; omega
      obtain ⟨bc, oc, ec, -, hcc⟩ := (HCI.out.ext HBI.out).at_ hznk; have hget : cl.getD zn 0 = cl[zn] := by rw [List.getD_eq_getElem?_getD, List.getElem?_eq_getElem hznk]; rfl
      rw [Int.toNat_natCast, hget] at hst; obtain ⟨y, hy⟩ : ∃ y, y = cl[zn] := ⟨_, rfl⟩
      rw [← hy] at hcc hst; have HSN := Lib.hid hst; subst ec; clear hl1 z0 zk hst hget hy; go_wp2_with (at_builtin; refine wpList_pushI rfl _ _ _ rfl _ 3 Tryd.underlying41 Tryd.infoInt _ _ rfl hown _ rfl hnl HBI.out.size ?_); intro v' w' ho' hb'; have HO2 : Hid (OwnIA w' Wo.heap.size v' ((nxOf cl (lv, zs)).take (m + 1))) := Lib.hid (by rw [HSN.out]; exact ho'); have HB2 := Lib.hid (HBI.out.trans hb'); clear ho' hb' hown; go_wp2; go_roundw
      case rel => exact ⟨m + 1, hml, (by rw [hwm]; rfl), HO2, HB2⟩
      case measure => rw [hwm]; simp [intOf]; omega
     ·have d1 : decide (1 < lv) = false := decide_eq_false hl1; have hst := HST.out; rw [if_neg hl1] at hst; have HSN := Lib.hid hst; clear hl1 hst; go_wp2_with (at_builtin; refine wpList_pushI rfl _ _ _ rfl _ 3 Tryd.underlying41 Tryd.infoInt _ _ rfl hown _ rfl hnl HBI.out.size ?_); intro v' w' ho' hb'; have HO2 : Hid (OwnIA w' Wo.heap.size v' ((nxOf cl (lv, zs)).take (m + 1))) := Lib.hid (by rw [HSN.out]; exact ho'); have HB2 := Lib.hid (HBI.out.trans hb'); clear ho' hb' hown; go_wp2; go_roundw
      case rel => exact ⟨m + 1, hml, (by rw [hwm]; rfl), HO2, HB2⟩
      case measure => rw [hwm]; simp [intOf]; omega
    ·obtain rfl : m = zs.length := by omega
     have ho9 := HO.out; rw [List.take_of_length_le (by rw [nx_len]; exact Nat.le_refl _)] at ho9; obtain ⟨nxs, hnxs⟩ : ∃ nxs, nxs = nxOf cl (lv, zs) := ⟨_, rfl⟩
     rw [← hnxs] at ho9; have hnxl : nxs.length = zs.length := by rw [hnxs]; exact nx_len _ _
     obtain ⟨xA, xc, rfl, hxi, hxn⟩ := ho9.ints; obtain ⟨N, hN⟩ : ∃ N, N = (clsTo (hs.map Hd.nd) k).1 := ⟨_, rfl⟩
     have hNl : N.length = k := by rw [hN]; exact (clsTo_len _ k (by rw [List.length_map]; exact Nat.le_of_lt HLT.out)).1
     have hNe : vs.map Hd.nd = N := by rw [hN]; exact HC.out.eq
     have HO9 := Lib.hid ho9; have HNX := Lib.hid hnxs; have HNXL := Lib.hid hnxl; have HXI := Lib.hid hxi; have HNN := Lib.hid hN; have HNL := Lib.hid hNl; have HNE := Lib.hid hNe; have HC2 := Lib.hid (HC.out.ext HBI.out); have hwk : wrap64 ((k : Int) - 1) = (k : Int) - 1 := by have := HL.out; have := HLT.out; unfold wrap64; omega
     obtain ⟨W2, rfl⟩ : ∃ W2, W2 = wr := ⟨_, rfl⟩
     clear ho9 hnxs hnxl hxi hxn hN hNl hNe HO; go_wp2; clear g0 g1 hml; go_loopw [9, 10] (fun f j wi => ∃ (t : Nat), t ≤ k ∧ j = .int .i64 ((t : Int) - 1) ∧ f = .int .i64 ((((posOf (N.drop t) (lv, nxs)).map (· + t)).getD k : Nat) : Int) ∧ Hid (Qt W2 wi)) (fun _ j _ => (intOf j + 1).toNat)
     case atStart => exact ⟨k, Nat.le_refl _, (by rw [hwk]), (by rw [← HNL.out, first_end]), Lib.hid (Qt.refl _)⟩
     case round =>
      clear hwk; obtain ⟨t, ht, rfl, rfl, HQT⟩ := hrel; have HBQ := Lib.hid (HQT.out.below W2.heap.size); clear hm; cases t with
      | succ j =>
       have hje : (((j + 1 : Nat) : Int) - 1) = (j : Int) := by omega
       rw [hje]; have hjk : j < k := ht; have hjl : j < hs.length := by have := HLT.out; omega
       have hjv : j < vs.length := by have := HVL.out; omega
       have hjn : j < N.length := by have := HNL.out; omega
       have hwj : wrap64 ((j : Int) - 1) = (j : Int) - 1 := by have := HL.out; unfold wrap64; omega
       have hge : decide ((0 : Int) ≤ (j : Int)) = true := decide_eq_true (by omega); obtain ⟨b', o', e', -, n0, -, -⟩ := (HN.out.ext ((HB.out.trans (HBI.out.mono HB.out.size)).trans (HBQ.out.mono (Nat.le_trans HB.out.size HBI.out.size)))).at_ hjl; injection e' with e'
       injection e' with e1 e2
       subst e1 e2; have hi := ClI.all HV.out k (by rw [List.length_map]; exact Nat.le_of_lt HLT.out); have hlev : (ndAt N j).1 = (hs[j]).lv := by
        have h1 := (hi.eqv j hjk).1; rw [← HNN.out, ndl_at hs hjl] at h1; exact h1
       have hnj : ndAt N j = vs[j].nd := by rw [← HNE.out]; exact nd_at vs hjv
       obtain ⟨vA, bN, oN, cN, rfl, hcN, hvA, hvi⟩ := (HC2.out.ext HBQ.out).at_ hjv; obtain ⟨ly, hly⟩ : ∃ ly, ly = (hs[j]).lv := ⟨_, rfl⟩
       rw [← hly] at n0 hlev; obtain ⟨y, hy⟩ : ∃ y, y = vs[j] := ⟨_, rfl⟩
       rw [← hy] at hcN hvA hvi hnj; obtain ⟨yl, yA, yc, ys⟩ := y; dsimp only at hcN hvA hvi; subst hvA; change ndAt N j = (yl, ys) at hnj; rw [hnj] at hlev; dsimp only at hlev; have hlev := hlev.symm; subst hlev; obtain ⟨m0, m1, -⟩ := HAT.out wr ((HB.out.trans (HBI.out.mono HB.out.size)).trans (HBQ.out.mono (Nat.le_trans HB.out.size HBI.out.size))); have HFA := Lib.hid (first_at (x := (lv, nxs)) hjn k); rw [hnj] at HFA; obtain ⟨fo, hfo⟩ : ∃ fo : Nat, fo = ((posOf (N.drop (j + 1)) (lv, nxs)).map (· + (j + 1))).getD k := ⟨_, rfl⟩
       rw [← hfo] at HFA ⊢; have HVI := Lib.hid hvi; have HJK := Lib.hid hjk; have HJN := Lib.hid hjv; have hnl : nxs.length ≤ 9223372036854775807 := HXI.out.le; clear ht hje hjk hjn hi hnj hly hy hvi hfo; by_cases hl2 : ly = lv
       ·have d1 : (ly == lv) = true := by simp [hl2]
        by_cases hzz : ys = nxs
        ·have HF2 : Hid (((posOf (N.drop j) (lv, nxs)).map (· + j)).getD k = j) := Lib.hid (by rw [HFA.out, if_pos (by rw [hl2, hzz])]); have HCALL := Lib.hid (fun n => rsame_any vA xA ys nxs yc xc (wr.drewN n) (HVI.out.drewN n) ((HXI.out.ext HBQ.out).drewN n)); rw [show decide (ys = nxs) = true from decide_eq_true hzz] at HCALL; clear hl2 hzz; go_wp2; go_quiet ((go_at_call 77; exact Calls.quiet_of (HCALL.out _)))
         go_wp2; go_roundw
         case rel => exact ⟨j, Nat.le_of_lt HJK.out, (by rw [hwj]), (by rw [HF2.out]), Lib.hid (HQT.out.step _)⟩
         case measure => rw [hwj]; all_goals (first | done | (simp [intOf]; done) | (simp [intOf]; omega))
        ·have HF2 : Hid (((posOf (N.drop j) (lv, nxs)).map (· + j)).getD k = fo) := Lib.hid (by rw [HFA.out, if_neg (by rintro h; injection h with h1 h2; exact hzz h2)]); have HCALL := Lib.hid (fun n => rsame_any vA xA ys nxs yc xc (wr.drewN n) (HVI.out.drewN n) ((HXI.out.ext HBQ.out).drewN n)); rw [show decide (ys = nxs) = false from decide_eq_false hzz] at HCALL; clear hl2 hzz; go_wp2; go_quiet ((go_at_call 77; exact Calls.quiet_of (HCALL.out _)))
         go_wp2; go_roundw
         case rel => exact ⟨j, Nat.le_of_lt HJK.out, (by rw [hwj]), (by rw [HF2.out]), Lib.hid (HQT.out.step _)⟩
         case measure => rw [hwj]; all_goals (first | done | (simp [intOf]; done) | (simp [intOf]; omega))
       ·have d1 : (ly == lv) = false := by simpa using hl2
        have HF2 : Hid (((posOf (N.drop j) (lv, nxs)).map (· + j)).getD k = fo) := Lib.hid (by rw [HFA.out, if_neg (by rintro h; injection h with h1 h2; exact hl2 h1)]); clear hl2; go_wp2; go_quiet (fail)
        go_wp2; go_roundw
        case rel => exact ⟨j, Nat.le_of_lt HJK.out, (by rw [hwj]), (by rw [HF2.out]), Lib.hid (HQT.out.step _)⟩
        case measure => rw [hwj]; all_goals (first | done | (simp [intOf]; done) | (simp [intOf]; omega))
      | zero =>
       have hge : decide ((0 : Int) ≤ ((0 : Nat) : Int) - 1) = false := by decide
       obtain ⟨first, hfirst⟩ : ∃ first : Nat, first = ((posOf (N.drop 0) (lv, nxs)).map (· + 0)).getD k := ⟨_, rfl⟩
       rw [← hfirst]; rw [first_zero] at hfirst; have HF := Lib.hid hfirst; clear hfirst ht; have hj0 : (((0 : Nat) : Int) - 1) = -1 := rfl; rw [hj0] at hge ⊢; have HC3 := Lib.hid (HC2.out.ext HBQ.out); have HX3 := Lib.hid (HO9.out.ext HBQ.out); have HB3 := Lib.hid (HBI.out.trans (HBQ.out.mono HBI.out.size)); have hcr : OwnIA wr w.heap.size (.slice cA cl.length cc) cl := by
        have := HC3.out.cr; rw [← HCL.out] at this; exact this
       have hcll : cl.length < 1000000000000 := by have := HCLL.out; have := HLT.out; have := HL.out; omega
       have hws : w.heap.size ≤ wr.heap.size := Nat.le_trans HB.out.size HB3.out.size; clear hj0; go_wp2_with (at_builtin; refine wpList_pushIk rfl _ _ _ rfl w.heap.size 3 Tryd.underlying41 Tryd.infoInt _ _ rfl hcr _ rfl hcll hws ?_); intro cv' w4 ho4 hk4 hm4; have HO4 := Lib.hid ho4; have HK4 := Lib.hid hk4; have HM4 := Lib.hid hm4; have hnr : w4.ownsRow w.heap.size 41 1 u4 (vs.map Hd.val).length (vs.map Hd.val) := by
        rw [List.length_map]; exact HK4.out.own HC3.out.nr (fun g e1 e2 => own_ne HC3.out.cr HC3.out.nr (by decide) e2 e1)
       have hvl : (vs.map Hd.val).length < 1000000000000 := by rw [List.length_map]; have := HVL.out; have := HLT.out; have := HL.out; omega
       have hws4 : w.heap.size ≤ w4.heap.size := Nat.le_trans hws hk4.below.size; clear ho4 hk4 hm4 hcr hcll; go_wp2_with (at_builtin; refine wpList_pushS rfl _ _ _ rfl w.heap.size 41 Tryd.underlying28 Tryd.infoInts _ _ rfl hnr xA nxs.length xc rfl hvl hws4 ?_); intro nv' w5 ho5 hk5 hm5; have HCN : Hid (ClW w.heap.size (hs.map Hd.nd) (k + 1) cv' nv' (vs ++ [⟨lv, xA, xc, nxs⟩]) w5) := Lib.hid (by
        have hp := HC3.out.push (w1 := w4) (w2 := w5) (W0 := Wo.heap.size) (A := xA) (c := xc) (zs := nxs) (cv' := cv') (nv' := nv') (by rw [List.length_map]; exact HLT.out) (by rw [HNX.out, HCL.out, HND.out]) HX3.out HB.out.size (fun g e => (own_lt' HC.out.cr e).1)
         (by
          have h := HO4.out; rw [HND.out]; dsimp only; rw [← HCL.out, ← HNN.out, ← HF.out]; exact h) HK4.out HM4.out ho5 hk5
        rw [HND.out] at hp; exact hp)
       have HBN : Hid (Below w.heap.size w w5) := Lib.hid (((HB.out.trans (HB3.out.mono HB.out.size)).trans (HK4.out.to_below hws (fun g hg e => by have := (own_lt' HC3.out.cr e).2; omega))).trans (hk5.to_below hws4 (fun g hg e => by have := (own_lt' hnr e).2; omega))); clear ho5 hk5 hm5 hnr hvl hws hws4; go_wp2; go_roundw
       case rel => exact ⟨k + 1, vs ++ [⟨lv, xA, xc, nxs⟩], HLT.out, (by rw [hw1]; rfl), Lib.hid (by rw [List.length_append, HVL.out]; rfl), HCN, HBN⟩
       case measure => rw [hw1]; have := HLT.out; simp [intOf]; omega
  ·obtain rfl : k = hs.length := by omega
   obtain ⟨cA, cc, rfl, hci, -⟩ := HC.out.cr.ints; have hcl : (clsTo (hs.map Hd.nd) hs.length).2.length = hs.length := (clsTo_len _ _ (by rw [List.length_map]; exact Nat.le_refl _)).2; have HCI := Lib.hid hci; have HCL := Lib.hid hcl; clear hci hcl; go_wp2; go_ret; exact ⟨cA, cc, by rw [HCL.out] <;> rfl, HCI.out, HB.out⟩

structure RkS (B gd n cap : Nat) (ov : Value) (s : St) (os : List Hd) (w : World) : Prop where
 row : OwnIA w B (.slice (some ⟨gd, 0, none⟩) n cap) (s.1.map (· - 1))
 len : s.1.length = n
 out : OwnNA w B ov os
 eq : os.map Hd.nd = s.2
 apart : ∀ x ∈ os, x.val.ownBlock ≠ some gd
def RkT (gd : Nat) (ov : Value) : Nat → Prop := fun g => g = gd ∨ ov.ownBlock = some g
structure RkC (B gd n cap : Nat) (s2 : St) (W : World) (ov : Value) (os : List Hd) (ov2 : Value) (os2 : List Hd) (w : World) : Prop where
 wk : RkS B gd n cap ov2 s2 os2 w
 kp : Kept (RkT gd ov) W w
 mv : Moved ov ov2 W
 new : NewIn os os2 W
structure RkL (B gd n cap : Nat) (ns : List Nd) (q : Nat) (P : Nat → Prop) (lv : Int) (gX : Nat) (W : World) (ov : Value) (os : List Hd) (st : St) (acc : List Int) (ov1 : Value) (os1 : List Hd) (xv : Value) (wr : World) : Prop where
 wk : RkS B gd n cap ov1 st os1 wr
 iv : Inv q ns P st
 kp : Kept (RkT gd ov) W wr
 mv : Moved ov ov1 W
 G : Blk wr gX 50 #[.int .i64 lv, xv]
 R : OwnIA wr W.heap.size xv acc
 ne : ∀ x ∈ os1, ∀ g, x.val.ownBlock = some g → xv.ownBlock ≠ some g
 new : NewIn os os1 W
 gd_ : gd < W.heap.size
 hX : W.heap.size ≤ gX
 neX : ov1.ownBlock ≠ some gX
section
variable {B gd n cap : Nat} {ns : List Nd} {q : Nat} {P : Nat → Prop} {lv : Int} {gX : Nat} {W : World} {ov : Value} {os : List Hd} {s st : St} {acc : List Int} {ov1 : Value} {os1 : List Hd} {xv : Value} {wr w : World}
theorem RkS.ext (h : RkS B gd n cap ov st os w) (hb : Below w.heap.size w wr) : RkS B gd n cap ov st os wr :=
 ⟨h.row.ext hb, h.len, h.out.ext hb, h.eq, h.apart⟩
theorem RkS.cell (h : RkS B gd n cap ov st os w) {k : Nat} (hk : k < n) : w.cell? ⟨gd, k, none⟩ = some (.int .i64 (st.1.getD k 0 - 1)) ∧ w.frozen? ⟨gd, k, none⟩ = false := by
 have hl := h.len; have := h.row.cellk (k := k) (by rw [List.length_map]; omega); rw [List.getD_eq_getElem?_getD, List.getElem?_map, List.getElem?_eq_getElem (by omega)] at this; rw [List.getD_eq_getElem?_getD, List.getElem?_eq_getElem (by omega)]; exact this
theorem Kept.over {S T : Nat → Prop} {W wr w : World} (h1 : Kept S W wr) (h2 : Kept T wr w) (ht : ∀ g, T g → W.heap.size ≤ g) : Kept S W w :=
 ⟨h1.below.trans h2.below, fun g hg hs => (h2.block g (Nat.lt_of_lt_of_le hg h1.below.size) (fun t => by have := ht g t; omega)).trans (h1.block g hg hs)⟩
theorem Kept.rkT {W wr w : World} (h1 : Kept (RkT gd ov) W wr) (hm : Moved ov ov1 W) (h2 : Kept (RkT gd ov1) wr w) : Kept (RkT gd ov) W w := by
 refine ⟨h1.below.trans h2.below, fun g hg hs => ?_⟩; refine (h2.block g (Nat.lt_of_lt_of_le hg h1.below.size) ?_).trans (h1.block g hg hs); rintro (e | e)
 ·exact hs (.inl e)
 ·rcases hm with hm | ⟨g', hm, hg'⟩
  ·exact hs (.inr (by rw [← hm]; exact e))
  ·rw [hm] at e; injection e with e
   omega
theorem RkC.undrew {s2 : St} {ov2 : Value} {os2 : List Hd} {k : Nat} (h : RkC B gd n cap s2 (W.drewN k) ov1 os1 ov2 os2 w) : RkC B gd n cap s2 W ov1 os1 ov2 os2 w :=
 ⟨h.wk, ⟨⟨h.kp.below.os, h.kp.below.tape, h.kp.below.output, h.kp.below.size, h.kp.below.block⟩, h.kp.block⟩, h.mv, h.new⟩
theorem RkL.drewN (h : RkL B gd n cap ns q P lv gX W ov os st acc ov1 os1 xv wr) (k : Nat) : RkL B gd n cap ns q P lv gX W ov os st acc ov1 os1 xv (wr.drewN k) :=
 ⟨h.wk.ext (below_drewN (Below.refl _ _) _), h.iv, h.kp.drewN k, h.mv, h.G, h.R, h.ne, h.new, h.gd_, h.hX, h.neX⟩
theorem RkL.far (h : RkL B gd n cap ns q P lv gX W ov os st acc ov1 os1 xv wr) : (∀ g, xv.ownBlock = some g → ¬ RkT gd ov1 g) ∧ ¬ RkT gd ov1 gX := by
 refine ⟨fun g e => ?_, ?_⟩
 ·rintro (e2 | e2)
  ·subst e2; have := (own_lt' h.R e).2; have := h.gd_; omega
  ·exact own_ne h.R h.wk.out.1 (by decide) e e2
 ·rintro (e | e)
  ·have := h.gd_; have := h.hX; omega
  ·exact h.neX e
theorem RkL.below (h : RkL B gd n cap ns q P lv gX W ov os st acc ov1 os1 xv wr) (hW : RkS B gd n cap ov s os W) (hBW : B ≤ W.heap.size) : Below B W wr :=
 h.kp.to_below hBW (fun g hg e => by
  rcases e with e | e
  ·have := (own_lt' hW.row (g := gd) rfl).2; omega
  ·have := (own_lt' hW.out.1 e).2; omega)
theorem RkL.start (hW : RkS B gd n cap ov s os W) (hI : Inv q ns P s) {w3 : World} (hb : Below W.heap.size W w3) (hG : Blk w3 gX 50 #[.int .i64 lv, .slice none 0 0]) (hX : W.heap.size ≤ gX) (hgd : gd < W.heap.size) :
  RkL B gd n cap ns q P lv gX W ov os s [] ov os (.slice none 0 0) w3 := by
 refine ⟨hW.ext hb, hI, Kept.of_new _ hb, .inl rfl, hG, OwnI.nil _ _ _, fun x hx g e => by simp [Value.ownBlock], fun x hx => .inl hx, hgd, hX, fun he => ?_⟩; have := (own_lt' hW.out.1 he).1; omega
theorem RkL.call (h : RkL B gd n cap ns q P lv gX W ov os st acc ov1 os1 xv wr) {s2 : St} {ov2 : Value} {os2 : List Hd} {w5 : World} (hi : Inv q ns P s2) (hc : RkC B gd n cap s2 wr ov1 os1 ov2 os2 w5) :
  RkL B gd n cap ns q P lv gX W ov os s2 acc ov2 os2 xv w5 := by
 obtain ⟨f1, f2⟩ := h.far; refine ⟨hc.wk, hi, h.kp.rkT h.mv hc.kp, h.mv.trans hc.mv h.kp.below.size, hc.kp.blk h.G f2, hc.kp.own h.R f1, fun x hx g e => ?_, h.new.trans hc.new h.kp.below.size, h.gd_, h.hX, ?_⟩
 ·rcases hc.new x hx with hx | ⟨g', e', hg⟩
  ·exact h.ne x hx g e
  ·rw [e'] at e; injection e with e
   intro e2; have := (own_lt' h.R e2).1; omega
 ·rcases hc.mv with e | ⟨g, e, hg⟩
  ·rw [e]; exact h.neX
  ·rw [e]; intro e; injection e with e
   have := h.G.lt; omega
theorem RkL.push (h : RkL B gd n cap ns q P lv gX W ov os st acc ov1 os1 xv wr) {z : Int} {xv' : Value} {w6 : World} (ho : OwnIA w6 W.heap.size xv' (acc ++ [z])) (hk : Kept (fun g => xv.ownBlock = some g) wr w6) (hm : Moved xv xv' wr) :
  RkL B gd n cap ns q P lv gX W ov os st (acc ++ [z]) ov1 os1 xv' (w6.setCell ⟨gX, 1, none⟩ xv') := by
 obtain ⟨f1, f2⟩ := h.far; have a1 := hk.own h.wk.row (fun g e1 e2 => f1 g e2 (.inl (by injection e1 with e1; exact e1.symm))); have a2 : OwnNA w6 B ov1 os1 := h.wk.out.kept hk (fun g e1 e2 => f1 g e2 (.inr e1)) (fun x hx g e1 e2 => h.ne x hx g e1 e2); have a3 := hk.blk h.G (own_blk_ne' h.R h.G (by decide)); have k7 : Kept (fun g => g = gX) w6 (w6.setCell ⟨gX, 1, none⟩ xv') := (Kept.refl (fun g => g = gX) w6).setCell (p := ⟨gX, 1, none⟩) (Or.inl rfl) xv'; refine ⟨⟨k7.own a1 (fun g e1 e2 => ?_), h.wk.len, a2.kept k7 (fun g e1 e2 => by subst e2; exact h.neX e1) (fun x hx g e1 e2 => by subst e2; exact own_blk_ne' (a2.2 x hx) a3 (by decide) e1), h.wk.eq, h.wk.apart⟩, h.iv, ?_, h.mv, ?_, k7.own ho (fun g e1 e2 => by subst e2; exact own_blk_ne' ho a3 (by decide) e1), fun x hx g e1 e2 => ?_, h.new, h.gd_, h.hX, h.neX⟩
 ·subst e2; exact own_blk_ne' a1 a3 (by decide) e1
 ·exact (h.kp.over hk (fun g e => (own_lt' h.R e).2)).over k7 (fun g e => by rw [e]; exact h.hX)
 ·exact a3.set_ 1 xv'
 ·rcases hm with hm | ⟨g', hm, hg⟩
  ·rw [hm] at e2; exact h.ne x hx g e1 e2
  ·rw [hm] at e2; injection e2 with e2
   have := (own_lt' (h.wk.out.2 x hx) e1).1; omega
theorem RkL.fin (h : RkL B gd n cap ns q P lv gX W ov os st acc ov1 os1 xv wr) {k : Nat} (hk : k < n) {A : Option Addr} {c : Nat} (hxv : xv = .slice A acc.length c) (hp : 0 < acc.length) (hBW : B ≤ W.heap.size) {w7 : World} (hw7 : w7 = wr.setCell ⟨gd, k, none⟩ (.int .i64 (os1.length : Nat)))
  {v6 : Value} {w6 : World} (hN : OwnNA w6 B v6 (os1 ++ [⟨lv, A, c, acc⟩])) (hK : Kept (fun g => ov1.ownBlock = some g) w7 w6) (hm : Moved ov1 v6 w7) :
  RkC B gd n cap (st.1.set k (st.2.length + 1 : Nat), st.2 ++ [(lv, acc)]) W ov os v6 (os1 ++ [⟨lv, A, c, acc⟩]) w6 := by
 have hlen : st.2.length = os1.length := by rw [← h.wk.eq, List.length_map]
 have k7 : Kept (fun g => g = gd) wr w7 := by rw [hw7]; exact (Kept.refl (fun g => g = gd) wr).setCell (p := ⟨gd, k, none⟩) (Or.inl rfl) _
 have hz7 : wr.heap.size = w7.heap.size := by rw [hw7]; simp [World.setCell]
 have hl := h.wk.len; have r7 : OwnIA w7 B (.slice (some ⟨gd, 0, none⟩) n cap) ((st.1.set k (st.2.length + 1 : Nat)).map (· - 1)) := by
  have := OwnI.set h.wk.row (by rw [List.length_map]; omega) k (os1.length : Nat); rw [← hw7] at this; rw [List.map_set, hlen]; have e : (((os1.length + 1 : Nat) : Int) - 1) = (os1.length : Nat) := by omega
  rw [e]; exact this
 have hne : ∀ g, ov1.ownBlock = some g → g ≠ gd := fun g e e2 => by subst e2; exact own_ne h.wk.row h.wk.out.1 (by decide) rfl e
 refine ⟨⟨hK.own r7 (fun g e1 e2 => hne g e2 (by injection e1 with e1; exact e1.symm)), by rw [List.length_set]; exact hl, hN, by rw [List.map_append, h.wk.eq]; rfl, fun x hx => ?_⟩, ?_, ?_, fun x hx => ?_⟩
 ·rcases List.mem_append.1 hx with hx | hx
  ·exact h.wk.apart x hx
  ·rw [List.mem_singleton] at hx; subst hx; intro e; have e' : xv.ownBlock = some gd := by rw [hxv]; exact e
   have := (own_lt' h.R e').2; have := h.gd_; omega
 ·have k1 : Kept (RkT gd ov1) wr w7 := k7.mono (fun g _ e => .inl e); exact h.kp.rkT h.mv (k1.trans (hK.mono (fun g _ e => .inr e)))
 ·exact h.mv.trans hm (by rw [← hz7]; exact h.kp.below.size)
 ·rcases List.mem_append.1 hx with hx | hx
  ·exact h.new x hx
  ·rw [List.mem_singleton] at hx; subst hx; obtain ⟨g, c', e, hg, -⟩ := h.R.some_ hp; rw [hxv] at e; injection e with e1 e2 e3
   subst e1; exact .inr ⟨g, rfl, hg⟩
end
theorem kidsTo_len {ns : List Nd} {f : Nat} {lv : Int} {zs : List Int} {s : St} : ∀ m, m ≤ zs.length → (kidsTo ns f lv zs s m).2.length = m
 | 0, _ => by rw [kidsTo_zero]; rfl
 | m + 1, hm => by
  by_cases h : 1 < lv
  ·have ih := kidsTo_len (ns := ns) (f := f) (lv := lv) (zs := zs) (s := s) m (by omega); rw [kidsTo_step h (by omega)]; simp [ih]
  ·rw [kidsTo_low _ h]
   simp
   omega
theorem nx_get {cl nxs zs : List Int} {lv : Int} {m zn : Nat} (h : nxs = nxOf cl (lv, zs)) (hl : 1 < lv) (hm : m < zs.length) (hn : m < nxs.length) (hz : zs[m] = (zn : Int)) (hk : zn < cl.length) : nxs[m] = cl[zn] := by
 unfold nxOf at h; rw [if_pos hl] at h; subst h; rw [List.getElem_map]; show cl.getD (zs[m]).toNat 0 = cl[zn]; rw [hz, Int.toNat_natCast, List.getD_eq_getElem?_getD, List.getElem?_eq_getElem hk]; rfl
theorem nx_low {cl nxs zs : List Int} {lv : Int} (h : nxs = nxOf cl (lv, zs)) (hl : ¬ 1 < lv) : nxs = zs := by
 unfold nxOf at h; rw [if_neg hl] at h; exact h
theorem cls_pre (l : List Nd) : ∀ k j, j ≤ k → k ≤ l.length → (clsTo l k).1.take j = (clsTo l j).1 ∧ (clsTo l k).2.take j = (clsTo l j).2
 | 0, j, hj, _ => by
  obtain rfl : j = 0 := by omega
  exact ⟨rfl, rfl⟩
 | k + 1, j, hj, hk => by
  obtain ⟨n1, n2⟩ := clsTo_len l k (by omega); rcases Nat.lt_or_ge j (k + 1) with h1 | h1
  ·obtain ⟨a, b⟩ := cls_pre l k j (by omega) (by omega); rw [clsTo_succ l (by omega)]; unfold clsStep; dsimp only; rw [List.take_append_of_le_length (by omega), List.take_append_of_le_length (by omega)]; exact ⟨a, b⟩
  ·obtain rfl : j = k + 1 := by omega
   obtain ⟨m1, m2⟩ := clsTo_len l (k + 1) hk; rw [List.take_of_length_le (by omega), List.take_of_length_le (by omega)]; exact ⟨rfl, rfl⟩
theorem cls_nd {q : Nat} {l : List Nd} (h : VNd q l) {k : Nat} (hk : k < l.length) : ndAt (clsTo l l.length).1 k = ((ndAt l k).1, nxOf (clsTo l l.length).2 (ndAt l k)) := by
 obtain ⟨a, -⟩ := cls_pre l l.length (k + 1) (by omega) (Nat.le_refl _); obtain ⟨-, b⟩ := cls_pre l l.length k (by omega) (Nat.le_refl _); obtain ⟨n1, n2⟩ := clsTo_len l k (by omega); obtain ⟨m1, m2⟩ := clsTo_len l l.length (Nat.le_refl _); have e1 : ndAt (clsTo l l.length).1 k = ndAt ((clsTo l l.length).1.take (k + 1)) k := by
  unfold ndAt; rw [List.getD_eq_getElem?_getD, List.getD_eq_getElem?_getD, List.getElem?_take_of_lt (by omega)]
 rw [e1, a, clsTo_succ l hk]; unfold clsStep; dsimp only; have e2 : ndAt ((clsTo l k).1 ++ [((ndAt l k).1, nxOf (clsTo l k).2 (ndAt l k))]) k = ((ndAt l k).1, nxOf (clsTo l k).2 (ndAt l k)) := by
  have := ndAt_app_len (clsTo l k).1 ((ndAt l k).1, nxOf (clsTo l k).2 (ndAt l k)); rwa [n1] at this
 rw [e2]
 congr 1
 unfold nxOf; by_cases hl : 1 < (ndAt l k).1
 ·rw [if_pos hl, if_pos hl]; refine List.map_congr_left fun z hz => ?_; have p := h.ordk k hk hl z hz; have p0 := (h.lev.kids k hk hl z hz).1; rw [← b, List.getD_eq_getElem?_getD, List.getD_eq_getElem?_getD, List.getElem?_take_of_lt (by omega)]
 ·rw [if_neg hl, if_neg hl]
end Go.Proofs.YtlegfdllipkggaaDoor
