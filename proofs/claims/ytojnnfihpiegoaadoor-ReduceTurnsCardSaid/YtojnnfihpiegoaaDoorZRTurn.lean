/-
  cellularref13.Turn. No condition but at most nine offsets.
-/
import Derived.Test.YtojnnfihpiegoaaDoorZCq
import Derived.Test.YtojnnfihpiegoaaDoorZExp
import Derived.Test.YtojnnfihpiegoaaDoorZR04
namespace Go.Proofs.YtojnnfihpiegoaaDoor
open Go.RowKit Go.Maps
set_option maxRecDepth 100000
set_option linter.unusedVariables false
set_option linter.unusedSimpArgs false

theorem OwnP.reads {I : TypeId} {w : World} {base : Nat} {A : Option Addr} {n c : Nat} {ps : List (Int × Int)} (h : OwnP I w base (.slice A n c) ps) : Pts w A ps := by
 obtain ⟨A', c', e, hi, -⟩ := h.pts
 injection e with e
 subst e
 exact hi
theorem nil_rowT (B : Nat) (w : World) : w.ownsRow B 25 3 (.slice none 0 0) 0 [] := World.ownsRow_nil _ _ _ _
set_option maxHeartbeats 32000000 in
theorem rturn_any (k st : Int) (A : Option Addr) (c : Nat) (ps : List (Int × Int)) (B : Option Addr) (d : Nat) (hs : List Hd) (w : World) (hp : Pts w A ps) (hN : Nds w B hs) (hl9 : ps.length ≤ 9) :
  Calls Tryd.prog 25 #[.int .i64 k, .agg #[.int .i64 st, .slice A ps.length c, .slice B hs.length d]] w (RetTu k ⟨st, ps, hs.map Hd.nd⟩ w) := by
 obtain ⟨w0, hw0⟩ : ∃ w0, w0 = (w.alloc (.cells #[.int .i64 st, .slice A ps.length c, .slice B hs.length d] 25)).alloc (.cells #[.int .i64 0, .slice none 0 0, .slice none 0 0] 25) := ⟨_, rfl⟩
 have hb1 := below_new w (.cells #[.int .i64 st, .slice A ps.length c, .slice B hs.length d] 25)
 have hb0 : Below w.heap.size w w0 := by rw [hw0]; exact hb1.alloc hb1.size _
 have p0 : Blk w0 w.heap.size 25 #[.int .i64 st, .slice A ps.length c, .slice B hs.length d] := by rw [hw0]; exact (Blk.new w _ _).alloc _
 have q0 : Blk w0 (w.heap.size + 1) 25 #[.int .i64 0, .slice none 0 0, .slice none 0 0] := by
  rw [hw0]
  have := Blk.new (w.alloc (.cells #[.int .i64 st, .slice A ps.length c, .slice B hs.length d] 25)) 25 #[.int .i64 0, .slice none 0 0, .slice none 0 0]
  simpa using this
 have HR := Lib.hid (rright_any st A c ps B d hs w0 (hp.ext hb0) (hN.ext hb0))
 have HP := Lib.hid (hp.ext hb0)
 have HN := Lib.hid (hN.ext hb0)
 have HB0 := Lib.hid hb0
 have HP0 := Lib.hid p0
 have HQ0 := Lib.hid q0
 have HW0 := Lib.hid hw0
 have HL9 := Lib.hid hl9
 have c0 := p0.cell_ 0 (.int .i64 st) rfl
 have c1 := p0.cell_ 1 (.slice A ps.length c) rfl
 have c2 := p0.cell_ 2 (.slice B hs.length d) rfl
 obtain ⟨t, hte⟩ : ∃ t : PT, t = ⟨st, ps, hs.map Hd.nd⟩ := ⟨_, rfl⟩
 rw [← hte]
 have hrt : t.right = rightN st ps (hs.map Hd.nd) := by rw [hte]; rfl
 have htst : t.st = st := by rw [hte]
 have htps : t.ps = ps := by rw [hte]
 have HTE := Lib.hid hte
 clear hb1 hb0 p0 q0 hw0 hp hN hl9 hte
 cases hr : rightN st ps (hs.map Hd.nd) with
 | false =>
  have HRF : Hid (t.right = false) := Lib.hid (by rw [hrt, hr])
  rw [hr] at HR
  clear hr hrt htst htps
  go_enter Tryd.func25, Tryd.ntmps25
  go_upto_region 1 with fail
  rw [← HW0.out]
  go_wp2_with (go_at_call 26; refine HR.out.mono ?_)
  rintro e w1 ⟨rfl, hb⟩
  have q1 := HQ0.out.below hb HQ0.out.lt
  have HQ1 := Lib.hid q1
  have d0 := q1.cell_ 0 (.int .i64 0) rfl
  have d1 := q1.cell_ 1 (.slice none 0 0) rfl
  have d2 := q1.cell_ 2 (.slice none 0 0) rfl
  have f0 := q1.frozen 0
  have f1 := q1.frozen 1
  have f2 := q1.frozen 2
  have HB := Lib.hid (HB0.out.trans (hb.mono HB0.out.size))
  clear q1 hb c0 c1 c2
  go_wp2
  have hq : Blk (((w1.setCell ⟨w.heap.size + 1, 0, none⟩ (.int .i64 0)).setCell ⟨w.heap.size + 1, 1, none⟩ (.slice none 0 0)).setCell ⟨w.heap.size + 1, 2, none⟩ (.slice none 0 0)) (w.heap.size + 1) 25 #[.int .i64 0, .slice none 0 0, .slice none 0 0] := ((HQ1.out.set_ 0 (.int .i64 0)).set_ 1 (.slice none 0 0)).set_ 2 (.slice none 0 0)
  exact bodyPost_ret (results_ct Tryd.results25 _ _ (w.heap.size + 1) 25 #[.int .i64 0, .slice none 0 0, .slice none 0 0] (0, 0) _ rfl hq Tryd.underlying25 rfl Tryd.sizeTree) rfl
   ⟨_, Or.inl ⟨HRF.out, rfl⟩, 0, none, 0, 0, none, 0, 0, rfl, ⟨none, 0, none, 0, [], rfl, Pts.nil, Nds.nil, rfl⟩, ((HB.out.setCell (p := ⟨w.heap.size + 1, 0, none⟩) (Nat.le_succ _) _).setCell (p := ⟨w.heap.size + 1, 1, none⟩) (Nat.le_succ _) _).setCell (p := ⟨w.heap.size + 1, 2, none⟩) (Nat.le_succ _) _⟩
 | true =>
  have hrT : t.right = true := by rw [hrt, hr]
  have HTR := Lib.hid hrT
  have hro := rturn_ok (k := k) hrT
  have HRT := Lib.hid (rturn_te (k := k) hrT)
  have HRG := Lib.hid (hood_rng (rightN_parts hrT).2.2.1)
  have HPT := Lib.hid (rightN_parts hrT)
  rw [htps] at HRG
  rw [htps, htst] at hro HRT
  have HRO := Lib.hid hro
  have HTS := Lib.hid (And.intro htst htps)
  obtain ⟨im, him⟩ : ∃ im, im = ps.map (symP k) := ⟨_, rfl⟩
  rw [← him] at HRO HRT
  have HIM := Lib.hid him
  have HIL : Hid (im.length = ps.length) := Lib.hid (by rw [him, List.length_map])
  rw [hr] at HR
  clear hr hrt htst htps hrT hro him
  go_enter Tryd.func25, Tryd.ntmps25
  go_upto_region 1 with fail
  rw [← HW0.out]
  go_wp2_with (go_at_call 26; refine HR.out.mono ?_; intro e w1 hx9; obtain ⟨rfl, hb⟩ := hx9; refine Hid.out ?_)
  refine Lib.hid ?_
  have HB1 := Lib.hid hb
  clear hb c0 c1 c2
  go_wp2
  go_loopw [6, 7] (fun iv mv wr => ∃ m : Nat, m ≤ ps.length ∧ mv = .int .i64 m ∧ Hid (OwnP 49 wr w0.heap.size iv (im.take m)) ∧ Hid (Below w0.heap.size w0 wr)) (fun _ mv _ => ps.length - (intOf mv).toNat)
  case atStart => exact ⟨0, Nat.zero_le _, rfl, Lib.hid (by rw [List.take_zero]; exact OwnP.nil _ _ _), HB1⟩
  case round =>
   obtain ⟨m, hm, rfl, HOW, HBR⟩ := hrel
   have hwm : wrap64 ((m : Int) + 1) = (m : Int) + 1 := by have := HL9.out; unfold wrap64; omega
   have p1 := HP0.out.below HBR.out HP0.out.lt
   have c1 := p1.cell_ 1 (.slice A ps.length c) rfl
   by_cases hml : m < ps.length
   ·obtain ⟨bp, op, ep, -, g0, g1⟩ := (HP.out.ext HBR.out).at_ hml
    have hrg := HRG.out _ (List.getElem_mem hml)
    have htk : im.take (m + 1) = im.take m ++ [symP k ps[m]] := by
     rw [List.take_succ_eq_append_getElem (by rw [HIL.out]; exact hml)]
     simp [HIM.out]
    obtain ⟨x, hx⟩ : ∃ x, x = ps[m] := ⟨_, rfl⟩
    rw [← hx] at g0 g1 hrg htk
    obtain ⟨x, y⟩ := x
    dsimp only at g0 g1 hrg
    have hap := rapply_any k x y wr (by omega) (by omega)
    obtain ⟨s, hs'⟩ : ∃ s, s = symP k (x, y) := ⟨_, rfl⟩
    rw [← hs'] at hap htk
    obtain ⟨sx, sy⟩ := s
    have HAP := Lib.hid hap
    have HTK := Lib.hid htk
    have HML := Lib.hid hml
    have hlt : (im.take m).length < 1000000000000 := by rw [List.length_take]; have := HL9.out; have := HIL.out; omega
    subst ep
    clear hap htk hx hs' hrg hm p1
    go_wp2_with (go_at_call 31; refine HAP.out.mono ?_; intro e w5 hx9; obtain ⟨rfl, hb5⟩ := hx9; refine Hid.out ?_)
    refine Lib.hid ?_
    have how := HOW.out.ext hb5
    have HB5 : Hid (Below w0.heap.size w0 w5) := Lib.hid (HBR.out.trans (hb5.mono HBR.out.size))
    have hws := HB5.out.size
    clear hb5 g0 g1 c1 HAP
    go_wp2_with (at_builtin; refine wpList_pushP rfl _ _ _ rfl w0.heap.size 49 Tryd.underlying22 Tryd.infoPt _ _ rfl how _ _ rfl hlt hws ?_)
    intro v6 w6 hown hb6
    have HO6 : Hid (OwnP 49 w6 w0.heap.size v6 (im.take (m + 1))) := Lib.hid (by rw [HTK.out]; exact hown)
    have HB6 : Hid (Below w0.heap.size w0 w6) := Lib.hid (HB5.out.trans hb6)
    clear hown hb6 how hws hlt
    go_wp2
    go_roundw
    case rel => exact ⟨m + 1, HML.out, (by first | rfl | (rw [hwm]; rfl)), HO6, HB6⟩
    case measure => (try rw [hwm]); exact meas_step HML.out
   ·have hme : m = ps.length := Nat.le_antisymm hm (Nat.le_of_not_lt hml)
    have how := HOW.out
    rw [hme, ← HIL.out, List.take_of_length_le (Nat.le_refl _)] at how
    obtain ⟨iA, ic, eiv, hip, -⟩ := how.pts
    have hiln : im.length = ps.length := HIL.out
    have hsort := rsort_any iA ic im wr hip (by rw [hiln]; have := HL9.out; omega)
    have HSORT := Lib.hid hsort
    have HIP := Lib.hid hip
    subst eiv
    clear how hip hsort hm hwm p1 HOW hiln
    go_wp2_with (go_at_call 53; refine HSORT.out.mono ?_; intro e w7 hx9; obtain ⟨hA, hc, rfl, hpts, hb7⟩ := hx9; have HHO := Lib.hid hpts; have HHP := Lib.hid (OwnP.reads hpts); have HIP7 := Lib.hid (HIP.out.ext hb7); have HB7 : Hid (Below w0.heap.size w0 w7) := Lib.hid (HBR.out.trans (hb7.mono HBR.out.size)); have HBS := Lib.hid HBR.out.size; clear hpts hb7; refine Hid.out ?_)
    refine Lib.hid ?_
    clear c1 hml hme HSORT
    obtain ⟨hd, hhd⟩ : ∃ hd, hd = sortTo im im.length := ⟨_, rfl⟩
    rw [← hhd] at HHP HHO ⊢
    rw [HIL.out] at hhd
    rw [← hhd] at HRO HRT
    have HHD := Lib.hid hhd
    have HHL : Hid (hd.length = ps.length) := Lib.hid HRO.out.2.2.1
    clear hhd
    go_wp2
    go_loopw [9, 10] (fun ov iv wr => ∃ i : Nat, i ≤ hd.length ∧ iv = .int .i64 i ∧ Hid (OwnIA wr w7.heap.size ov ((odTo im hd i).map fun (p : Nat) => (p : Int))) ∧ Hid ((odTo im hd i).length ≤ 9 * i) ∧ Hid (Below w7.heap.size w7 wr)) (fun _ iv _ => hd.length - (intOf iv).toNat)
    case atStart => exact ⟨0, Nat.zero_le _, rfl, Lib.hid (OwnI.nil _ _ _), Lib.hid (by simp [odTo]), Lib.hid (Below.refl _ _)⟩
    case round =>
     obtain ⟨i, hi, rfl, HOD, HOL, HBI⟩ := hrel
     have hwi : wrap64 ((i : Int) + 1) = (i : Int) + 1 := by have := HL9.out; have := HHL.out; unfold wrap64; omega
     by_cases hih : i < hd.length
     ·obtain ⟨bh, oh, eh, hbh, h0, h1⟩ := HHP.out.at_ hih
      have hsucc := odTo_succ (im := im) hih
      obtain ⟨z, hz⟩ : ∃ z, z = hd[i] := ⟨_, rfl⟩
      rw [← hz] at h0 h1 hsucc
      obtain ⟨zx, zy⟩ := z
      dsimp only at h0 h1
      obtain ⟨od, hod⟩ : ∃ od, od = odTo im hd i := ⟨_, rfl⟩
      rw [← hod] at HOD hsucc HOL
      have HSU := Lib.hid hsucc
      have HH0 := Lib.hid (And.intro hbh (And.intro h0 h1))
      have HIH := Lib.hid hih
      subst eh
      clear hsucc hz hod h0 h1 hbh hi
      go_upto_region 14 with fail
      go_loopw [9, 11] (fun ov jv wr => ∃ j : Nat, j ≤ im.length ∧ jv = .int .i64 j ∧ Hid (OwnIA wr w7.heap.size ov ((od ++ posE im (zx, zy) j).map fun (p : Nat) => (p : Int))) ∧ Hid (Below w7.heap.size w7 wr)) (fun _ jv _ => im.length - (intOf jv).toNat)
      case atStart => exact ⟨0, Nat.zero_le _, rfl, Lib.hid (by simpa [posE] using HOD.out), HBI⟩
      case round =>
       clear HOD HBI
       obtain ⟨j, hj, rfl, HOD, HBI⟩ := hrel
       have hwj : wrap64 ((j : Int) + 1) = (j : Int) + 1 := by have := HL9.out; have := HIL.out; unfold wrap64; omega
       by_cases hji : j < im.length
       ·obtain ⟨bi, oi, ei, -, i0, i1⟩ := (HIP7.out.ext HBI.out).at_ hji
        have h0 := (HBI.out.cell (p := ⟨bh, oh + i * 2, none⟩) HH0.out.1).trans HH0.out.2.1
        have h1 := (HBI.out.cell (p := ⟨bh, oh + i * 2 + 1, none⟩) HH0.out.1).trans HH0.out.2.2
        have hps := posE_succ im (zx, zy) j
        have hgd : im.getD j (0, 0) = im[j] := by rw [List.getD_eq_getElem?_getD, List.getElem?_eq_getElem hji]; rfl
        rw [hgd] at hps
        have hpl := posE_len im (zx, zy) j
        obtain ⟨x, hx⟩ : ∃ x, x = im[j] := ⟨_, rfl⟩
        rw [← hx] at i0 i1 hps
        obtain ⟨x, y⟩ := x
        dsimp only at i0 i1
        have HJI := Lib.hid hji
        have hih2 := HIH.out
        have hlo : ((od ++ posE im (zx, zy) j).map fun (p : Nat) => (p : Int)).length < 1000000000000 := by
         rw [List.length_map, List.length_append]
         have := HOL.out; have := HL9.out; have := HIL.out; have := HHL.out
         omega
        have HLO := Lib.hid hlo
        subst ei
        clear hx hgd hpl hlo hj
        by_cases hxe : x = zx
        ·have e1 : (x == zx) = true := by simp [hxe]
         by_cases hye : y = zy
         ·have e2 : (y == zy) = true := by simp [hye]
          rw [if_pos (by rw [hxe, hye])] at hps
          have HPS := Lib.hid hps
          subst hxe hye
          clear hps
          go_upto_region 16 with fail
          go_quiet (fail)
          obtain ⟨wd, hwd⟩ : ∃ wd, wd = wr.drewN nq := ⟨_, rfl⟩
          have how : OwnIA wd w7.heap.size u9 ((od ++ posE im (x, y) j).map fun (p : Nat) => (p : Int)) := by rw [hwd]; exact HOD.out
          have hbd : Below w7.heap.size w7 wd := by rw [hwd]; exact below_drewN HBI.out _
          have HBD := Lib.hid hbd
          have HOWD := Lib.hid how
          have hws := hbd.size
          have hlo := HLO.out
          rw [← hwd]
          clear hwd hbd i0 i1 h0 h1 e1 e2 hji hih2
          go_wp2_with (at_builtin; refine wpList_pushIk rfl _ _ _ rfl w7.heap.size 3 Tryd.underlying31 Tryd.infoInt _ _ rfl how _ rfl hlo hws ?_)
          intro v9 w9 ho9 hk9 hm9
          have HO9 : Hid (OwnIA w9 w7.heap.size v9 ((od ++ posE im (x, y) (j + 1)).map fun (p : Nat) => (p : Int))) := Lib.hid (by rw [HPS.out]; simpa using ho9)
          have HB9 : Hid (Below w7.heap.size w7 w9) := Lib.hid (HBD.out.trans (hk9.to_below HBD.out.size (fun g hg e => by have := (own_lt' HOWD.out e).2; omega)))
          clear ho9 hk9 hm9 how hlo hws
          go_wp2
          go_roundw
          case rel => exact ⟨j + 1, HJI.out, (by first | rfl | (rw [hwj]; rfl)), HO9, HB9⟩
          case measure => (try rw [hwj]); exact meas_step HJI.out
         ·have e2 : (y == zy) = false := by simpa using hye
          rw [if_neg (by rw [Prod.mk.injEq]; exact fun h => hye h.2), List.append_nil] at hps
          have HPS := Lib.hid hps
          clear hps
          go_upto_region 16 with fail
          go_quiet (fail)
          clear i0 i1 h0 h1 hji hih2
          go_wp2
          go_roundw
          case rel => exact ⟨j + 1, HJI.out, (by first | rfl | (rw [hwj]; rfl)), Lib.hid (by rw [HPS.out]; exact HOD.out.drewN _), Lib.hid (below_drewN HBI.out _)⟩
          case measure => (try rw [hwj]); exact meas_step HJI.out
        ·have e1 : (x == zx) = false := by simpa using hxe
         rw [if_neg (by rw [Prod.mk.injEq]; exact fun h => hxe h.1), List.append_nil] at hps
         have HPS := Lib.hid hps
         clear hps
         go_upto_region 16 with fail
         go_quiet (fail)
         clear i0 i1 h0 h1 hji hih2
         go_wp2
         go_roundw
         case rel => exact ⟨j + 1, HJI.out, (by first | rfl | (rw [hwj]; rfl)), Lib.hid (by rw [HPS.out]; exact HOD.out.drewN _), Lib.hid (below_drewN HBI.out _)⟩
         case measure => (try rw [hwj]); exact meas_step HJI.out
       ·have hje : j = im.length := Nat.le_antisymm hj (Nat.le_of_not_lt hji)
        have HOE : Hid (OwnIA wr w7.heap.size u9 ((odTo im hd (i + 1)).map fun (p : Nat) => (p : Int))) := Lib.hid (by rw [HSU.out, ← hje]; exact HOD.out)
        have HLE : Hid ((odTo im hd (i + 1)).length ≤ 9 * (i + 1)) := Lib.hid (by
         rw [HSU.out, List.length_append]
         have h1 := posE_len im (zx, zy) im.length
         have h2 := HOL.out
         have h3 := HIL.out
         have h4 := HL9.out
         omega)
        clear hje hj hwj
        go_wp2
        go_roundw
        case rel => exact ⟨i + 1, HIH.out, (by first | rfl | (rw [hwi]; rfl)), HOE, HLE, HBI⟩
        case measure => (try rw [hwi]); exact meas_step HIH.out
     ·have hie : i = hd.length := Nat.le_antisymm hi (Nat.le_of_not_lt hih)
      have how := HOD.out
      rw [hie, HHL.out] at how
      obtain ⟨od, hod⟩ : ∃ od, od = odTo im hd ps.length := ⟨_, rfl⟩
      rw [← hod] at how HRO
      obtain ⟨oA, oc, eov, hoi, -⟩ := how.ints
      rw [List.length_map, HRO.out.1] at eov
      have HBW : Hid (Below w0.heap.size w0 wr) := Lib.hid (HB7.out.trans (HBI.out.mono HB7.out.size))
      have p1 := HP0.out.below HBW.out HP0.out.lt
      have e0 := p1.cell_ 0 (.int .i64 st) rfl
      have e1 := p1.cell_ 1 (.slice A ps.length c) rfl
      have e2 := p1.cell_ 2 (.slice B hs.length d) rfl
      have hred := rreduce_own st A c ps B d hs wr (HP.out.ext HBW.out) (HN.out.ext HBW.out)
      rw [← HTE.out] at hred
      have HRED := Lib.hid hred
      have HOI := Lib.hid hoi
      have HODE := Lib.hid hod
      subst eov
      clear how hoi hod hred p1 hie hi hwi HOD HOL
      go_wp2_with (go_at_call 13; refine HRED.out.mono ?_; intro e w8 hx9; obtain ⟨A8, c8, nv8, os8, rfl, hA8, hp8, hn8, he8, hb8⟩ := hx9; obtain ⟨n8, m8, env8, -, -⟩ := hn8.nds; subst env8; have HA8 := Lib.hid hA8; have HN8 := Lib.hid hn8; have HE8 := Lib.hid he8; have HB8 := Lib.hid hb8; clear hA8 hp8 hn8 he8 hb8; refine Hid.out ?_)
      refine Lib.hid ?_
      clear e0 e1 e2 HRED
      obtain ⟨fh, hfh⟩ : ∃ fh, fh = (⟨(redT t).st, A8, (redT t).ps, c8, n8, os8, m8⟩ : TrH) := ⟨_, rfl⟩
      obtain ⟨a1, a2, a3, a4, a5, a6, a7, a8, a9⟩ := HPT.out
      obtain ⟨r1, r2, r3, r4, r5, r6, r7⟩ := redT_ok HTR.out
      have hpt : fh.pt = redT t := by rw [hfh]; show (⟨(redT t).st, (redT t).ps, os8.map Hd.nd⟩ : PT) = redT t; rw [HE8.out]
      have hpn : (redT t).ps ≠ [] := by
       rw [r7, HTS.out.2]
       intro e
       unfold hoodB at a3
       rw [Bool.and_eq_true, Bool.and_eq_true, HTS.out.2, e] at a3
       simp at a3
      have hA8 : A8 = A := HA8.out.resolve_right hpn
      have hF : OkF st ps fh.pt := by rw [hpt]; exact ⟨red_right HTR.out, by rw [r6, HTS.out.1], by rw [r7, HTS.out.2]⟩
      have hS : XpS wr wr.heap.size (.slice none 0 0) (.slice none 0 0) [] [] w8 := ⟨nil_rowT _ _, OwnN.nil _ _ _ _, fun t ht => absurd ht (by simp)⟩
      have hK : KT wr wr.heap.size (.slice none 0 0) fh w8 := by
       refine ⟨?_, by rw [hfh]; exact HN8.out, fun g _ e => by simp [Value.ownBlock] at e⟩
       rw [hfh]
       show Pts wr A8 (redT t).ps
       rw [hA8, r7, HTS.out.2]
       exact HP.out.ext HBW.out
      have hcap : cap 8 ps.length ≤ 20000000000 := Nat.le_trans (cap_mono (Nat.le_refl 8) _ 9 HL9.out) (by decide)
      have hex := rexp_any wr wr.heap.size (Nat.le_refl _) st ps (by rw [← HTS.out.1]; exact a1) (by rw [← HTS.out.1]; exact a2) HL9.out oA oc od HOI.out HRO.out.1 HRO.out.2.1 ps.length fh (.slice none 0 0) (.slice none 0 0) [] [] w8 hF (Nat.le_refl _) hS hK HB8.out HB8.out.size (XI.nil _ _ _) (by simpa using hcap)
      rw [HRO.out.1, Nat.sub_self] at hex
      have hrt : rtN k t = (expE ps.length od st.toNat ps.length fh.pt ([], [])).2.2 := by
       unfold rtN
       rw [hpt, HTS.out.1, HTS.out.2, ← HIM.out, ← HHD.out, ← HODE.out]
      have HRTN := Lib.hid hrt
      have HEX := Lib.hid hex
      have HSX := Lib.hid hS
      rw [hfh] at HEX
      have HFH := Lib.hid hfh
      clear hfh a1 a2 a3 a4 a5 a6 a7 a8 a9 r1 r2 r3 r4 r5 r6 r7 hpt hpn hA8 hF hS hK hcap hex hrt
      go_wp2_with (go_at_call 54; refine HEX.out.mono ?_; intro e w9 hx9; obtain ⟨kv2, ov2, ts2, os2, rfl, hc9, he9⟩ := hx9; have HC9 := Lib.hid hc9; have HE9 := Lib.hid he9; clear hc9 he9; refine Hid.out ?_)
      refine Lib.hid ?_
      obtain ⟨oB, ob, eov, hnds, -⟩ := HC9.out.wk.out.nds
      have hb9 : Below wr.heap.size wr w9 := HB8.out.trans (HSX.out.below HC9.out.kp HB8.out.size)
      have h29 : os2.map Hd.nd = rtN k t := by rw [HRTN.out, HFH.out]; exact congrArg Prod.snd HE9.out
      have h2l : os2.length = (rtN k t).length := by rw [← h29, List.length_map]
      have hvn := HRO.out.2.2.2.1
      have hvp := HRO.out.2.2.2.2.1
      have hvr := HRO.out.2.2.2.2.2.1
      have hvs := HRO.out.2.2.2.2.2.2.1
      have hst8 : st.toNat ≤ 8 ∧ 2 ≤ st.toNat := by have h1 := HPT.out.1; have h2 := HPT.out.2.1; have h3 := HTS.out.1; omega
      have hcap : cap st.toNat ps.length ≤ 900000000000 := Nat.le_trans (cap_mono hst8.1 _ 9 HL9.out) (by decide)
      have hrd := reduced_any oB ob os2 w9 hnds st.toNat (by rw [h29]; exact hvn) (by omega) (by omega) (by rw [h2l]; exact hvp) (by rw [h2l]; exact Nat.le_trans hvs hcap) (by rw [h29, h2l, hvr]; have := HL9.out; omega)
      rw [h29, ordR_eq hvn hvp (by rw [hvr]; have := HL9.out; omega)] at hrd
      have HRD := Lib.hid hrd
      have HB9 : Hid (Below w0.heap.size w0 w9) := Lib.hid (HBW.out.trans (hb9.mono HBW.out.size))
      have HH9 : Hid (OwnP 49 w9 w0.heap.size (.slice hA hd.length hc) hd) := Lib.hid ((((HHO.out.down HBS.out).ext HBI.out)).ext hb9)
      subst eov
      clear hnds hb9 h29 h2l hvn hvp hvr hvs hst8 hcap hrd
      go_wp2_with (go_at_call 35; refine HRD.out.mono ?_; intro e wa hx9; obtain ⟨va, osa, rfl, hna, hea, hba⟩ := hx9; obtain ⟨na, ma, eva, hnds, -⟩ := hna.nds; subst eva; have HNA := Lib.hid hna; have HEA := Lib.hid hea; have HBA := Lib.hid hba; clear hnds hna hea hba; refine Hid.out ?_)
      refine Lib.hid ?_
      have HBX : Hid (Below w0.heap.size w0 wa) := Lib.hid (HB9.out.trans (HBA.out.mono HB9.out.size))
      have HHX := Lib.hid (HH9.out.ext HBA.out)
      have HQX := Lib.hid (HQ0.out.below HBX.out HQ0.out.lt)
      have HPX := Lib.hid (HP0.out.below HBX.out HP0.out.lt)
      have HBWX : Hid (Below w.heap.size w wa) := Lib.hid (HB0.out.trans (HBX.out.mono HB0.out.size))
      have d0 := HQX.out.cell_ 0 (.int .i64 0) rfl
      have d1 := HQX.out.cell_ 1 (.slice none 0 0) rfl
      have d2 := HQX.out.cell_ 2 (.slice none 0 0) rfl
      have f0 := HQX.out.frozen 0
      have f1 := HQX.out.frozen 1
      have f2 := HQX.out.frozen 2
      have e0 := HPX.out.cell_ 0 (.int .i64 st) rfl
      obtain ⟨rn, hrn⟩ : ∃ rn, rn = redN chR (rtN k t) := ⟨_, rfl⟩
      rw [← hrn] at HRT HEA
      have hal : osa.length = rn.length := by rw [← HEA.out, List.length_map]
      clear hrn HRD
      by_cases hbig : 4096 < osa.length
      ·have d3 : decide ((4096 : Int) < (osa.length : Int)) = true := decide_eq_true (by omega)
       have d4 : decide (4096 < osa.length) = true := decide_eq_true hbig
       have HOKT : Hid (TurnOk k t (PT.zero, 6)) := Lib.hid (by have := HRT.out; rwa [if_pos (by omega)] at this)
       clear hbig hal
       go_wp2
       have hq : Blk (((wa.setCell ⟨w.heap.size + 1, 0, none⟩ (.int .i64 0)).setCell ⟨w.heap.size + 1, 1, none⟩ (.slice none 0 0)).setCell ⟨w.heap.size + 1, 2, none⟩ (.slice none 0 0)) (w.heap.size + 1) 25 #[.int .i64 0, .slice none 0 0, .slice none 0 0] := ((HQX.out.set_ 0 (.int .i64 0)).set_ 1 (.slice none 0 0)).set_ 2 (.slice none 0 0)
       exact bodyPost_ret (results_ct Tryd.results25 _ _ (w.heap.size + 1) 25 #[.int .i64 0, .slice none 0 0, .slice none 0 0] (0, 0) _ rfl hq Tryd.underlying25 rfl Tryd.sizeTree) rfl
        ⟨_, HOKT.out, 0, none, 0, 0, none, 0, 0, rfl, ⟨none, 0, none, 0, [], rfl, Pts.nil, Nds.nil, rfl⟩, ((HBWX.out.setCell (p := ⟨w.heap.size + 1, 0, none⟩) (Nat.le_succ _) _).setCell (p := ⟨w.heap.size + 1, 1, none⟩) (Nat.le_succ _) _).setCell (p := ⟨w.heap.size + 1, 2, none⟩) (Nat.le_succ _) _⟩
      ·have d3 : decide ((4096 : Int) < (osa.length : Int)) = false := decide_eq_false (by omega)
       have d4 : decide (4096 < osa.length) = false := decide_eq_false hbig
       have HOKT : Hid (TurnOk k t (⟨st, hd, rn⟩, 0)) := Lib.hid (by have := HRT.out; rwa [if_neg (by omega)] at this)
       clear hbig hal
       go_wp2
       have hlt := HQ0.out.lt
       have hk3 : Kept (fun g => g = w.heap.size + 1) wa (((wa.setCell ⟨w.heap.size + 1, 0, none⟩ (.int .i64 st)).setCell ⟨w.heap.size + 1, 1, none⟩ (.slice hA hd.length hc)).setCell ⟨w.heap.size + 1, 2, none⟩ (.slice na osa.length ma)) := (((Kept.refl (fun g => g = w.heap.size + 1) wa).setCell (p := ⟨w.heap.size + 1, 0, none⟩) (Or.inl rfl) _).setCell (p := ⟨w.heap.size + 1, 1, none⟩) (Or.inl rfl) _).setCell (p := ⟨w.heap.size + 1, 2, none⟩) (Or.inl rfl) _
       have hho := hk3.own HHX.out (fun g e1 e2 => by have h1 := (own_lt' HHX.out e1).2; rw [e2] at h1; exact Nat.lt_irrefl _ (Nat.lt_of_lt_of_le hlt h1))
       have hno := HNA.out.kept hk3 (fun g e1 e2 => by have h1 := (own_lt' HNA.out.1 e1).2; rw [e2] at h1; exact Nat.lt_irrefl _ (Nat.lt_of_lt_of_le (Nat.lt_of_lt_of_le hlt HB9.out.size) h1)) (fun y hy g e1 e2 => by have h1 := (own_lt' (HNA.out.2 y hy) e1).2; rw [e2] at h1; exact Nat.lt_irrefl _ (Nat.lt_of_lt_of_le (Nat.lt_of_lt_of_le hlt HB9.out.size) h1))
       have hbf := HBWX.out.trans (hk3.to_below (B := w.heap.size) HBWX.out.size (fun g hg e => by rw [e] at hg; exact Nat.not_succ_lt_self hg))
       have hq : Blk (((wa.setCell ⟨w.heap.size + 1, 0, none⟩ (.int .i64 st)).setCell ⟨w.heap.size + 1, 1, none⟩ (.slice hA hd.length hc)).setCell ⟨w.heap.size + 1, 2, none⟩ (.slice na osa.length ma)) (w.heap.size + 1) 25 #[.int .i64 st, .slice hA hd.length hc, .slice na osa.length ma] := ((HQX.out.set_ 0 (.int .i64 st)).set_ 1 (.slice hA hd.length hc)).set_ 2 (.slice na osa.length ma)
       exact bodyPost_ret (results_ct Tryd.results25 _ _ (w.heap.size + 1) 25 #[.int .i64 st, .slice hA hd.length hc, .slice na osa.length ma] (0, 0) _ rfl hq Tryd.underlying25 rfl Tryd.sizeTree) rfl
        ⟨_, HOKT.out, st, hA, _, hc, na, _, ma, rfl, ⟨hA, hc, na, ma, osa, rfl, OwnP.reads hho, OwnN.reads hno, HEA.out⟩, hbf⟩
end Go.Proofs.YtojnnfihpiegoaaDoor
