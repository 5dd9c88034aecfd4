/-
  cellularref14.Back. No condition.
  cellularlaw12.Few, and contracts over trees. No condition.
-/
import Derived.Test.YtmlhkbgifnifdaaGreatDoorZG26
import Derived.Test.YtmlhkbgifnifdaaGreatDoorZG24
namespace Go.Proofs.YtmlhkbgifnifdaaGreatDoor
open Go.RowKit Go.Maps
set_option maxRecDepth 100000
set_option linter.unusedVariables false
set_option linter.unusedSimpArgs false

/-- the rule's box, and its two rows -/
structure BkW (B p : Nat) (c0 c1 bv : Value) (bz : List Int) (sv : Value) (sz : List Int) (w : World) : Prop where
  blk : Blk w p 30 #[c0, c1, bv, sv]
  br : OwnIA w B bv bz
  sr : OwnIA w B sv sz
  ap : ∀ g, bv.ownBlock = some g → sv.ownBlock ≠ some g
section
variable {B p : Nat} {c0 c1 bv sv bv' sv' : Value} {bz sz : List Int} {w w' : World} {z : Int}
theorem BkW.ext (h : BkW B p c0 c1 bv bz sv sz w) (hb : Below w.heap.size w w') : BkW B p c0 c1 bv bz sv sz w' := ⟨h.blk.below hb h.blk.lt, h.br.ext hb, h.sr.ext hb, h.ap⟩
theorem BkW.pushB (h : BkW B p c0 c1 bv bz sv sz w) (ho : OwnIA w' B bv' (bz ++ [z])) (hk : Kept (fun g => bv.ownBlock = some g) w w') (hn : bv'.ownBlock = bv.ownBlock ∨ ∃ g, bv'.ownBlock = some g ∧ w.heap.size ≤ g) :
    BkW B p c0 c1 bv' (bz ++ [z]) sv sz (w'.setCell ⟨p, 2, none⟩ bv') := by
  have b1 := hk.blk h.blk (own_blk_ne' h.br h.blk (by decide))
  have s1 := hk.own h.sr (fun g e1 e2 => h.ap g e2 e1)
  have k7 : Kept (fun g => g = p) w' (w'.setCell ⟨p, 2, none⟩ bv') := (Kept.refl (fun g => g = p) w').setCell (p := ⟨p, 2, none⟩) (Or.inl rfl) bv'
  refine ⟨b1.set_ 2 bv', k7.own ho (fun g e1 e2 => by subst e2; exact own_blk_ne' ho b1 (by decide) e1), k7.own s1 (fun g e1 e2 => by subst e2; exact own_blk_ne' s1 b1 (by decide) e1), fun g e1 e2 => ?_⟩
  rcases hn with hn | ⟨g', hg, hs⟩
  · exact h.ap g (by rw [← hn]; exact e1) e2
  · rw [hg] at e1
    injection e1 with e1
    have := (own_lt' h.sr e2).1
    omega
theorem BkW.pushS (h : BkW B p c0 c1 bv bz sv sz w) (ho : OwnIA w' B sv' (sz ++ [z])) (hk : Kept (fun g => sv.ownBlock = some g) w w') (hn : sv'.ownBlock = sv.ownBlock ∨ ∃ g, sv'.ownBlock = some g ∧ w.heap.size ≤ g) :
    BkW B p c0 c1 bv bz sv' (sz ++ [z]) (w'.setCell ⟨p, 3, none⟩ sv') := by
  have b1 := hk.blk h.blk (own_blk_ne' h.sr h.blk (by decide))
  have s1 := hk.own h.br (fun g e1 e2 => h.ap g e1 e2)
  have k7 : Kept (fun g => g = p) w' (w'.setCell ⟨p, 3, none⟩ sv') := (Kept.refl (fun g => g = p) w').setCell (p := ⟨p, 3, none⟩) (Or.inl rfl) sv'
  refine ⟨b1.set_ 3 sv', k7.own s1 (fun g e1 e2 => by subst e2; exact own_blk_ne' s1 b1 (by decide) e1), k7.own ho (fun g e1 e2 => by subst e2; exact own_blk_ne' ho b1 (by decide) e1), fun g e1 e2 => ?_⟩
  rcases hn with hn | ⟨g', hg, hs⟩
  · exact h.ap g e1 (by rw [← hn]; exact e2)
  · rw [hg] at e2
    injection e2 with e2
    have := (own_lt' h.br e1).1
    omega
theorem requal_tv {v x : Value} {t u : PT} (h : TreeAt w v t) (k : TreeAt w x u) : Calls Tryz.prog 31 #[v, x] w fun e w' => e = .returned (.bool (equalP t u)) ∧ Below w.heap.size w w' := by
  obtain ⟨A, c, B, d, os, rfl, h1, h2, h3⟩ := h
  obtain ⟨A', c', B', d', os', rfl, k1, k2, k3⟩ := k
  have := requal_any t.st u.st A c t.ps B d os A' c' u.ps B' d' os' w h1 h2 k1 k2
  rw [h3, k3] at this
  exact this
end
theorem numsTo_small {t : PT} {s : Int} {k n : Nat} (h : k ≤ n) (hn : n ≤ 25) : (numsTo t s k).length < 1000000000000 := by
  have := numsTo_len t s k
  omega
set_option maxHeartbeats 32000000 in
theorem rback_any (st : Int) (A : Option Addr) (c : Nat) (ps : List (Int × Int)) (B : Option Addr) (d : Nat) (hs : List Hd) (w : World) (hp : Pts w A ps) (hN : Nds w B hs) :
    Calls Tryz.prog 8 #[.agg #[.int .i64 st, .slice A ps.length c, .slice B hs.length d]] w (RetTot (backP ⟨st, ps, hs.map Hd.nd⟩) w) := by
  have hn := hN.le
  have hpl := hp.le
  obtain ⟨w0, hw0⟩ : ∃ w0, w0 = (w.alloc (.cells #[.int .i64 st, .slice A ps.length c, .slice B hs.length d] 25)).alloc (.cells #[.slice none 0 0, .int .i64 0, .slice none 0 0, .slice none 0 0] 30) := ⟨_, rfl⟩
  have hb1 := below_new w (.cells #[.int .i64 st, .slice A ps.length c, .slice B hs.length d] 25)
  have hb0 : Below w.heap.size w w0 := by rw [hw0]; exact hb1.alloc hb1.size _
  have p0 : Blk w0 w.heap.size 25 #[.int .i64 st, .slice A ps.length c, .slice B hs.length d] := by rw [hw0]; exact (Blk.new w _ _).alloc _
  have q0 : Blk w0 (w.heap.size + 1) 30 #[.slice none 0 0, .int .i64 0, .slice none 0 0, .slice none 0 0] := by rw [hw0]; exact blk_two _ _ _ _
  have HR := Lib.hid (rright_any st A c ps B d hs w0 (hp.ext hb0) (hN.ext hb0))
  have HKN := Lib.hid (fun W (hW : Below w0.heap.size w0 W) => known_any A ps c W ((hp.ext hb0).ext hW))
  obtain ⟨t, ht⟩ : ∃ t : PT, t = ⟨st, ps, hs.map Hd.nd⟩ := ⟨_, rfl⟩
  have hta : TreeAt w0 (.agg #[.int .i64 st, .slice A ps.length c, .slice B hs.length d]) t := ⟨A, c, B, d, hs, by rw [ht], by rw [ht]; exact hp.ext hb0, hN.ext hb0, by rw [ht]⟩
  have hRt : rightN st ps (hs.map Hd.nd) = t.right := by rw [ht]; rfl
  have htps : t.ps = ps := by rw [ht]
  have htst : t.st = st := by rw [ht]
  rw [← ht]
  have HRN := Lib.hid hRt
  rw [hRt] at HR
  have HTA := Lib.hid hta
  have HNW := Lib.hid (And.intro hp hN)
  have HB0 := Lib.hid hb0
  have HP0 := Lib.hid p0
  have HQ0 := Lib.hid q0
  have HW0 := Lib.hid hw0
  have HTE := Lib.hid (And.intro ht (And.intro htps htst))
  have c0 := p0.cell_ 0 (.int .i64 st) rfl
  have c1 := p0.cell_ 1 (.slice A ps.length c) rfl
  have c2 := p0.cell_ 2 (.slice B hs.length d) rfl
  clear hb1 hb0 p0 q0 hw0 hp hN hta hRt htps htst ht
  cases hr : t.right with
  | false =>
    have HE : Hid (backP t = (TotL.zero, false)) := Lib.hid (back_no (.inl hr))
    rw [hr] at HR
    clear hr
    go_enter Tryz.func8, Tryz.ntmps8
    go_upto_region 1 with fail
    rw [← HW0.out]
    go_wp2_with (go_at_call 28; refine HR.out.mono ?_; rintro e w1 ⟨rfl, hb⟩; refine Hid.out ?_)
    refine Lib.hid ?_
    have q1 := HQ0.out.below hb HQ0.out.lt
    have HQ1 := Lib.hid q1
    have d0 := q1.cell_ 0 (.slice none 0 0) rfl
    have d1 := q1.cell_ 1 (.int .i64 0) rfl
    have d2 := q1.cell_ 2 (.slice none 0 0) rfl
    have d3 := q1.cell_ 3 (.slice none 0 0) rfl
    have f0 := q1.frozen 0
    have f1 := q1.frozen 1
    have f2 := q1.frozen 2
    have f3 := q1.frozen 3
    have HBX := Lib.hid (HB0.out.trans (hb.mono HB0.out.size))
    clear q1 hb c0 c1 c2
    go_wp2
    have hq : Blk ((((w1.setCell ⟨w.heap.size + 1, 0, none⟩ (.slice none 0 0)).setCell ⟨w.heap.size + 1, 1, none⟩ (.int .i64 0)).setCell ⟨w.heap.size + 1, 2, none⟩ (.slice none 0 0)).setCell ⟨w.heap.size + 1, 3, none⟩ (.slice none 0 0)) (w.heap.size + 1) 30 #[.slice none 0 0, .int .i64 0, .slice none 0 0, .slice none 0 0] := (((HQ1.out.set_ 0 (.slice none 0 0)).set_ 1 (.int .i64 0)).set_ 2 (.slice none 0 0)).set_ 3 (.slice none 0 0)
    rw [HE.out]
    exact bodyPost_ret (results_ct Tryz.results8 _ _ (w.heap.size + 1) 30 #[.slice none 0 0, .int .i64 0, .slice none 0 0, .slice none 0 0] (0, 0) _ rfl hq Tryz.underlying30 rfl Tryz.sizeTot) rfl
      ⟨none, 0, none, 0, none, 0, rfl, ⟨Pts.nil, Ints.nil, Ints.nil⟩, (((HBX.out.setCell (p := ⟨w.heap.size + 1, 0, none⟩) (by simp) _).setCell (p := ⟨w.heap.size + 1, 1, none⟩) (by simp) _).setCell (p := ⟨w.heap.size + 1, 2, none⟩) (by simp) _).setCell (p := ⟨w.heap.size + 1, 3, none⟩) (by simp) _⟩
  | true =>
    rw [hr] at HR
    cases hk : knownB ps with
    | false =>
      have HE : Hid (backP t = (TotL.zero, false)) := Lib.hid (back_no (.inr (by rw [HTE.out.2.1]; exact hk)))
      rw [hk] at HKN
      clear hr hk
      go_enter Tryz.func8, Tryz.ntmps8
      go_upto_region 1 with fail
      rw [← HW0.out]
      go_wp2_with (go_at_call 28; refine HR.out.mono ?_; rintro e w1 ⟨rfl, hb⟩; refine Hid.out ?_)
      refine Lib.hid ?_
      have HB1 := Lib.hid hb
      have c1' := (HP0.out.below hb HP0.out.lt).cell_ 1 (.slice A ps.length c) rfl
      have HKX := Lib.hid (HKN.out w1 hb)
      clear hb c0 c1 c2
      go_wp2_with (go_at_call 29; refine HKX.out.mono ?_; rintro e w2 ⟨rfl, hb3⟩; refine Hid.out ?_)
      refine Lib.hid ?_
      have hb := HB1.out.trans (hb3.mono HB1.out.size)
      clear hb3 c1' HKX HKN
      have q1 := HQ0.out.below hb HQ0.out.lt
      have HQ1 := Lib.hid q1
      have d0 := q1.cell_ 0 (.slice none 0 0) rfl
      have d1 := q1.cell_ 1 (.int .i64 0) rfl
      have d2 := q1.cell_ 2 (.slice none 0 0) rfl
      have d3 := q1.cell_ 3 (.slice none 0 0) rfl
      have f0 := q1.frozen 0
      have f1 := q1.frozen 1
      have f2 := q1.frozen 2
      have f3 := q1.frozen 3
      have HBX := Lib.hid (HB0.out.trans (hb.mono HB0.out.size))
      clear q1 hb 
      go_wp2
      have hq : Blk ((((w2.setCell ⟨w.heap.size + 1, 0, none⟩ (.slice none 0 0)).setCell ⟨w.heap.size + 1, 1, none⟩ (.int .i64 0)).setCell ⟨w.heap.size + 1, 2, none⟩ (.slice none 0 0)).setCell ⟨w.heap.size + 1, 3, none⟩ (.slice none 0 0)) (w.heap.size + 1) 30 #[.slice none 0 0, .int .i64 0, .slice none 0 0, .slice none 0 0] := (((HQ1.out.set_ 0 (.slice none 0 0)).set_ 1 (.int .i64 0)).set_ 2 (.slice none 0 0)).set_ 3 (.slice none 0 0)
      rw [HE.out]
      exact bodyPost_ret (results_ct Tryz.results8 _ _ (w.heap.size + 1) 30 #[.slice none 0 0, .int .i64 0, .slice none 0 0, .slice none 0 0] (0, 0) _ rfl hq Tryz.underlying30 rfl Tryz.sizeTot) rfl
        ⟨none, 0, none, 0, none, 0, rfl, ⟨Pts.nil, Ints.nil, Ints.nil⟩, (((HBX.out.setCell (p := ⟨w.heap.size + 1, 0, none⟩) (by simp) _).setCell (p := ⟨w.heap.size + 1, 1, none⟩) (by simp) _).setCell (p := ⟨w.heap.size + 1, 2, none⟩) (by simp) _).setCell (p := ⟨w.heap.size + 1, 3, none⟩) (by simp) _⟩
    | true =>
      have HRT := Lib.hid hr
      have HKT : Hid (knownB t.ps = true) := Lib.hid (by rw [HTE.out.2.1]; exact hk)
      have HL9 : Hid (1 ≤ ps.length ∧ ps.length ≤ 9) := Lib.hid (known_len hk)
      rw [hk] at HKN
      clear hr hk
      go_enter Tryz.func8, Tryz.ntmps8
      go_upto_region 1 with fail
      rw [← HW0.out]
      go_wp2_with (go_at_call 28; refine HR.out.mono ?_; rintro e w1 ⟨rfl, hb⟩; refine Hid.out ?_)
      refine Lib.hid ?_
      have HB1 := Lib.hid hb
      have c1' := (HP0.out.below hb HP0.out.lt).cell_ 1 (.slice A ps.length c) rfl
      have HKX := Lib.hid (HKN.out w1 hb)
      clear hb c0 c1 c2 HR
      go_wp2_with (go_at_call 29; refine HKX.out.mono ?_; rintro e v1 ⟨rfl, hb3⟩; refine Hid.out ?_)
      refine Lib.hid ?_
      have HB2 := Lib.hid (HB1.out.trans (hb3.mono HB1.out.size))
      clear hb3 c1' HKX HKN HB1
      have HP2 := Lib.hid (HP0.out.below HB2.out HP0.out.lt)
      have HQ2 := Lib.hid (HQ0.out.below HB2.out HQ0.out.lt)
      have c0 := HP2.out.cell_ 0 (.int .i64 st) rfl
      have c1 := HP2.out.cell_ 1 (.slice A ps.length c) rfl
      obtain ⟨w2, hw2⟩ : ∃ w2, w2 = v1.alloc (.cells #[.slice A ps.length c, .int .i64 st, .slice none 0 0, .slice none 0 0] 30) := ⟨_, rfl⟩
      obtain ⟨p, hp⟩ : ∃ p, p = v1.heap.size := ⟨_, rfl⟩
      have HBR : Hid (Below v1.heap.size v1 w2) := Lib.hid (by rw [hw2]; exact below_new _ _)
      have HBK0 : Hid (BkW v1.heap.size p (.slice A ps.length c) (.int .i64 st) (.slice none 0 0) (numsTo t 0 0) (.slice none 0 0) (numsTo t 1 0) w2) := Lib.hid
        ⟨by rw [hw2, hp]; exact Blk.new _ _ _, OwnI.nil _ _ _, OwnI.nil _ _ _, fun g e => by simp [Value.ownBlock] at e⟩
      have HP := Lib.hid hp
      have HW2 := Lib.hid hw2
      clear hw2 hp
      go_upto_region 4 with fail
      rw [← HW2.out, ← HP.out]
      clear c0 c1 HW2
      go_wp2
      go_loopw [5] (fun iv wr => ∃ (j : Nat) (bv sv : Value), j ≤ ps.length ∧ iv = .int .i64 j ∧ Hid (BkW v1.heap.size p (.slice A ps.length c) (.int .i64 st) bv (numsTo t 0 j) sv (numsTo t 1 j) wr) ∧ Hid (Below v1.heap.size v1 wr)) (fun iv _ => ps.length - (intOf iv).toNat)
      case atStart => exact ⟨0, _, _, Nat.zero_le _, rfl, HBK0, HBR⟩
      case round =>
        clear HBK0 HBR
        obtain ⟨j, bv, sv, hj, rfl, HK, HBR⟩ := hrel
        have hwj : wrap64 ((j : Int) + 1) = (j : Int) + 1 := wrap_1 hj (Nat.le_trans HL9.out.2 (by decide))
        have HPW := Lib.hid (HP2.out.below HBR.out HP2.out.lt)
        have c1 := HPW.out.cell_ 1 (.slice A ps.length c) rfl
        by_cases hjl : j < ps.length
        · have HJL := Lib.hid hjl
          have hdj : decide ((j : Int) < (ps.length : Int)) = true := dec_lt hjl
          have hdj2 : decide (j < ps.length) = true := decide_eq_true hjl
          have HJT : Hid (j < t.ps.length) := Lib.hid (by rw [HTE.out.2.1]; exact hjl)
          have HRN' : Hid (rightN st ps (hs.map Hd.nd) = true) := Lib.hid (by rw [HRN.out]; exact HRT.out)
          obtain ⟨z0, hz0⟩ : ∃ z, z = val (hs.map Hd.nd) ((hs.length - 1 : Nat) : Int) (prbL ps 0 j) := ⟨_, rfl⟩
          obtain ⟨z1, hz1⟩ : ∃ z, z = val (hs.map Hd.nd) ((hs.length - 1 : Nat) : Int) (prbL ps 1 j) := ⟨_, rfl⟩
          have HZ0 : Hid (z0 = val (hs.map Hd.nd) ((hs.length - 1 : Nat) : Int) (prbL ps 0 j)) := Lib.hid hz0
          have HZ1 : Hid (z1 = val (hs.map Hd.nd) ((hs.length - 1 : Nat) : Int) (prbL ps 1 j)) := Lib.hid hz1
          have HH0 : Hid (hitP t 0 j = decide (z0 = 1)) := Lib.hid (by
            have h := prb_hit (s := 0) HRT.out HKT.out (by decide) HJT.out
            rw [HTE.out.1] at h ⊢
            dsimp only at h
            rw [List.length_map, ← hz0] at h
            exact h)
          have HH1 : Hid (hitP t 1 j = decide (z1 = 1)) := Lib.hid (by
            have h := prb_hit (s := 1) HRT.out HKT.out (by decide) HJT.out
            rw [HTE.out.1] at h ⊢
            dsimp only at h
            rw [List.length_map, ← hz1] at h
            exact h)
          have HJ100 : Hid (j ≤ 100) := Lib.hid (Nat.le_trans (Nat.le_of_lt hjl) (Nat.le_trans HL9.out.2 (by decide)))
          have hcall := probe_any st A c ps B d hs 0 j wr ((HNW.out.1.ext HB0.out).ext (HB2.out.trans (HBR.out.mono HB2.out.size))) ((HNW.out.2.ext HB0.out).ext (HB2.out.trans (HBR.out.mono HB2.out.size))) HRN'.out (by decide) HJ100.out
          rw [← HZ0.out] at hcall
          have HCALL := Lib.hid hcall
          have c0 := HPW.out.cell_ 0 (.int .i64 st) rfl
          have c2 := HPW.out.cell_ 2 (.slice B hs.length d) rfl
          clear hj hcall hz0 hz1
          go_wp2_with (go_at_call 30; refine HCALL.out.mono ?_; rintro e w3 ⟨rfl, hb⟩; refine Hid.out ?_)
          refine Lib.hid ?_
          have HK3 := Lib.hid (HK.out.ext hb)
          have HB3 := Lib.hid (HBR.out.trans (hb.mono HBR.out.size))
          have HP3 := Lib.hid (HP2.out.below HB3.out HP2.out.lt)
          clear hb c0 c1 c2 HCALL
          by_cases e0 : z0 = 1
          · have f0 : (z0 == 1) = true := beq_iff_eq.2 e0
            have HN0 : Hid (numsTo t 0 (j + 1) = numsTo t 0 j ++ [(j : Int)]) := Lib.hid (numsTo_yes (by rw [HH0.out]; exact decide_eq_true e0))
            clear e0
            obtain ⟨xA5, xc5, ex5, -, -⟩ := HK3.out.br.ints
            subst ex5
            have hown := HK3.out.br
            have hal : (numsTo t 0 j).length < 1000000000000 := numsTo_small (Nat.le_of_lt HJL.out) (Nat.le_trans HL9.out.2 (by decide))
            have hws : v1.heap.size ≤ w3.heap.size := HB3.out.size
            have x2 := HK3.out.blk.cell_ 2 _ rfl
            have g2 := HK3.out.blk.frozen 2
            have hpp : p < w3.heap.size := HK3.out.blk.lt
            go_wp2_with (at_builtin; refine wpList_pushIk rfl _ _ _ rfl v1.heap.size 3 Tryz.underlying28 Tryz.infoInt _ _ rfl hown _ rfl hal hws ?_)
            intro bv' w5 ho5 hk5 hn5
            have b5 := hk5.blk HK3.out.blk (own_blk_ne' HK3.out.br HK3.out.blk (by decide))
            have x5 := b5.cell_ 2 _ rfl
            have g5 := b5.frozen 2
            have HK5 := Lib.hid (HK3.out.pushB ho5 hk5 hn5)
            have HB5 : Hid (Below v1.heap.size v1 (w5.setCell ⟨p, 2, none⟩ bv')) := Lib.hid ((HB3.out.trans (hk5.to_below hws (fun g hg e => by have h1 := (own_lt' HK3.out.br e).2; omega))).setCell (p := ⟨p, 2, none⟩) (by rw [HP.out]; exact Nat.le_refl _) _)
            obtain ⟨nA5, nc5, env5, -, -⟩ := ho5.ints
            rw [List.length_append, List.length_singleton] at env5
            subst env5
            clear hown hal hws x2 g2 hpp ho5 hk5 hn5 b5
            go_upto_region 9 with fail
            obtain ⟨w6, hw6⟩ : ∃ w6, w6 = w5.setCell ⟨p, 2, none⟩ (.slice nA5 ((numsTo t 0 j).length + 1) nc5) := ⟨_, rfl⟩
            rw [← hw6] at HK5 HB5 ⊢
            clear hw6 x5 g5
            have HPS := Lib.hid (HP2.out.below HB5.out HP2.out.lt)
            have c0 := HPS.out.cell_ 0 (.int .i64 st) rfl
            have c1 := HPS.out.cell_ 1 (.slice A ps.length c) rfl
            have c2 := HPS.out.cell_ 2 (.slice B hs.length d) rfl
            have hcall := probe_any st A c ps B d hs 1 j w6 ((HNW.out.1.ext HB0.out).ext (HB2.out.trans (HB5.out.mono HB2.out.size))) ((HNW.out.2.ext HB0.out).ext (HB2.out.trans (HB5.out.mono HB2.out.size))) HRN'.out (by decide) HJ100.out
            rw [← HZ1.out] at hcall
            have HCALL := Lib.hid hcall
            clear hcall
            go_wp2_with (go_at_call 30; refine HCALL.out.mono ?_; rintro e w7 ⟨rfl, hb⟩; refine Hid.out ?_)
            refine Lib.hid ?_
            have HK7 := Lib.hid (HK5.out.ext hb)
            have HB7 := Lib.hid (HB5.out.trans (hb.mono HB5.out.size))
            clear hb c0 c1 c2 HCALL
            by_cases e1 : z1 = 1
            · have f1 : (z1 == 1) = true := beq_iff_eq.2 e1
              have HN1 : Hid (numsTo t 1 (j + 1) = numsTo t 1 j ++ [(j : Int)]) := Lib.hid (numsTo_yes (by rw [HH1.out]; exact decide_eq_true e1))
              clear e1
              obtain ⟨xA9, xc9, ex9, -, -⟩ := HK7.out.sr.ints
              subst ex9
              have hown := HK7.out.sr
              have hal : (numsTo t 1 j).length < 1000000000000 := numsTo_small (Nat.le_of_lt HJL.out) (Nat.le_trans HL9.out.2 (by decide))
              have hws : v1.heap.size ≤ w7.heap.size := HB7.out.size
              have x2 := HK7.out.blk.cell_ 3 _ rfl
              have g2 := HK7.out.blk.frozen 3
              have hpp : p < w7.heap.size := HK7.out.blk.lt
              go_wp2_with (at_builtin; refine wpList_pushIk rfl _ _ _ rfl v1.heap.size 3 Tryz.underlying28 Tryz.infoInt _ _ rfl hown _ rfl hal hws ?_)
              intro sv' w8 ho5 hk5 hn5
              have b5 := hk5.blk HK7.out.blk (own_blk_ne' HK7.out.sr HK7.out.blk (by decide))
              have x5 := b5.cell_ 3 _ rfl
              have g5 := b5.frozen 3
              have HK9 := Lib.hid (HK7.out.pushS ho5 hk5 hn5)
              have HB9 : Hid (Below v1.heap.size v1 (w8.setCell ⟨p, 3, none⟩ sv')) := Lib.hid ((HB7.out.trans (hk5.to_below hws (fun g hg e => by have h1 := (own_lt' HK7.out.sr e).2; omega))).setCell (p := ⟨p, 3, none⟩) (by rw [HP.out]; exact Nat.le_refl _) _)
              obtain ⟨nA9, nc9, env9, -, -⟩ := ho5.ints
              rw [List.length_append, List.length_singleton] at env9
              subst env9
              clear hown hal hws x2 g2 hpp ho5 hk5 hn5 b5
              go_wp2
              go_roundw
              case rel => exact ⟨j + 1, _, _, HJL.out, (by first | rfl | (rw [hwj]; rfl)), Lib.hid (by rw [HN0.out, HN1.out]; exact HK9.out), HB9⟩
              case measure => (try rw [hwj]); exact meas_step HJL.out
            · have f1 : (z1 == 1) = false := beq_false_of_ne e1
              have HN1 : Hid (numsTo t 1 (j + 1) = numsTo t 1 j) := Lib.hid (numsTo_no (by rw [HH1.out]; exact decide_eq_false e1))
              clear e1
              go_wp2
              go_roundw
              case rel => exact ⟨j + 1, _, _, HJL.out, (by first | rfl | (rw [hwj]; rfl)), Lib.hid (by rw [HN0.out, HN1.out]; exact HK7.out), HB7⟩
              case measure => (try rw [hwj]); exact meas_step HJL.out
          · have f0 : (z0 == 1) = false := beq_false_of_ne e0
            have HN0 : Hid (numsTo t 0 (j + 1) = numsTo t 0 j) := Lib.hid (numsTo_no (by rw [HH0.out]; exact decide_eq_false e0))
            clear e0
            have HPS := Lib.hid (HP2.out.below HB3.out HP2.out.lt)
            have c0 := HPS.out.cell_ 0 (.int .i64 st) rfl
            have c1 := HPS.out.cell_ 1 (.slice A ps.length c) rfl
            have c2 := HPS.out.cell_ 2 (.slice B hs.length d) rfl
            have hcall := probe_any st A c ps B d hs 1 j w3 ((HNW.out.1.ext HB0.out).ext (HB2.out.trans (HB3.out.mono HB2.out.size))) ((HNW.out.2.ext HB0.out).ext (HB2.out.trans (HB3.out.mono HB2.out.size))) HRN'.out (by decide) HJ100.out
            rw [← HZ1.out] at hcall
            have HCALL := Lib.hid hcall
            clear hcall
            go_wp2_with (go_at_call 30; refine HCALL.out.mono ?_; rintro e w7 ⟨rfl, hb⟩; refine Hid.out ?_)
            refine Lib.hid ?_
            have HK7 := Lib.hid (HK3.out.ext hb)
            have HB7 := Lib.hid (HB3.out.trans (hb.mono HB3.out.size))
            clear hb c0 c1 c2 HCALL
            by_cases e1 : z1 = 1
            · have f1 : (z1 == 1) = true := beq_iff_eq.2 e1
              have HN1 : Hid (numsTo t 1 (j + 1) = numsTo t 1 j ++ [(j : Int)]) := Lib.hid (numsTo_yes (by rw [HH1.out]; exact decide_eq_true e1))
              clear e1
              obtain ⟨xA9, xc9, ex9, -, -⟩ := HK7.out.sr.ints
              subst ex9
              have hown := HK7.out.sr
              have hal : (numsTo t 1 j).length < 1000000000000 := numsTo_small (Nat.le_of_lt HJL.out) (Nat.le_trans HL9.out.2 (by decide))
              have hws : v1.heap.size ≤ w7.heap.size := HB7.out.size
              have x2 := HK7.out.blk.cell_ 3 _ rfl
              have g2 := HK7.out.blk.frozen 3
              have hpp : p < w7.heap.size := HK7.out.blk.lt
              go_wp2_with (at_builtin; refine wpList_pushIk rfl _ _ _ rfl v1.heap.size 3 Tryz.underlying28 Tryz.infoInt _ _ rfl hown _ rfl hal hws ?_)
              intro sv' w8 ho5 hk5 hn5
              have b5 := hk5.blk HK7.out.blk (own_blk_ne' HK7.out.sr HK7.out.blk (by decide))
              have x5 := b5.cell_ 3 _ rfl
              have g5 := b5.frozen 3
              have HK9 := Lib.hid (HK7.out.pushS ho5 hk5 hn5)
              have HB9 : Hid (Below v1.heap.size v1 (w8.setCell ⟨p, 3, none⟩ sv')) := Lib.hid ((HB7.out.trans (hk5.to_below hws (fun g hg e => by have h1 := (own_lt' HK7.out.sr e).2; omega))).setCell (p := ⟨p, 3, none⟩) (by rw [HP.out]; exact Nat.le_refl _) _)
              obtain ⟨nA9, nc9, env9, -, -⟩ := ho5.ints
              rw [List.length_append, List.length_singleton] at env9
              subst env9
              clear hown hal hws x2 g2 hpp ho5 hk5 hn5 b5
              go_wp2
              go_roundw
              case rel => exact ⟨j + 1, _, _, HJL.out, (by first | rfl | (rw [hwj]; rfl)), Lib.hid (by rw [HN0.out, HN1.out]; exact HK9.out), HB9⟩
              case measure => (try rw [hwj]); exact meas_step HJL.out
            · have f1 : (z1 == 1) = false := beq_false_of_ne e1
              have HN1 : Hid (numsTo t 1 (j + 1) = numsTo t 1 j) := Lib.hid (numsTo_no (by rw [HH1.out]; exact decide_eq_false e1))
              clear e1
              go_wp2
              go_roundw
              case rel => exact ⟨j + 1, _, _, HJL.out, (by first | rfl | (rw [hwj]; rfl)), Lib.hid (by rw [HN0.out, HN1.out]; exact HK7.out), HB7⟩
              case measure => (try rw [hwj]); exact meas_step HJL.out
        · obtain rfl : j = ps.length := Nat.le_antisymm hj (Nat.le_of_not_lt hjl)
          obtain ⟨zb, hzb⟩ : ∃ zb, zb = numsTo t 0 ps.length := ⟨_, rfl⟩
          obtain ⟨zs, hzs⟩ : ∃ zs, zs = numsTo t 1 ps.length := ⟨_, rfl⟩
          have HK0 := HK
          rw [← hzb, ← hzs] at HK0
          obtain ⟨bA, bc, eb, hbi, hbn⟩ := HK0.out.br.ints
          obtain ⟨sA, sc, es, hsi, hsn⟩ := HK0.out.sr.ints
          subst eb es
          obtain ⟨y, hy⟩ : ∃ y : TotL, y = ⟨ps, st, zb, zs⟩ := ⟨_, rfl⟩
          have hty : totOf t = y := by unfold totOf numsP; rw [hy, HTE.out.2.1, HTE.out.2.2, hzb, hzs]
          have HNWR : Hid (Pts wr A ps) := Lib.hid ((HNW.out.1.ext HB0.out).ext (HB2.out.trans (HBR.out.mono HB2.out.size)))
          have HTR : Hid (TotR wr A bA sA y) := Lib.hid (by rw [hy]; exact ⟨HNWR.out, hbi, hsi⟩)
          obtain ⟨b1, b2, b3⟩ := back_equal HRT.out HKT.out
          obtain ⟨u, hu⟩ : ∃ u, u = (totT y).1 := ⟨_, rfl⟩
          rw [hty, ← hu] at b1
          rw [hty] at b2 b3
          have hte : totT y = (u, 0) := Prod.ext hu.symm b2
          have htot := rtotals_any A bA sA c bc sc y wr HTR.out
          rw [hte] at htot
          unfold RetAE totV at htot
          rw [hy] at htot
          dsimp only at htot
          have HTOT := Lib.hid htot
          obtain ⟨sb, hsb⟩ : ∃ sb, sb = sameP u (redT t) := ⟨_, rfl⟩
          rw [← hsb] at b1
          have HEQ := Lib.hid b1
          have HBKE : Hid (backP t = if sb = true then (y, true) else (TotL.zero, false)) := Lib.hid (by rw [back_yes HRT.out HKT.out, hty, ← hu, hsb])
          have HY := Lib.hid hy
          have HBN := Lib.hid (And.intro (And.intro hbi hbn) (And.intro hsi hsn))
          have x0 := HK0.out.blk.cell_ 0 _ rfl
          have x1 := HK0.out.blk.cell_ 1 _ rfl
          have x2 := HK0.out.blk.cell_ 2 _ rfl
          have x3 := HK0.out.blk.cell_ 3 _ rfl
          clear hzb hzs hbi hbn hsi hsn hy hty b1 b2 b3 hu hte htot hsb hj hjl hwj HK
          go_wp2_with (go_at_call 14; refine HTOT.out.mono ?_; intro e w7 hx; obtain ⟨s7, A7, n7, c7, B7, m7, d7, rfl, hat7, hb7⟩ := hx; refine Hid.out ?_)
          refine Lib.hid ?_
          obtain ⟨w8, hw8⟩ : ∃ w8, w8 = w7.alloc (.cells #[.int .i64 s7, .slice A7 n7 c7, .slice B7 m7 d7] 25) := ⟨_, rfl⟩
          obtain ⟨pU, hpU⟩ : ∃ p, p = w7.heap.size := ⟨_, rfl⟩
          have hv8 := TrV.new hat7
          rw [← hw8, ← hpU] at hv8
          have HU := Lib.hid hv8
          have hb78 : Below w7.heap.size w7 w8 := by rw [hw8]; exact below_new _ _
          have hbr8 : Below wr.heap.size wr w8 := hb7.trans (hb78.mono hb7.size)
          have HBV8 : Hid (Below v1.heap.size v1 w8) := Lib.hid (HBR.out.trans (hbr8.mono HBR.out.size))
          have HK8 := Lib.hid (HK0.out.ext hbr8)
          have HP8 := Lib.hid (HP2.out.below HBV8.out HP2.out.lt)
          have HT8 : Hid (TreeAt w8 (.agg #[.int .i64 st, .slice A ps.length c, .slice B hs.length d]) t) := Lib.hid (HTA.out.ext (HB2.out.trans (HBV8.out.mono HB2.out.size)))
          have HBR8 := Lib.hid hbr8
          have HW8 := Lib.hid (And.intro hw8 hpU)
          clear x0 x1 x2 x3 c1 hat7 hb7 hv8 hb78 hbr8 hw8 hpU HTOT HK0
          go_upto_region 12 with fail
          rw [← HW8.out.1, ← HW8.out.2]
          have hcall := requal_tv HT8.out HU.out.at_
          rw [HEQ.out] at hcall
          have HCALL := Lib.hid hcall
          obtain ⟨cU0, cU1, cU2⟩ := HU.out.cells
          have c0 := HP8.out.cell_ 0 (.int .i64 st) rfl
          have c1 := HP8.out.cell_ 1 (.slice A ps.length c) rfl
          have c2 := HP8.out.cell_ 2 (.slice B hs.length d) rfl
          clear hcall
          go_wp2_with (go_at_call 31; refine HCALL.out.mono ?_; rintro e w9 ⟨rfl, hb9⟩; refine Hid.out ?_)
          refine Lib.hid ?_
          have HB9 := Lib.hid (HBV8.out.trans (hb9.mono HBV8.out.size))
          have HK9 := Lib.hid (HK8.out.ext hb9)
          have HBR9 := Lib.hid (HBR8.out.trans (hb9.mono HBR8.out.size))
          have HQ9 := Lib.hid (HQ2.out.below HB9.out HQ2.out.lt)
          clear cU0 cU1 cU2 c0 c1 c2 hb9 HCALL
          cases sb with
          | false =>
            have HE : Hid (backP t = (TotL.zero, false)) := Lib.hid (by rw [HBKE.out]; rfl)
            have hb := HB2.out.trans (HB9.out.mono HB2.out.size)
            have q1 := HQ9.out
            have HQ1 := Lib.hid q1
            have d0 := q1.cell_ 0 (.slice none 0 0) rfl
            have d1 := q1.cell_ 1 (.int .i64 0) rfl
            have d2 := q1.cell_ 2 (.slice none 0 0) rfl
            have d3 := q1.cell_ 3 (.slice none 0 0) rfl
            have f0 := q1.frozen 0
            have f1 := q1.frozen 1
            have f2 := q1.frozen 2
            have f3 := q1.frozen 3
            have HBX := Lib.hid (HB0.out.trans (hb.mono HB0.out.size))
            clear q1 hb 
            go_wp2
            have hq : Blk ((((w9.setCell ⟨w.heap.size + 1, 0, none⟩ (.slice none 0 0)).setCell ⟨w.heap.size + 1, 1, none⟩ (.int .i64 0)).setCell ⟨w.heap.size + 1, 2, none⟩ (.slice none 0 0)).setCell ⟨w.heap.size + 1, 3, none⟩ (.slice none 0 0)) (w.heap.size + 1) 30 #[.slice none 0 0, .int .i64 0, .slice none 0 0, .slice none 0 0] := (((HQ1.out.set_ 0 (.slice none 0 0)).set_ 1 (.int .i64 0)).set_ 2 (.slice none 0 0)).set_ 3 (.slice none 0 0)
            rw [HE.out]
            exact bodyPost_ret (results_ct Tryz.results8 _ _ (w.heap.size + 1) 30 #[.slice none 0 0, .int .i64 0, .slice none 0 0, .slice none 0 0] (0, 0) _ rfl hq Tryz.underlying30 rfl Tryz.sizeTot) rfl
              ⟨none, 0, none, 0, none, 0, rfl, ⟨Pts.nil, Ints.nil, Ints.nil⟩, (((HBX.out.setCell (p := ⟨w.heap.size + 1, 0, none⟩) (by simp) _).setCell (p := ⟨w.heap.size + 1, 1, none⟩) (by simp) _).setCell (p := ⟨w.heap.size + 1, 2, none⟩) (by simp) _).setCell (p := ⟨w.heap.size + 1, 3, none⟩) (by simp) _⟩
          | true =>
            have HE : Hid (backP t = (y, true)) := Lib.hid (by rw [HBKE.out]; rfl)
            have d0 := HQ9.out.cell_ 0 (.slice none 0 0) rfl
            have d1 := HQ9.out.cell_ 1 (.int .i64 0) rfl
            have d2 := HQ9.out.cell_ 2 (.slice none 0 0) rfl
            have d3 := HQ9.out.cell_ 3 (.slice none 0 0) rfl
            have f0 := HQ9.out.frozen 0
            have f1 := HQ9.out.frozen 1
            have f2 := HQ9.out.frozen 2
            have f3 := HQ9.out.frozen 3
            have x0 := HK9.out.blk.cell_ 0 _ rfl
            have x1 := HK9.out.blk.cell_ 1 _ rfl
            have x2 := HK9.out.blk.cell_ 2 _ rfl
            have x3 := HK9.out.blk.cell_ 3 _ rfl
            have HBX := Lib.hid (HB0.out.trans ((HB2.out.trans (HB9.out.mono HB2.out.size)).mono HB0.out.size))
            go_wp2
            have hq : Blk ((((w9.setCell ⟨w.heap.size + 1, 0, none⟩ (.slice A ps.length c)).setCell ⟨w.heap.size + 1, 1, none⟩ (.int .i64 st)).setCell ⟨w.heap.size + 1, 2, none⟩ (.slice bA zb.length bc)).setCell ⟨w.heap.size + 1, 3, none⟩ (.slice sA zs.length sc)) (w.heap.size + 1) 30 #[.slice A ps.length c, .int .i64 st, .slice bA zb.length bc, .slice sA zs.length sc] := (((HQ9.out.set_ 0 (.slice A ps.length c)).set_ 1 (.int .i64 st)).set_ 2 (.slice bA zb.length bc)).set_ 3 (.slice sA zs.length sc)
            have hbf := (((HBX.out.setCell (p := ⟨w.heap.size + 1, 0, none⟩) (by simp) (.slice A ps.length c)).setCell (p := ⟨w.heap.size + 1, 1, none⟩) (by simp) (.int .i64 st)).setCell (p := ⟨w.heap.size + 1, 2, none⟩) (by simp) (.slice bA zb.length bc)).setCell (p := ⟨w.heap.size + 1, 3, none⟩) (by simp) (.slice sA zs.length sc)
            have htr : TotR ((((w9.setCell ⟨w.heap.size + 1, 0, none⟩ (.slice A ps.length c)).setCell ⟨w.heap.size + 1, 1, none⟩ (.int .i64 st)).setCell ⟨w.heap.size + 1, 2, none⟩ (.slice bA zb.length bc)).setCell ⟨w.heap.size + 1, 3, none⟩ (.slice sA zs.length sc)) A bA sA y := by
              obtain ⟨z1, z2, z3⟩ := HTR.out.ext HBR9.out
              rw [HY.out] at z1 z2 z3 ⊢
              have k1 : w.heap.size + 1 < v1.heap.size := HQ2.out.lt
              have h0 : Pts w A ps := HNW.out.1
              exact ⟨((((z1.set_old (p := ⟨w.heap.size + 1, 0, none⟩) h0 (Nat.le_succ _) _).set_old (p := ⟨w.heap.size + 1, 1, none⟩) h0 (Nat.le_succ _) _).set_old (p := ⟨w.heap.size + 1, 2, none⟩) h0 (Nat.le_succ _) _).set_old (p := ⟨w.heap.size + 1, 3, none⟩) h0 (Nat.le_succ _) _), ((((z2.set_new (p := ⟨w.heap.size + 1, 0, none⟩) HBN.out.1.2 k1 _).set_new (p := ⟨w.heap.size + 1, 1, none⟩) HBN.out.1.2 k1 _).set_new (p := ⟨w.heap.size + 1, 2, none⟩) HBN.out.1.2 k1 _).set_new (p := ⟨w.heap.size + 1, 3, none⟩) HBN.out.1.2 k1 _), ((((z3.set_new (p := ⟨w.heap.size + 1, 0, none⟩) HBN.out.2.2 k1 _).set_new (p := ⟨w.heap.size + 1, 1, none⟩) HBN.out.2.2 k1 _).set_new (p := ⟨w.heap.size + 1, 2, none⟩) HBN.out.2.2 k1 _).set_new (p := ⟨w.heap.size + 1, 3, none⟩) HBN.out.2.2 k1 _)⟩
            rw [HE.out]
            refine bodyPost_ret (results_ct Tryz.results8 _ _ (w.heap.size + 1) 30 #[.slice A ps.length c, .int .i64 st, .slice bA zb.length bc, .slice sA zs.length sc] (0, 0) _ rfl hq Tryz.underlying30 rfl Tryz.sizeTot) rfl
              ⟨A, c, bA, bc, sA, sc, ?_, htr, hbf⟩
            rw [HY.out]
            rfl
end Go.Proofs.YtmlhkbgifnifdaaGreatDoor
namespace Go.Proofs.YtmlhkbgifnifdaaGreatDoor
open Go.RowKit Go.Maps
set_option maxRecDepth 100000
set_option linter.unusedVariables false
set_option linter.unusedSimpArgs false

theorem any_take {α : Type} {p : α → Bool} {l : List α} {i : Nat} (hi : i < l.length) (h : (l.take i).any p = false) (h2 : p l[i] = false) : (l.take (i + 1)).any p = false := by
  rw [List.take_succ_eq_append_getElem hi, List.any_append, h]
  simp [h2]
theorem any_at {α : Type} {p : α → Bool} {l : List α} {i : Nat} (hi : i < l.length) (h2 : p l[i] = true) : l.any p = true := by
  rw [List.any_eq_true]
  exact ⟨l[i], List.getElem_mem hi, h2⟩
def bigN (x : Nd) : Bool := decide (20 < x.2.length)
def fewB (ps : List (Int × Int)) (ns : List Nd) : Bool := !(decide (40 < ps.length) || decide (400 < ns.length)) && !ns.any bigN
def smallB (t : PT) (n : Int) : Bool := fewB t.ps t.ns && decide ((t.ns.length : Int) ≤ n)
set_option maxHeartbeats 8000000 in
theorem few_any (st : Int) (A : Option Addr) (c : Nat) (ps : List (Int × Int)) (B : Option Addr) (d : Nat) (hs : List Hd) (w : World) (hN : Nds w B hs) :
    Calls Tryz.prog 5 #[.agg #[.int .i64 st, .slice A ps.length c, .slice B hs.length d]] w fun e w' => e = .returned (.bool (fewB ps (hs.map Hd.nd))) ∧ Below w.heap.size w w' := by
  obtain ⟨w0, hw0⟩ : ∃ w0, w0 = w.alloc (.cells #[.int .i64 st, .slice A ps.length c, .slice B hs.length d] 25) := ⟨_, rfl⟩
  have hb0 : Below w.heap.size w w0 := by rw [hw0]; exact below_new _ _
  have p0 : Blk w0 w.heap.size 25 #[.int .i64 st, .slice A ps.length c, .slice B hs.length d] := by rw [hw0]; exact Blk.new _ _ _
  have c1 := p0.cell_ 1 (.slice A ps.length c) rfl
  have c2 := p0.cell_ 2 (.slice B hs.length d) rfl
  have HN := Lib.hid (hN.ext hb0)
  have HB0 := Lib.hid hb0
  have HP0 := Lib.hid p0
  have HW0 := Lib.hid hw0
  have hlen := hN.le
  clear hb0 p0 hw0 hN
  by_cases h1 : 40 < ps.length
  · have d1 : decide ((40 : Int) < (ps.length : Int)) = true := decide_eq_true (by omega)
    have d1' : decide (40 < ps.length) = true := decide_eq_true h1
    have HE : Hid (fewB ps (hs.map Hd.nd) = false) := Lib.hid (by unfold fewB; rw [d1']; rfl)
    clear h1 hlen
    go_enter Tryz.func5, Tryz.ntmps5
    go_upto_region 1 with fail
    rw [← HW0.out]
    go_wp2
    go_ret
    exact ⟨ret_bool (by rw [HE.out]), HB0.out⟩
  have d1 : decide ((40 : Int) < (ps.length : Int)) = false := decide_eq_false (by omega)
  have d1' : decide (40 < ps.length) = false := decide_eq_false h1
  by_cases h2 : 400 < hs.length
  · have d2 : decide ((400 : Int) < (hs.length : Int)) = true := decide_eq_true (by omega)
    have d2' : decide (400 < hs.length) = true := decide_eq_true h2
    have HE : Hid (fewB ps (hs.map Hd.nd) = false) := Lib.hid (by unfold fewB; rw [List.length_map, d1', d2']; rfl)
    clear h1 h2 hlen
    go_enter Tryz.func5, Tryz.ntmps5
    go_upto_region 1 with fail
    rw [← HW0.out]
    go_wp2
    go_ret
    exact ⟨ret_bool (by rw [HE.out]), HB0.out⟩
  have d2 : decide ((400 : Int) < (hs.length : Int)) = false := decide_eq_false (by omega)
  have d2' : decide (400 < hs.length) = false := decide_eq_false h2
  have HE : Hid (fewB ps (hs.map Hd.nd) = !(hs.map Hd.nd).any bigN) := Lib.hid (by unfold fewB; rw [List.length_map, d1', d2']; rfl)
  have HL : Hid (hs.length ≤ 400) := Lib.hid (by omega)
  clear h1 h2 hlen
  go_enter Tryz.func5, Tryz.ntmps5
  go_upto_region 1 with fail
  rw [← HW0.out]
  go_wp2
  clear c1 c2
  go_loopw [17] (fun iv wr => ∃ k : Nat, k ≤ hs.length ∧ iv = .int .i64 k ∧ Hid (Below w0.heap.size w0 wr) ∧ Hid (((hs.map Hd.nd).take k).any bigN = false)) (fun iv _ => hs.length - (intOf iv).toNat)
  case atStart => exact ⟨0, Nat.zero_le _, rfl, Lib.hid (Below.refl _ _), Lib.hid (by simp)⟩
  case round =>
    obtain ⟨k, hk, rfl, HBR, HNB⟩ := hrel
    have hwk : wrap64 ((k : Int) + 1) = (k : Int) + 1 := by have := HL.out; unfold wrap64; omega
    have c2 := (HP0.out.below HBR.out HP0.out.lt).cell_ 2 (.slice B hs.length d) rfl
    by_cases hkl : k < hs.length
    · obtain ⟨b, o, e, -, g0, g1, -⟩ := (HN.out.ext HBR.out).at_ hkl
      have HAT : Hid ((hs.map Hd.nd)[k]'(by rw [List.length_map]; exact hkl) = hs[k].nd) := Lib.hid (List.getElem_map ..)
      have HST : Hid (bigN hs[k].nd = false → ((hs.map Hd.nd).take (k + 1)).any bigN = false) := Lib.hid (fun h => any_take (by rw [List.length_map]; exact hkl) HNB.out (by rw [HAT.out]; exact h))
      have HHIT : Hid (bigN hs[k].nd = true → (hs.map Hd.nd).any bigN = true) := Lib.hid (fun h => any_at (by rw [List.length_map]; exact hkl) (by rw [HAT.out]; exact h))
      clear HAT
      obtain ⟨x, hx⟩ : ∃ x, x = hs[k] := ⟨_, rfl⟩
      rw [← hx] at g0 g1 HST HHIT
      obtain ⟨lv, zA, zc, zs⟩ := x
      dsimp only at g0 g1
      have HKL := Lib.hid hkl
      subst e
      clear hx hk
      by_cases hz : 20 < zs.length
      · have d3 : decide ((20 : Int) < (zs.length : Int)) = true := decide_eq_true (by omega)
        have d3' : decide (20 < zs.length) = true := decide_eq_true hz
        have HF := Lib.hid (HHIT.out d3')
        clear hz
        go_wp2
        go_ret
        exact ⟨ret_bool (by rw [HE.out, HF.out]; rfl), HB0.out.trans (HBR.out.mono HB0.out.size)⟩
      · have d3 : decide ((20 : Int) < (zs.length : Int)) = false := decide_eq_false (by omega)
        have d3' : decide (20 < zs.length) = false := decide_eq_false hz
        have HF := Lib.hid (HST.out d3')
        clear hz
        go_wp2
        go_roundw
        case rel => exact ⟨k + 1, HKL.out, (by first | rfl | (rw [hwk]; rfl)), HBR, HF⟩
        case measure => (try rw [hwk]); exact meas_step HKL.out
    · have hke : k = hs.length := Nat.le_antisymm hk (Nat.le_of_not_lt hkl)
      have HF : Hid ((hs.map Hd.nd).any bigN = false) := Lib.hid (by
        have := HNB.out
        rwa [List.take_of_length_le (by rw [List.length_map, hke]; exact Nat.le_refl _)] at this)
      clear hke hk
      go_wp2
      go_ret
      exact ⟨ret_bool (by rw [HE.out, HF.out]; rfl), HB0.out.trans (HBR.out.mono HB0.out.size)⟩
section
variable {w w' : World} {t u : PT} {v x : Value}
theorem few_tv (h : TreeAt w v t) : Calls Tryz.prog 5 #[v] w fun e w' => e = .returned (.bool (fewB t.ps t.ns)) ∧ Below w.heap.size w w' := by
  obtain ⟨A, c, B, d, os, rfl, h1, h2, h3⟩ := h
  have := few_any t.st A c t.ps B d os w h2
  rw [h3] at this
  exact this
theorem rred_tv (h : TreeAt w v t) : Calls Tryz.prog 12 #[v] w (RetA (redT t) w) := by
  obtain ⟨A, c, B, d, os, rfl, h1, h2, h3⟩ := h
  have := rreduce_any t.st A c t.ps B d os w h1 h2
  rw [h3] at this
  exact this.mono fun _ _ h => h.a
theorem rback_tv (h : TreeAt w v t) : Calls Tryz.prog 8 #[v] w (RetTot (backP t) w) := by
  obtain ⟨A, c, B, d, os, rfl, h1, h2, h3⟩ := h
  have := rback_any t.st A c t.ps B d os w h1 h2
  rw [h3] at this
  exact this
end
end Go.Proofs.YtmlhkbgifnifdaaGreatDoor
