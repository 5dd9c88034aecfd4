/-
  cellularref08.Complement: the rule with the states exchanged. No condition.
-/
import Derived.Test.YtnobnlbjgaanmaaOwn2
import Derived.Test.YtnobnlbjgaanmaaComplW
namespace Go.Proofs.Ytnobnlbjgaanmaa
open Go.RowKit
set_option linter.unusedVariables false
set_option linter.unusedSimpArgs false

/-- what is known while the two lists grow: base is the rule's block -/
structure CR (w1 : World) (o : Nat) (hv : Value) (zs ys : List Int) (v2 v3 : Value) (w : World) : Prop where
  blk : Blk w o 25 #[hv, .int .i64 2, v2, v3]
  own2 : OwnI 3 w (o + 1) v2 zs
  own3 : OwnI 3 w (o + 1) v3 ys
  apart : Apart v2 v3
  below : Below o w1 w
section
variable {w1 w w' : World} {o : Nat} {hv v2 v3 v' : Value} {zs ys xs : List Int}
theorem CR.push2 (H : CR w1 o hv zs ys v2 v3 w) (hv' : OwnI 3 w' (o + 1) v' xs) (G : Grew (o + 1) w w' v2 v') : CR w1 o hv xs ys v' v3 (w'.setCell ⟨o, 2, none⟩ v') := by
  have h3 := G.own H.own3 H.apart.symm
  exact ⟨(H.blk.below G.below (by omega)).set_ 2 v', own_far hv' (by simp) _, own_far h3 (by simp) _, (G.apart H.own3 H.apart.symm).symm, (H.below.trans (G.below.mono (by omega))).setCell (p := ⟨o, 2, none⟩) (Nat.le_refl _) v'⟩
theorem CR.push3 (H : CR w1 o hv zs ys v2 v3 w) (hv' : OwnI 3 w' (o + 1) v' xs) (G : Grew (o + 1) w w' v3 v') : CR w1 o hv zs xs v2 v' (w'.setCell ⟨o, 3, none⟩ v') := by
  have h2 := G.own H.own2 H.apart
  exact ⟨(H.blk.below G.below (by omega)).set_ 3 v', own_far h2 (by simp) _, own_far hv' (by simp) _, G.apart H.own2 H.apart, (H.below.trans (G.below.mono (by omega))).setCell (p := ⟨o, 3, none⟩) (Nat.le_refl _) v'⟩
end
set_option maxHeartbeats 4000000 in
theorem rcompl_any (A B C : Option Addr) (a b c : Nat) (t : TotL) (w : World) (ht : TotR w A B C t) :
    Calls Try.prog 18 #[totV A a B b C c t] w (RetTot (complL t) w) := by
  have hb0 := (Below.refl w.heap.size w).alloc (Nat.le_refl _) (.cells #[.slice A t.hood.length a, .int .i64 t.states, .slice B t.birth.length b, .slice C t.survive.length c] 25)
  have hb1 := hb0.alloc hb0.size (.cells #[.slice none 0 0, .int .i64 0, .slice none 0 0, .slice none 0 0] 25)
  have HR := Lib.hid (rright_any A B C a b c t _ (ht.ext hb1))
  unfold totV at *
  cases k1 : rightT t
  · have e1 : complL t = (zeroT, 2) := by unfold complL; rw [k1]; rfl
    rw [k1] at HR
    have E1 := Lib.hid e1
    clear k1 e1
    go_enter Try.func18, Try.ntmps18
    go_wp2_with fail
    refine HR.out.mono ?_
    rintro e w1 ⟨rfl, hb2⟩
    have br0 : Blk ((w.alloc (.cells #[.slice A t.hood.length a, .int .i64 t.states, .slice B t.birth.length b, .slice C t.survive.length c] 25)).alloc (.cells #[.slice none 0 0, .int .i64 0, .slice none 0 0, .slice none 0 0] 25)) (w.heap.size + 1) 25 #[.slice none 0 0, .int .i64 0, .slice none 0 0, .slice none 0 0] := by
      have := Blk.new (w.alloc (.cells #[.slice A t.hood.length a, .int .i64 t.states, .slice B t.birth.length b, .slice C t.survive.length c] 25)) 25 #[.slice none 0 0, .int .i64 0, .slice none 0 0, .slice none 0 0]
      simpa using this
    have bt0 := (Blk.new w 25 #[.slice A t.hood.length a, .int .i64 t.states, .slice B t.birth.length b, .slice C t.survive.length c]).alloc (.cells #[.slice none 0 0, .int .i64 0, .slice none 0 0, .slice none 0 0] 25)
    have br := br0.below hb2 br0.lt
    have bt := bt0.below hb2 bt0.lt
    have hb3 := hb1.trans (hb2.mono hb1.size)
    have c1 := bt.cell_ 1 _ rfl
    have r0 := br.cell_ 0 _ rfl
    have r1 := br.cell_ 1 _ rfl
    have r2 := br.cell_ 2 _ rfl
    have r3 := br.cell_ 3 _ rfl
    have g0 := br.frozen 0
    have g1 := br.frozen 1
    have g2 := br.frozen 2
    have g3 := br.frozen 3
    have HB := Lib.hid hb3
    clear br0 bt0 hb0 hb1 hb2 hb3 br bt ht
    go_wp2
    refine bodyPost_ret (v := .tuple #[.agg #[.slice none 0 0, .int .i64 0, .slice none 0 0, .slice none 0 0], .int .i64 2]) (by simp [results, Try.results18, go_sem, r0, r1, r2, r3]) rfl ?_
    rw [E1.out]
    exact ⟨none, 0, none, 0, none, 0, rfl, TotR.zero _, below_set4 HB.out (by simp) _ _ _ _⟩
  have RS := Lib.hid (right_spec k1)
  cases k2 : (t.states == 2)
  · have e1 : complL t = (zeroT, 2) := by unfold complL; rw [k1, k2]; rfl
    have d1 : (t.states != 2) = true := by simpa [bne] using k2
    rw [k1] at HR
    have E1 := Lib.hid e1
    clear k1 e1 k2
    go_enter Try.func18, Try.ntmps18
    go_wp2_with fail
    refine HR.out.mono ?_
    rintro e w1 ⟨rfl, hb2⟩
    have br0 : Blk ((w.alloc (.cells #[.slice A t.hood.length a, .int .i64 t.states, .slice B t.birth.length b, .slice C t.survive.length c] 25)).alloc (.cells #[.slice none 0 0, .int .i64 0, .slice none 0 0, .slice none 0 0] 25)) (w.heap.size + 1) 25 #[.slice none 0 0, .int .i64 0, .slice none 0 0, .slice none 0 0] := by
      have := Blk.new (w.alloc (.cells #[.slice A t.hood.length a, .int .i64 t.states, .slice B t.birth.length b, .slice C t.survive.length c] 25)) 25 #[.slice none 0 0, .int .i64 0, .slice none 0 0, .slice none 0 0]
      simpa using this
    have bt0 := (Blk.new w 25 #[.slice A t.hood.length a, .int .i64 t.states, .slice B t.birth.length b, .slice C t.survive.length c]).alloc (.cells #[.slice none 0 0, .int .i64 0, .slice none 0 0, .slice none 0 0] 25)
    have br := br0.below hb2 br0.lt
    have bt := bt0.below hb2 bt0.lt
    have hb3 := hb1.trans (hb2.mono hb1.size)
    have c1 := bt.cell_ 1 _ rfl
    have r0 := br.cell_ 0 _ rfl
    have r1 := br.cell_ 1 _ rfl
    have r2 := br.cell_ 2 _ rfl
    have r3 := br.cell_ 3 _ rfl
    have g0 := br.frozen 0
    have g1 := br.frozen 1
    have g2 := br.frozen 2
    have g3 := br.frozen 3
    have HB := Lib.hid hb3
    clear br0 bt0 hb0 hb1 hb2 hb3 br bt ht
    go_wp2
    refine bodyPost_ret (v := .tuple #[.agg #[.slice none 0 0, .int .i64 0, .slice none 0 0, .slice none 0 0], .int .i64 2]) (by simp [results, Try.results18, go_sem, r0, r1, r2, r3]) rfl ?_
    rw [E1.out]
    exact ⟨none, 0, none, 0, none, 0, rfl, TotR.zero _, below_set4 HB.out (by simp) _ _ _ _⟩
  have e1 : complL t = (complT t, 0) := by unfold complL; rw [k1, k2]; rfl
  have d1 : (t.states != 2) = false := by simpa [bne] using k2
  have es : t.states = 2 := by simpa using k2
  rw [e1]
  rw [k1] at HR
  clear k1 e1 k2
  have ES := Lib.hid es
  clear es
  go_enter Try.func18, Try.ntmps18
  go_wp2_with fail
  refine HR.out.mono ?_
  rintro e w1 ⟨rfl, hb2⟩
  have br0 : Blk ((w.alloc (.cells #[.slice A t.hood.length a, .int .i64 t.states, .slice B t.birth.length b, .slice C t.survive.length c] 25)).alloc (.cells #[.slice none 0 0, .int .i64 0, .slice none 0 0, .slice none 0 0] 25)) (w.heap.size + 1) 25 #[.slice none 0 0, .int .i64 0, .slice none 0 0, .slice none 0 0] := by
    have := Blk.new (w.alloc (.cells #[.slice A t.hood.length a, .int .i64 t.states, .slice B t.birth.length b, .slice C t.survive.length c] 25)) 25 #[.slice none 0 0, .int .i64 0, .slice none 0 0, .slice none 0 0]
    simpa using this
  have bt0 := (Blk.new w 25 #[.slice A t.hood.length a, .int .i64 t.states, .slice B t.birth.length b, .slice C t.survive.length c]).alloc (.cells #[.slice none 0 0, .int .i64 0, .slice none 0 0, .slice none 0 0] 25)
  have br := br0.below hb2 br0.lt
  have bt := bt0.below hb2 bt0.lt
  have hb3 := hb1.trans (hb2.mono hb1.size)
  have c0 := bt.cell_ 0 _ rfl
  have c1 := bt.cell_ 1 _ rfl
  have hq0 : w.heap.size + 2 ≤ w1.heap.size := by have := hb2.size; simp at this; omega
  have hhl : t.hood.length ≤ 9 := RS.out.2.2.1
  have hhl1 : 1 ≤ t.hood.length := RS.out.2.1
  have hst : CR w1 w1.heap.size (.slice A t.hood.length a) [] [] (.slice none 0 0) (.slice none 0 0) (w1.alloc (.cells #[.slice A t.hood.length a, .int .i64 2, .slice none 0 0, .slice none 0 0] 25)) :=
    ⟨Blk.new _ _ _, OwnI.nil _ _ _, OwnI.nil _ _ _, .inl rfl, below_new _ _⟩
  have HS := Lib.hid hst
  have HT := Lib.hid (And.intro bt (And.intro br hb3))
  have HI := Lib.hid ht
  clear bt br br0 bt0 hb0 hb1 hb2 hb3 ht hst
  go_wp2
  go_loopw [6] (fun i wr => ∃ k : Nat, k ≤ t.hood.length ∧ i = .int .i64 k ∧ ∃ v2 v3, CR w1 w1.heap.size (.slice A t.hood.length a) (rngF (fun k => !decide ((t.hood.length : Int) - 1 - k ∈ t.survive)) k) (rngF (fun k => !decide ((t.hood.length : Int) - 1 - k ∈ t.birth)) k) v2 v3 wr) (fun i _ => t.hood.length - (intOf i).toNat)
  case atStart => exact ⟨0, Nat.zero_le _, rfl, _, _, HS.out⟩
  case round =>
    obtain ⟨k, hk, rfl, v2, v3, H⟩ := hrel
    have btr := HT.out.1.below H.below (by omega)
    have hbr := HT.out.2.2.trans (H.below.mono (by omega))
    have HIr := HI.out.ext hbr
    have d2 := btr.cell_ 2 _ rfl
    have d3 := btr.cell_ 3 _ rfl
    by_cases hlt : k < t.hood.length
    · have hs1 := Lib.hid (has_any C t.survive c ((t.hood.length : Int) - 1 - k) wr HIr.survive)
      have hp1 := rngF_len (fun k => !decide ((t.hood.length : Int) - 1 - k ∈ t.survive)) k
      have hp2 := rngF_len (fun k => !decide ((t.hood.length : Int) - 1 - k ∈ t.birth)) k
      obtain ⟨zs, hzs⟩ : ∃ zs, rngF (fun k => !decide ((t.hood.length : Int) - 1 - k ∈ t.survive)) k = zs := ⟨_, rfl⟩
      obtain ⟨ys, hys⟩ : ∃ ys, rngF (fun k => !decide ((t.hood.length : Int) - 1 - k ∈ t.birth)) k = ys := ⟨_, rfl⟩
      rw [hzs] at H hp1
      rw [hys] at H hp2
      have HB := Lib.hid HIr
      have hlen : wr.heap.size < wr.heap.size + 1 := by omega
      have hwr : w1.heap.size + 1 ≤ wr.heap.size := by have := H.blk.lt; omega
      cases q1 : decide ((t.hood.length : Int) - 1 - k ∈ t.survive)
      · have z1 : rngF (fun k => !decide ((t.hood.length : Int) - 1 - k ∈ t.survive)) (k + 1) = zs ++ [(k : Int)] := by rw [← hzs]; exact rngF_yes (by rw [q1]; rfl)
        rw [q1] at hs1
        cases q2 : decide ((t.hood.length : Int) - 1 - k ∈ t.birth)
        · have y1 : rngF (fun k => !decide ((t.hood.length : Int) - 1 - k ∈ t.birth)) (k + 1) = ys ++ [(k : Int)] := by rw [← hys]; exact rngF_yes (by rw [q2]; rfl)
          have Z1 := Lib.hid (And.intro z1 y1)
          have Q2 := Lib.hid q2
          clear z1 y1 hzs hys q1 q2
          go_wp2_with fail
          refine hs1.out.mono ?_
          rintro e w' ⟨rfl, hw⟩
          have hw2 := hw.symm
          clear hw
          subst hw2
          clear hs1
          obtain ⟨P2, p2, hv2, -, -⟩ := H.own2.ints
          subst hv2
          have cf := H.blk.cell_ 2 _ rfl
          have ff := H.blk.frozen 2
          have HO := Lib.hid H.own2
          have HC := Lib.hid H
          clear H
          go_wp2_with (at_builtin; refine wpList_push2I rfl _ _ _ rfl (w1.heap.size + 1) 3 Try.underlying23 Try.infoInt _ zs rfl HO.out _ rfl (by omega) (by omega) ?_)
          intro v' w2 ho G
          generalize zs ++ [(k : Int)] = zs' at *
          have hsz2 : wr.heap.size ≤ w2.heap.size := G.below.size
          obtain ⟨P', p', hv', -, -⟩ := ho.ints
          subst hv'
          have H := HC.out.push2 ho G
          have bo := HC.out.blk.below G.below (by omega)
          have cf2 := bo.cell_ 2 _ rfl
          have ff2 := bo.frozen 2
          clear ho G HO HC cf ff bo
          have btr := HT.out.1.below H.below (by omega)
          have HIr := HI.out.ext (HT.out.2.2.trans (H.below.mono (by omega)))
          have d2 := btr.cell_ 2 _ rfl
          have d3 := btr.cell_ 3 _ rfl
          have hs2 := Lib.hid (has_any B t.birth b ((t.hood.length : Int) - 1 - k) _ HIr.birth)
          rw [Q2.out] at hs2
          clear btr HIr
          have HH := Lib.hid H
          clear H
          go_wp2_with fail
          refine hs2.out.mono ?_
          rintro e w'' ⟨rfl, hw⟩
          have hw2 := hw.symm
          clear hw
          subst hw2
          clear hs2
          have H := HH.out
          clear HH
          generalize w2.setCell ⟨w1.heap.size, 2, none⟩ (.slice P' zs'.length p') = w3 at *
          obtain ⟨P3, p3, hv3, -, -⟩ := H.own3.ints
          subst hv3
          have cf := H.blk.cell_ 3 _ rfl
          have ff := H.blk.frozen 3
          have HO := Lib.hid H.own3
          have HC := Lib.hid H
          have hszc := H.blk.lt
          clear H
          go_wp2_with (at_builtin; refine wpList_push2I rfl _ _ _ rfl (w1.heap.size + 1) 3 Try.underlying23 Try.infoInt _ ys rfl HO.out _ rfl (by omega) (by omega) ?_)
          intro v4 w5 ho G
          generalize ys ++ [(k : Int)] = ys' at *
          obtain ⟨P5, p5, hv5, -, -⟩ := ho.ints
          subst hv5
          have H := HC.out.push3 ho G
          have bo := HC.out.blk.below G.below (by omega)
          have cf5 := bo.cell_ 3 _ rfl
          have ff5 := bo.frozen 3
          clear ho G HO HC cf ff bo
          have HH := Lib.hid H
          clear H
          go_wp2
          go_roundw
          case rel => exact ⟨k + 1, by omega, by go_num, _, _, by rw [Z1.out.1, Z1.out.2]; exact HH.out⟩
          case measure => simp [intOf]; omega
        · have y1 : rngF (fun k => !decide ((t.hood.length : Int) - 1 - k ∈ t.birth)) (k + 1) = ys := by rw [← hys]; exact rngF_no (by rw [q2]; rfl)
          have Z1 := Lib.hid (And.intro z1 y1)
          have Q2 := Lib.hid q2
          clear z1 y1 hzs hys q1 q2
          go_wp2_with fail
          refine hs1.out.mono ?_
          rintro e w' ⟨rfl, hw⟩
          have hw2 := hw.symm
          clear hw
          subst hw2
          clear hs1
          obtain ⟨P2, p2, hv2, -, -⟩ := H.own2.ints
          subst hv2
          have cf := H.blk.cell_ 2 _ rfl
          have ff := H.blk.frozen 2
          have HO := Lib.hid H.own2
          have HC := Lib.hid H
          clear H
          go_wp2_with (at_builtin; refine wpList_push2I rfl _ _ _ rfl (w1.heap.size + 1) 3 Try.underlying23 Try.infoInt _ zs rfl HO.out _ rfl (by omega) (by omega) ?_)
          intro v' w2 ho G
          generalize zs ++ [(k : Int)] = zs' at *
          have hsz2 : wr.heap.size ≤ w2.heap.size := G.below.size
          obtain ⟨P', p', hv', -, -⟩ := ho.ints
          subst hv'
          have H := HC.out.push2 ho G
          have bo := HC.out.blk.below G.below (by omega)
          have cf2 := bo.cell_ 2 _ rfl
          have ff2 := bo.frozen 2
          clear ho G HO HC cf ff bo
          have btr := HT.out.1.below H.below (by omega)
          have HIr := HI.out.ext (HT.out.2.2.trans (H.below.mono (by omega)))
          have d2 := btr.cell_ 2 _ rfl
          have d3 := btr.cell_ 3 _ rfl
          have hs2 := Lib.hid (has_any B t.birth b ((t.hood.length : Int) - 1 - k) _ HIr.birth)
          rw [Q2.out] at hs2
          clear btr HIr
          have HH := Lib.hid H
          clear H
          go_wp2_with fail
          refine hs2.out.mono ?_
          rintro e w'' ⟨rfl, hw⟩
          have hw2 := hw.symm
          clear hw
          subst hw2
          clear hs2
          go_wp2
          go_roundw
          case rel => exact ⟨k + 1, by omega, by go_num, _, _, by rw [Z1.out.1, Z1.out.2]; exact HH.out⟩
          case measure => simp [intOf]; omega
      · have z1 : rngF (fun k => !decide ((t.hood.length : Int) - 1 - k ∈ t.survive)) (k + 1) = zs := by rw [← hzs]; exact rngF_no (by rw [q1]; rfl)
        rw [q1] at hs1
        cases q2 : decide ((t.hood.length : Int) - 1 - k ∈ t.birth)
        · have y1 : rngF (fun k => !decide ((t.hood.length : Int) - 1 - k ∈ t.birth)) (k + 1) = ys ++ [(k : Int)] := by rw [← hys]; exact rngF_yes (by rw [q2]; rfl)
          have Z1 := Lib.hid (And.intro z1 y1)
          have Q2 := Lib.hid q2
          clear z1 y1 hzs hys q1 q2
          go_wp2_with fail
          refine hs1.out.mono ?_
          rintro e w' ⟨rfl, hw⟩
          have hw2 := hw.symm
          clear hw
          subst hw2
          clear hs1

          have hs2 := Lib.hid (has_any B t.birth b ((t.hood.length : Int) - 1 - k) _ HIr.birth)
          rw [Q2.out] at hs2
          have HH := Lib.hid H
          clear H
          go_wp2_with fail
          refine hs2.out.mono ?_
          rintro e w'' ⟨rfl, hw⟩
          have hw2 := hw.symm
          clear hw
          subst hw2
          clear hs2
          have H := HH.out
          clear HH
          obtain ⟨P3, p3, hv3, -, -⟩ := H.own3.ints
          subst hv3
          have cf := H.blk.cell_ 3 _ rfl
          have ff := H.blk.frozen 3
          have HO := Lib.hid H.own3
          have HC := Lib.hid H
          have hszc := H.blk.lt
          clear H
          go_wp2_with (at_builtin; refine wpList_push2I rfl _ _ _ rfl (w1.heap.size + 1) 3 Try.underlying23 Try.infoInt _ ys rfl HO.out _ rfl (by omega) (by omega) ?_)
          intro v4 w5 ho G
          generalize ys ++ [(k : Int)] = ys' at *
          obtain ⟨P5, p5, hv5, -, -⟩ := ho.ints
          subst hv5
          have H := HC.out.push3 ho G
          have bo := HC.out.blk.below G.below (by omega)
          have cf5 := bo.cell_ 3 _ rfl
          have ff5 := bo.frozen 3
          clear ho G HO HC cf ff bo
          have HH := Lib.hid H
          clear H
          go_wp2
          go_roundw
          case rel => exact ⟨k + 1, by omega, by go_num, _, _, by rw [Z1.out.1, Z1.out.2]; exact HH.out⟩
          case measure => simp [intOf]; omega
        · have y1 : rngF (fun k => !decide ((t.hood.length : Int) - 1 - k ∈ t.birth)) (k + 1) = ys := by rw [← hys]; exact rngF_no (by rw [q2]; rfl)
          have Z1 := Lib.hid (And.intro z1 y1)
          have Q2 := Lib.hid q2
          clear z1 y1 hzs hys q1 q2
          go_wp2_with fail
          refine hs1.out.mono ?_
          rintro e w' ⟨rfl, hw⟩
          have hw2 := hw.symm
          clear hw
          subst hw2
          clear hs1

          have hs2 := Lib.hid (has_any B t.birth b ((t.hood.length : Int) - 1 - k) _ HIr.birth)
          rw [Q2.out] at hs2
          have HH := Lib.hid H
          clear H
          go_wp2_with fail
          refine hs2.out.mono ?_
          rintro e w'' ⟨rfl, hw⟩
          have hw2 := hw.symm
          clear hw
          subst hw2
          clear hs2
          go_wp2
          go_roundw
          case rel => exact ⟨k + 1, by omega, by go_num, _, _, by rw [Z1.out.1, Z1.out.2]; exact HH.out⟩
          case measure => simp [intOf]; omega
    · obtain rfl : k = t.hood.length := by omega
      obtain ⟨zs, hzs⟩ : ∃ zs, rngF (fun k => !decide ((t.hood.length : Int) - 1 - k ∈ t.survive)) t.hood.length = zs := ⟨_, rfl⟩
      obtain ⟨ys, hys⟩ : ∃ ys, rngF (fun k => !decide ((t.hood.length : Int) - 1 - k ∈ t.birth)) t.hood.length = ys := ⟨_, rfl⟩
      rw [hzs, hys] at H
      have est : complT t = ⟨t.hood, 2, zs, ys⟩ := by unfold complT; rw [ES.out, hzs, hys]
      clear hzs hys
      obtain ⟨A2, a2, hv2, hi2, hn2⟩ := H.own2.ints
      subst hv2
      obtain ⟨A4, a4, hv4, hi4, hn4⟩ := H.own3.ints
      subst hv4
      have brr := HT.out.2.1.below H.below (by omega)
      have t0 := H.blk.cell_ 0 _ rfl
      have t1 := H.blk.cell_ 1 _ rfl
      have t2 := H.blk.cell_ 2 _ rfl
      have t3 := H.blk.cell_ 3 _ rfl
      have r0 := brr.cell_ 0 _ rfl
      have r1 := brr.cell_ 1 _ rfl
      have r2 := brr.cell_ 2 _ rfl
      have r3 := brr.cell_ 3 _ rfl
      have g0 := brr.frozen 0
      have g1 := brr.frozen 1
      have g2 := brr.frozen 2
      have g3 := brr.frozen 3
      have QF := Lib.hid (And.intro hbr (And.intro hi2 (And.intro hi4 (And.intro hn2 hn4))))
      have EST := Lib.hid est
      clear brr H d2 d3 hi2 hi4 hn2 hn4 btr hbr HIr est
      go_wp2
      refine bodyPost_ret (v := .tuple #[.agg #[.slice A t.hood.length a, .int .i64 2, .slice A2 zs.length a2, .slice A4 ys.length a4], .int .i64 0]) (by simp [results, Try.results18, go_sem, r0, r1, r2, r3]) rfl ?_
      have hbF := below_set4 QF.out.1 (b := w.heap.size + 1) (by omega) (.slice A t.hood.length a) (.int .i64 2) (.slice A2 zs.length a2) (.slice A4 ys.length a4)
      have hn2r : NewA (w.heap.size + 2) A2 := QF.out.2.2.2.1.mono (by omega)
      have hn4r : NewA (w.heap.size + 2) A4 := QF.out.2.2.2.2.mono (by omega)
      rw [EST.out]
      refine ⟨A, a, A2, a2, A4, a4, rfl, ⟨(HI.out.ext hbF).hood, ?_, ?_⟩, hbF⟩
      · exact (((QF.out.2.1.set_new hn2r (by simp) _).set_new hn2r (by simp) _).set_new hn2r (by simp) _).set_new hn2r (by simp) _
      · exact (((QF.out.2.2.1.set_new hn4r (by simp) _).set_new hn4r (by simp) _).set_new hn4r (by simp) _).set_new hn4r (by simp) _
end Go.Proofs.Ytnobnlbjgaanmaa
