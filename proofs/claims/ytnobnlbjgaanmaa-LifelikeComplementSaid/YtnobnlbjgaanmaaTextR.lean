/-
  cellularref08.Write, Text: digits as a string; a rule by counts as a text. No condition.
-/
import Derived.Test.YtnobnlbjgaanmaaText
import Derived.Test.YtnobnlbjgaanmaaDigR
import Derived.Deep.RegionWith
namespace Go.Proofs.Ytnobnlbjgaanmaa
open Go.RowKit
set_option linter.unusedVariables false

theorem ret_str {a b : ByteArray} (h : a = b) : Ending.returned (.string a) = .returned (.string b) := by rw [h]
def dig10 : ByteArray := ⟨#[48, 49, 50, 51, 52, 53, 54, 55, 56, 57]⟩
theorem dig10_cut0 (w : World) : (Instr.slice 9 (.string dig10) (some (.int .i64 0)) (some (.int .i64 (0 + 1))) none).run Try.prog w = .ok (.string ⟨#[digC 0]⟩) w := by kernel_rfl
theorem dig10_cut1 (w : World) : (Instr.slice 9 (.string dig10) (some (.int .i64 1)) (some (.int .i64 (1 + 1))) none).run Try.prog w = .ok (.string ⟨#[digC 1]⟩) w := by kernel_rfl
theorem dig10_cut2 (w : World) : (Instr.slice 9 (.string dig10) (some (.int .i64 2)) (some (.int .i64 (2 + 1))) none).run Try.prog w = .ok (.string ⟨#[digC 2]⟩) w := by kernel_rfl
theorem dig10_cut3 (w : World) : (Instr.slice 9 (.string dig10) (some (.int .i64 3)) (some (.int .i64 (3 + 1))) none).run Try.prog w = .ok (.string ⟨#[digC 3]⟩) w := by kernel_rfl
theorem dig10_cut4 (w : World) : (Instr.slice 9 (.string dig10) (some (.int .i64 4)) (some (.int .i64 (4 + 1))) none).run Try.prog w = .ok (.string ⟨#[digC 4]⟩) w := by kernel_rfl
theorem dig10_cut5 (w : World) : (Instr.slice 9 (.string dig10) (some (.int .i64 5)) (some (.int .i64 (5 + 1))) none).run Try.prog w = .ok (.string ⟨#[digC 5]⟩) w := by kernel_rfl
theorem dig10_cut6 (w : World) : (Instr.slice 9 (.string dig10) (some (.int .i64 6)) (some (.int .i64 (6 + 1))) none).run Try.prog w = .ok (.string ⟨#[digC 6]⟩) w := by kernel_rfl
theorem dig10_cut7 (w : World) : (Instr.slice 9 (.string dig10) (some (.int .i64 7)) (some (.int .i64 (7 + 1))) none).run Try.prog w = .ok (.string ⟨#[digC 7]⟩) w := by kernel_rfl
theorem dig10_cut8 (w : World) : (Instr.slice 9 (.string dig10) (some (.int .i64 8)) (some (.int .i64 (8 + 1))) none).run Try.prog w = .ok (.string ⟨#[digC 8]⟩) w := by kernel_rfl
theorem dig10_cut9 (w : World) : (Instr.slice 9 (.string dig10) (some (.int .i64 9)) (some (.int .i64 (9 + 1))) none).run Try.prog w = .ok (.string ⟨#[digC 9]⟩) w := by kernel_rfl
theorem dig10_cut (z : Int) (h0 : 0 ≤ z) (h1 : z ≤ 9) (w : World) : (Instr.slice 9 (.string dig10) (some (.int .i64 z)) (some (.int .i64 (z + 1))) none).run Try.prog w = .ok (.string ⟨#[digC z]⟩) w := by
  have h : z = 0 ∨ z = 1 ∨ z = 2 ∨ z = 3 ∨ z = 4 ∨ z = 5 ∨ z = 6 ∨ z = 7 ∨ z = 8 ∨ z = 9 := by omega
  rcases h with rfl | rfl | rfl | rfl | rfl | rfl | rfl | rfl | rfl | rfl
  · exact dig10_cut0 w
  · exact dig10_cut1 w
  · exact dig10_cut2 w
  · exact dig10_cut3 w
  · exact dig10_cut4 w
  · exact dig10_cut5 w
  · exact dig10_cut6 w
  · exact dig10_cut7 w
  · exact dig10_cut8 w
  · exact dig10_cut9 w
set_option maxHeartbeats 1000000 in
theorem write_any (A : Option Addr) (c : Nat) (zs : List Int) (w : World) (ha : Ints w A zs) (hz : ∀ z ∈ zs, 0 ≤ z ∧ z ≤ 9) (hlen : zs.length ≤ 1000000) :
    Calls Try.prog 42 #[.slice A zs.length c] w fun e w' => e = .returned (.string ⟨(zs.map digC).toArray⟩) ∧ Qt w w' := by
  have hn := ha.le
  have HZ := Lib.hid hz
  clear hz
  obtain ⟨ds, hds⟩ : ∃ ds, ds = zs.map digC := ⟨_, rfl⟩
  have hdl : ds.length = zs.length := by rw [hds, List.length_map]
  have hda : ∀ k (h : k < zs.length), ds.take (k + 1) = ds.take k ++ [digC zs[k]] := by
    intro k h
    rw [hds, ← List.map_take, map_take_succ digC h, List.map_take]
  rw [← hds]
  have HD := Lib.hid (And.intro hdl hda)
  clear hds hdl hda
  go_enter Try.func42, Try.ntmps42
  go_wp2
  go_loopw [3, 4] (fun v i wr => ∃ k q : Nat, k ≤ zs.length ∧ i = .int .i64 k ∧ v = .string ⟨(ds.take k).toArray⟩ ∧ wr = w.drewN q) (fun _ i _ => zs.length - (intOf i).toNat)
  case atStart => exact ⟨0, 0, Nat.zero_le _, rfl, rfl, rfl⟩
  case round =>
    obtain ⟨k, q, hk, rfl, rfl, rfl⟩ := hrel
    by_cases hlt : k < zs.length
    · obtain ⟨b1, o1, rfl, -, hc⟩ := ha.at_ hlt
      obtain ⟨g0, g1⟩ := HZ.out _ (List.getElem_mem hlt)
      have hcut := dig10_cut zs[k] g0 g1
      unfold dig10 at hcut
      have hw : IntKind.i64.wrap (zs[k] + 1) = zs[k] + 1 := IntWalk.i64_in _ (by omega)
      have hadd : ∀ w, (Op.stringOp .add ⟨(ds.take k).toArray⟩ ⟨#[digC zs[k]]⟩).run Try.prog w = .ok (.string ⟨(ds.take (k + 1)).toArray⟩) w := by
        intro w
        rw [run_string_add_sum (P := Try.prog) w _ _ (by simp [ByteArray.size]; omega), text_end, HD.out.2 k hlt]
      go_wp2
      go_quiet (fail)
      go_wp2
      go_roundw
      case rel => exact ⟨k + 1, _, by omega, by go_num, rfl, rfl⟩
      case measure => simp [intOf]; omega
    · have hkl : k = zs.length := by omega
      have hfin : ds.take k = ds := List.take_of_length_le (by rw [HD.out.1]; omega)
      rw [hfin]
      subst hkl
      clear hfin
      go_wp2
      go_ret
      exact ⟨rfl, Qt.drewN _ _⟩

set_option maxHeartbeats 2000000 in
theorem rtext_any (A B C : Option Addr) (a b c : Nat) (t : TotL) (w : World) (ht : TotR w A B C t) :
    Calls Try.prog 16 #[totV A a B b C c t] w fun e w' => e = .returned (.string ⟨(textL t).toArray⟩) ∧ Below w.heap.size w w' := by
  have hb0 := (Below.refl w.heap.size w).alloc (Nat.le_refl _) (.cells #[.slice A t.hood.length a, .int .i64 t.states, .slice B t.birth.length b, .slice C t.survive.length c] 25)
  have HR := Lib.hid (rright_any A B C a b c t _ (ht.ext hb0))
  unfold totV at *
  cases k1 : rightT t
  · have e1 : textL t = [] := by unfold textL; rw [k1]; rfl
    rw [e1]
    rw [k1] at HR
    clear k1 e1
    go_enter Try.func16, Try.ntmps16
    go_wp2_with fail
    refine HR.out.mono ?_
    rintro e w1 ⟨rfl, hb1⟩
    have hb2 := hb0.trans (hb1.mono hb0.size)
    go_wp2
    go_ret
    exact ⟨rfl, hb2⟩
  have RS := Lib.hid (right_spec k1)
  cases k2 : (t.states == 2)
  · have e1 : textL t = [] := by unfold textL; rw [k1, k2]; rfl
    have d1 : (t.states != 2) = true := by simpa [bne] using k2
    rw [e1]
    rw [k1] at HR
    clear k1 e1 k2
    go_enter Try.func16, Try.ntmps16
    go_wp2_with fail
    refine HR.out.mono ?_
    rintro e w1 ⟨rfl, hb1⟩
    have hb2 := hb0.trans (hb1.mono hb0.size)
    have c1 := box_cell hb1 1 _ rfl
    go_wp2
    go_ret
    exact ⟨rfl, hb2⟩
  have e1 : textL t = [66] ++ t.birth.map digC ++ [47, 83] ++ t.survive.map digC ++ (letterS t.hood).data.toList := by unfold textL; rw [k1, k2]; rfl
  have d1 : (t.states != 2) = false := by simpa [bne] using k2
  rw [e1]
  rw [k1] at HR
  clear k1 e1 k2
  obtain ⟨l1, hl1⟩ : ∃ l1, l1 = t.birth.map digC := ⟨_, rfl⟩
  obtain ⟨l2, hl2⟩ : ∃ l2, l2 = t.survive.map digC := ⟨_, rfl⟩
  have hn1 : l1.length ≤ 9 := by rw [hl1, List.length_map]; exact RS.out.2.2.2.2.2.1
  have hn2 : l2.length ≤ 9 := by rw [hl2, List.length_map]; exact RS.out.2.2.2.2.2.2
  have W1 := fun w hi => write_any B b t.birth w hi (fun z hz => by have := RS.out.2.2.2.1 z hz; omega) (by have := RS.out.2.2.2.2.2.1; omega)
  have W2 := fun w hi => write_any C c t.survive w hi (fun z hz => by have := RS.out.2.2.2.2.1 z hz; omega) (by have := RS.out.2.2.2.2.2.2; omega)
  rw [← hl1, ← hl2]
  rw [← hl1] at W1
  rw [← hl2] at W2
  have HW := Lib.hid (And.intro W1 W2)
  clear W1 W2 hl1 hl2
  have hadd1 : ∀ w, (Op.stringOp .add ⟨#[66]⟩ ⟨l1.toArray⟩).run Try.prog w = .ok (.string ⟨([66] ++ l1).toArray⟩) w := by
    intro w
    rw [run_string_add_sum (P := Try.prog) w _ _ (by simp [ByteArray.size]; omega), show (⟨#[66]⟩ : ByteArray) = ⟨[66].toArray⟩ from rfl, text_end]
  have hadd2 : ∀ w, (Op.stringOp .add ⟨([66] ++ l1).toArray⟩ ⟨#[47, 83]⟩).run Try.prog w = .ok (.string ⟨([66] ++ l1 ++ [47, 83]).toArray⟩) w := by
    intro w
    rw [run_string_add_sum (P := Try.prog) w _ _ (by simp [ByteArray.size]; omega), text_end]
  have hadd3 : ∀ w, (Op.stringOp .add ⟨([66] ++ l1 ++ [47, 83]).toArray⟩ ⟨l2.toArray⟩).run Try.prog w = .ok (.string ⟨([66] ++ l1 ++ [47, 83] ++ l2).toArray⟩) w := by
    intro w
    rw [run_string_add_sum (P := Try.prog) w _ _ (by simp [ByteArray.size]; omega), text_end]
  go_enter Try.func16, Try.ntmps16
  go_wp2_with fail
  refine HR.out.mono ?_
  rintro e w1 ⟨rfl, hb1⟩
  have hb2 := hb0.trans (hb1.mono hb0.size)
  have hbi := ht.birth.ext hb2
  have hsi := ht.survive.ext hb2
  have c0 := box_cell hb1 0 _ rfl
  have c1 := box_cell hb1 1 _ rfl
  have c2 := box_cell hb1 2 _ rfl
  have c3 := box_cell hb1 3 _ rfl
  go_wp2
  go_quiet (first | (go_at_call_of 42 (Value.slice B t.birth.length b); exact Calls.quiet_of (HW.out.1 _ (by exact hbi))) | (go_at_call 42; exact Calls.quiet_of (HW.out.2 _ (by exact hsi))))
  go_wp2
  have hbq := below_drewN hb2 nq
  have hbq1 := below_drewN hb1 nq
  have hho := ht.hood.ext hbq
  clear hbi hsi c1 c2 c3 hadd1 hadd2 hadd3 HW
  generalize w1.drewN nq = w2 at *
  have c0 := box_cell hbq1 0 _ rfl
  cases k3 : decide (t.hood = neumL 1)
  · cases k4 : decide (t.hood = hexL)
    · have hls : letterS t.hood = ⟨#[]⟩ := by
        unfold letterS
        rw [if_neg (of_decide_eq_false k3), if_neg (of_decide_eq_false k4)]
        simp
      have HLS := Lib.hid hls
      clear hls
      go_region_with (first | (go_at_call 36; refine (rneum_one _).mono ?_; rintro e w3 ⟨A3, c3, rfl, hp3, -, hb3⟩; have c0q := box_cell (hbq1.drew.trans (hb3.mono hbq1.size)) 0 _ rfl) | (go_at_call 26; refine (samePtsR _ _ _ _ _ _ _ (by exact Pts.ext (w := w2.drew) hho hb3) (by exact hp3)).mono ?_; rintro e w4 ⟨rfl, hq4⟩))
      all_goals
        have hb34 := hb3.trans (hq4.below _)
        have hbq2 := hbq1.drew.trans (hb34.mono hbq1.size)
        have hbq3 := hbq.drew.trans (hb34.mono hbq.size)
        have hho4 := Pts.ext (w := w2.drew) hho hb34
        have c0r := box_cell hbq2 0 _ rfl
        clear c0q hb34 hb3 hq4
      all_goals go_wp2
      all_goals go_region_with (first | (go_at_call 37; refine (rhex_any _).mono ?_; rintro e w5 ⟨A5, c5, rfl, hp5, -, hb5⟩; have c0q := box_cell (hbq2.drew.trans (hb5.mono hbq2.size)) 0 _ rfl) | (go_at_call 26; refine (samePtsR _ _ _ _ _ _ _ (by exact Pts.ext (w := w4.drew) hho4 hb5) (by exact hp5)).mono ?_; rintro e w6 ⟨rfl, hq6⟩))
      all_goals
        have hend := (hbq3.drew.trans (hb5.mono hbq3.size)).trans (hq6.below _)
      all_goals go_wp2
      all_goals go_ret
      all_goals exact ⟨ret_str (by rw [HLS.out]; simp [ByteArray.ext_iff]), hend⟩
    · have hls : letterS t.hood = ⟨#[72]⟩ := by
        rw [of_decide_eq_true k4]
        decide
      have HLS := Lib.hid hls
      clear hls
      go_region_with (first | (go_at_call 36; refine (rneum_one _).mono ?_; rintro e w3 ⟨A3, c3, rfl, hp3, -, hb3⟩; have c0q := box_cell (hbq1.drew.trans (hb3.mono hbq1.size)) 0 _ rfl) | (go_at_call 26; refine (samePtsR _ _ _ _ _ _ _ (by exact Pts.ext (w := w2.drew) hho hb3) (by exact hp3)).mono ?_; rintro e w4 ⟨rfl, hq4⟩))
      all_goals
        have hb34 := hb3.trans (hq4.below _)
        have hbq2 := hbq1.drew.trans (hb34.mono hbq1.size)
        have hbq3 := hbq.drew.trans (hb34.mono hbq.size)
        have hho4 := Pts.ext (w := w2.drew) hho hb34
        have c0r := box_cell hbq2 0 _ rfl
        clear c0q hb34 hb3 hq4
      all_goals go_wp2
      all_goals go_region_with (first | (go_at_call 37; refine (rhex_any _).mono ?_; rintro e w5 ⟨A5, c5, rfl, hp5, -, hb5⟩; have c0q := box_cell (hbq2.drew.trans (hb5.mono hbq2.size)) 0 _ rfl) | (go_at_call 26; refine (samePtsR _ _ _ _ _ _ _ (by exact Pts.ext (w := w4.drew) hho4 hb5) (by exact hp5)).mono ?_; rintro e w6 ⟨rfl, hq6⟩))
      all_goals
        have hend := (hbq3.drew.trans (hb5.mono hbq3.size)).trans (hq6.below _)
      all_goals go_wp2
      all_goals go_ret
      all_goals exact ⟨ret_str (by rw [HLS.out]; simp [ByteArray.ext_iff]), hend⟩
  · have hls : letterS t.hood = ⟨#[86]⟩ := by
      rw [of_decide_eq_true k3]
      decide
    have k4 : decide (t.hood = hexL) = false := by
      rw [of_decide_eq_true k3]
      decide
    have HLS := Lib.hid hls
    clear hls
    go_region_with (first | (go_at_call 36; refine (rneum_one _).mono ?_; rintro e w3 ⟨A3, c3, rfl, hp3, -, hb3⟩; have c0q := box_cell (hbq1.drew.trans (hb3.mono hbq1.size)) 0 _ rfl) | (go_at_call 26; refine (samePtsR _ _ _ _ _ _ _ (by exact Pts.ext (w := w2.drew) hho hb3) (by exact hp3)).mono ?_; rintro e w4 ⟨rfl, hq4⟩))
    all_goals
      have hb34 := hb3.trans (hq4.below _)
      have hbq2 := hbq1.drew.trans (hb34.mono hbq1.size)
      have hbq3 := hbq.drew.trans (hb34.mono hbq.size)
      have hho4 := Pts.ext (w := w2.drew) hho hb34
      have c0r := box_cell hbq2 0 _ rfl
      clear c0q hb34 hb3 hq4
    all_goals go_wp2
    all_goals go_region_with (first | (go_at_call 37; refine (rhex_any _).mono ?_; rintro e w5 ⟨A5, c5, rfl, hp5, -, hb5⟩; have c0q := box_cell (hbq2.drew.trans (hb5.mono hbq2.size)) 0 _ rfl) | (go_at_call 26; refine (samePtsR _ _ _ _ _ _ _ (by exact Pts.ext (w := w4.drew) hho4 hb5) (by exact hp5)).mono ?_; rintro e w6 ⟨rfl, hq6⟩))
    all_goals
      have hend := (hbq3.drew.trans (hb5.mono hbq3.size)).trans (hq6.below _)
    all_goals go_wp2
    all_goals go_ret
    all_goals exact ⟨ret_str (by rw [HLS.out]; simp [ByteArray.ext_iff]), hend⟩
end Go.Proofs.Ytnobnlbjgaanmaa
