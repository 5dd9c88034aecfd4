/-
  cellularref09.list: digits as a string. No condition but the range.
-/
import Derived.Test.YtaofninfjdepfaaDoorText
import Derived.Test.YtaofninfjdepfaaDoorParseR
namespace Go.Proofs.YtaofninfjdepfaaDoor
open Go.RowKit
set_option maxRecDepth 100000
set_option linter.unusedVariables false
set_option linter.unusedSimpArgs false

theorem map_snoc {α β : Type} (f : α → β) {l : List α} {k : Nat} (hk : k < l.length) : (l.take (k + 1)).map f = (l.take k).map f ++ [f l[k]] := by
  rw [List.take_succ_eq_append_getElem hk, List.map_append]; rfl
set_option maxHeartbeats 1000000 in
theorem rlist_any (A : Option Addr) (c : Nat) (zs : List Int) (w : World) (ha : Ints w A zs) (hz : ∀ z ∈ zs, 0 ≤ z ∧ z ≤ 9) (hlen : zs.length ≤ 1000000) :
    Calls Tryd.prog 41 #[.slice A zs.length c] w fun e w' => e = .returned (.string ⟨(zs.map digC).toArray⟩) ∧ Below w.heap.size w w' := by
  have hn := ha.le
  have HZ := Lib.hid hz
  clear hz
  obtain ⟨ds, hds⟩ : ∃ ds, ds = zs.map digC := ⟨_, rfl⟩
  have hdl : ds.length = zs.length := by rw [hds, List.length_map]
  have hda : ∀ k (h : k < zs.length), ds.take (k + 1) = ds.take k ++ [digC zs[k]] := by
    intro k h
    rw [hds, ← List.map_take, map_snoc digC h, List.map_take]
  rw [← hds]
  have HD := Lib.hid (And.intro hdl hda)
  clear hds hdl hda
  go_enter Tryd.func41, Tryd.ntmps41
  go_wp2
  go_loopw [3, 4] (fun v i wr => ∃ k : Nat, k ≤ zs.length ∧ i = .int .i64 k ∧ v = .string ⟨(ds.take k).toArray⟩ ∧ Below w.heap.size w wr) (fun _ i _ => zs.length - (intOf i).toNat)
  case atStart => exact ⟨0, Nat.zero_le _, rfl, rfl, Below.refl _ _⟩
  case round =>
    obtain ⟨k, hk, rfl, rfl, hb⟩ := hrel
    by_cases hlt : k < zs.length
    · obtain ⟨b1, o1, rfl, -, hc⟩ := (ha.ext hb).at_ hlt
      obtain ⟨g0, g1⟩ := HZ.out _ (List.getElem_mem hlt)
      have hw8 : IntKind.u8.wrap (48 + zs[k]) = ((digC zs[k]).toNat : Int) := by
        rw [digC_val g0 g1]
        simp [IntKind.wrap, IntKind.bits, IntKind.signed]
        omega
      have hadd : ∀ w, (Op.stringOp .add ⟨(ds.take k).toArray⟩ ⟨#[digC zs[k]]⟩).run Tryd.prog w = .ok (.string ⟨(ds.take (k + 1)).toArray⟩) w := by
        intro w
        rw [run_string_add_sum (P := Tryd.prog) w _ _ (by simp [ByteArray.size]; omega), text_end, HD.out.2 k hlt]
      have hb2 := hb.alloc hb.size (.cells #[.int .u8 ((digC zs[k]).toNat : Int)] 5)
      have hcv := run_convert_bytes_back (P := Tryd.prog) (wr.alloc (.cells #[.int .u8 ((digC zs[k]).toNat : Int)] 5)) 39 9 5 ⟨wr.heap.size, 0, none⟩ 1 [digC zs[k]] Tryd.underlying39 Tryd.underlying5 Tryd.underlying9 (by
        intro j hj
        have hj0 : j = 0 := by simpa using hj
        subst hj0
        exact (Blk.new wr 5 #[.int .u8 ((digC zs[k]).toNat : Int)]).cell_ 0 _ rfl)
      have hcv2 : (convert 39 9 (.slice (some ⟨wr.heap.size, 0, none⟩) 1 1)).run Tryd.prog (wr.alloc (.cells #[.int .u8 ((digC zs[k]).toNat : Int)] 5)) = .ok (.string ⟨#[digC zs[k]]⟩) (wr.alloc (.cells #[.int .u8 ((digC zs[k]).toNat : Int)] 5)) := hcv
      clear hcv
      have HB2 := Lib.hid hb2
      clear hb2
      go_wp2
      go_roundw
      case rel => exact ⟨k + 1, by omega, by go_num, rfl, HB2.out⟩
      case measure => simp [intOf]; omega
    · have hkl : k = zs.length := by omega
      have hfin : ds.take k = ds := List.take_of_length_le (by rw [HD.out.1]; omega)
      rw [hfin]
      subst hkl
      clear hfin
      go_wp2
      go_ret
      exact ⟨rfl, hb⟩
end Go.Proofs.YtaofninfjdepfaaDoor
