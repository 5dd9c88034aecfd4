/-
  lifelike.of, list: a table of the numbers that a list contains; the numbers up to n that a test keeps. No condition but the range.
-/
import Derived.Test.YtnobnlbjgaanmaaText
import Derived.Deep.MidRow
namespace Go.Proofs.Ytnobnlbjgaanmaa
open Go.RowKit
set_option linter.unusedVariables false

def tabV (zs : List Int) : Array Value := ((List.range 10).map fun (k : Nat) => Value.bool (decide ((k : Int) ∈ zs))).toArray
theorem tabV_size (zs : List Int) : (tabV zs).size = 10 := by simp [tabV]
theorem tabV_get (zs : List Int) {k : Nat} (h : k < 10) : (tabV zs)[k]? = some (.bool (decide ((k : Int) ∈ zs))) := by
  simp [tabV, h]
theorem tabV_snoc {zs : List Int} {z : Int} (h0 : 0 ≤ z) (h1 : z < 10) : (tabV zs).setIfInBounds z.toNat (.bool true) = tabV (zs ++ [z]) := by
  apply Array.ext_getElem?
  intro i
  rw [Array.getElem?_setIfInBounds]
  by_cases hi : i < 10
  · rw [tabV_get (zs ++ [z]) hi]
    by_cases he : z.toNat = i
    · rw [if_pos he, tabV_size, if_pos (by omega)]
      have : (i : Int) ∈ zs ++ [z] := by rw [show (i : Int) = z from by omega]; simp
      rw [decide_eq_true this]
    · rw [if_neg he, tabV_get zs hi]
      have : ¬ (i : Int) = z := by omega
      simp [this]
  · rw [if_neg (by omega), Array.getElem?_eq_none (by rw [tabV_size]; omega), Array.getElem?_eq_none (by rw [tabV_size]; omega)]
theorem Try.info_tab : (Try.prog.info? 66).map (·.size) = some 10 := by kernel_rfl
/-- a block that is written whole -/
theorem blk_setCells {g : Nat} {t : TypeId} : ∀ (vs : List Value) (o : Nat) (w : World) (cs : Array Value), Blk w g t cs → ∃ ds, Blk (w.setCells g o vs) g t ds ∧ ds.size = cs.size ∧ ∀ i, ds[i]? = if o ≤ i ∧ i < o + vs.length ∧ i < cs.size then vs[i - o]? else cs[i]?
  | [], o, w, cs, h => ⟨cs, h, rfl, fun i => by
      have : ¬ (o ≤ i ∧ i < o + ([] : List Value).length ∧ i < cs.size) := by simp; omega
      rw [if_neg this]⟩
  | v :: r, o, w, cs, h => by
    obtain ⟨ds, h1, h2, h3⟩ := blk_setCells r (o + 1) _ _ (h.set_ o v)
    refine ⟨ds, h1, by rw [h2]; simp, fun i => ?_⟩
    rw [h3 i]
    simp only [Array.size_setIfInBounds, List.length_cons, Array.getElem?_setIfInBounds]
    by_cases c1 : o + 1 ≤ i ∧ i < o + 1 + r.length ∧ i < cs.size
    · rw [if_pos c1, if_pos ⟨by omega, by omega, c1.2.2⟩, show i - o = (i - (o + 1)) + 1 from by omega, List.getElem?_cons_succ]
    · rw [if_neg c1]
      by_cases c2 : o = i
      · subst c2
        rw [if_pos rfl]
        by_cases c3 : o < cs.size
        · rw [if_pos c3, if_pos ⟨by omega, by omega, c3⟩]; simp
        · rw [if_neg c3, if_neg (by omega), Array.getElem?_eq_none (by omega)]
      · rw [if_neg c2, if_neg (by omega)]
theorem blk_whole {w : World} {g : Nat} {t : TypeId} {cs ds : Array Value} (h : Blk w g t cs) (hs : ds.size = cs.size) : Blk (w.setCells g 0 ds.toList) g t ds := by
  obtain ⟨es, h1, h2, h3⟩ := blk_setCells ds.toList 0 w cs h
  have : es = ds := by
    apply Array.ext_getElem?
    intro i
    rw [h3 i]
    by_cases c : i < cs.size
    · rw [if_pos ⟨by omega, by simp; omega, c⟩]; simp
    · rw [if_neg (by omega), Array.getElem?_eq_none (by omega), Array.getElem?_eq_none (by omega)]
  rwa [this] at h1
theorem below_setCells {B b : Nat} {a : World} (hb : B ≤ b) : ∀ (vs : List Value) (o : Nat) (w : World), Below B a w → Below B a (w.setCells b o vs)
  | [], _, _, h => h
  | v :: r, o, w, h => below_setCells hb r (o + 1) _ (h.setCell (p := ⟨b, o, none⟩) hb v)
theorem blk_there {w : World} {g : Nat} {t : TypeId} {cs : Array Value} (h : Blk w g t cs) {n : Nat} (hn : n = cs.size) : w.there g 0 n := by
  intro j hj
  refine ⟨?_, h.frozen _⟩
  rw [h.cell, Nat.zero_add, Array.getElem?_eq_getElem (by omega)]
  rfl
theorem tabV_one (zs : List Int) : (tabV zs).all (·.oneCell') = true := by
  unfold tabV
  apply all_oneCell_toArray
  intro v hv
  simp at hv
  obtain ⟨k, _, rfl⟩ := hv
  rfl
theorem tabV_nil : tabV [] = #[.bool false, .bool false, .bool false, .bool false, .bool false, .bool false, .bool false, .bool false, .bool false, .bool false] := rfl
set_option maxHeartbeats 1000000 in
theorem of_any (A : Option Addr) (c : Nat) (zs : List Int) (w : World) (ha : Ints w A zs) (hz : ∀ z ∈ zs, 0 ≤ z ∧ z ≤ 8) :
    Calls Try.prog 43 #[.slice A zs.length c] w fun e w' => e = .returned (.agg (tabV zs)) ∧ Below w.heap.size w w' := by
  have hn := ha.le
  have HZ := Lib.hid hz
  clear hz
  have hbr : Blk ((w.alloc (.cells (tabV []) 66)).alloc (.cells (tabV []) 66)) w.heap.size 66 (tabV []) := (Blk.new w _ _).alloc _
  have hbt : Blk ((w.alloc (.cells (tabV []) 66)).alloc (.cells (tabV []) 66)) (w.heap.size + 1) 66 (tabV []) := by
    have := Blk.new (w.alloc (.cells (tabV []) 66)) 66 (tabV [])
    simpa using this
  have hb0 := ((Below.refl w.heap.size w).alloc (Nat.le_refl _) (.cells (tabV []) 66)).alloc (by simp) (.cells (tabV []) 66)
  have H0 := Lib.hid (And.intro hbr (And.intro hbt hb0))
  clear hbr hbt hb0
  go_enter Try.func43, Try.ntmps43
  go_wp2
  go_loopw [8] (fun i wr => ∃ k : Nat, k ≤ zs.length ∧ i = .int .i64 k ∧ Blk wr w.heap.size 66 (tabV []) ∧ Blk wr (w.heap.size + 1) 66 (tabV (zs.take k)) ∧ Below w.heap.size w wr) (fun i _ => zs.length - (intOf i).toNat)
  case atStart => exact ⟨0, Nat.zero_le _, rfl, H0.out.1, H0.out.2.1, H0.out.2.2⟩
  case round =>
    obtain ⟨k, hk, rfl, hbr, hbt, hb⟩ := hrel
    by_cases hlt : k < zs.length
    · obtain ⟨b1, o1, rfl, -, hc⟩ := (ha.ext hb).at_ hlt
      obtain ⟨g0, g1⟩ := HZ.out _ (List.getElem_mem hlt)
      have g2 : zs[k] < 10 := by omega
      have c1 := hbt.cell_ zs[k].toNat _ (tabV_get _ (by omega))
      have f1 := hbt.frozen zs[k].toNat
      have hbt2 := hbt.set_ zs[k].toNat (.bool true)
      rw [tabV_snoc g0 g2, ← List.take_succ_eq_append_getElem hlt] at hbt2
      have hbr2 := hbr.far (p := ⟨w.heap.size + 1, zs[k].toNat, none⟩) (by simp) (.bool true)
      have hb2 := hb.setCell (p := ⟨w.heap.size + 1, zs[k].toNat, none⟩) (by simp) (.bool true)
      have HH := Lib.hid (And.intro hbr2 (And.intro hbt2 hb2))
      clear hbr2 hbt2 hb2 hbr hbt hb
      go_wp2
      go_roundw
      case rel => exact ⟨k + 1, by omega, by go_num, HH.out.1, HH.out.2.1, HH.out.2.2⟩
      case measure => simp [intOf]; omega
    · have hkl : k = zs.length := by omega
      subst hkl
      rw [List.take_length] at hbt
      have hbw := blk_whole hbr (ds := tabV zs) (by rw [tabV_size, tabV_size])
      have hb3 := below_setCells (Nat.le_refl _) (tabV zs).toList 0 wr hb
      have HH := Lib.hid (And.intro hbw hb3)
      clear hbw hb3
      go_wp2_with (first
        | (refine wpList_load_row rfl 66 _ rfl (w.heap.size + 1) rfl _ (tabV zs) _ _ hbt Try.underlying66 rfl (by rw [tabV_size]; exact Try.info_tab) ?_)
        | (refine wpList_store_mid rfl 66 _ _ rfl w.heap.size 0 (tabV zs) rfl rfl (blk_there hbr (by rw [tabV_size, tabV_size])) (by rw [tabV_size]; exact Try.info_tab) (tabV_one _) ?_))
      exact bodyPost_ret (results_cell_row Try.results43 _ _ w.heap.size 66 (tabV zs) (0, 0) _ rfl HH.out.1 Try.underlying66 rfl (by rw [tabV_size]; exact Try.info_tab)) rfl ⟨rfl, HH.out.2⟩

set_option maxHeartbeats 400000 in
theorem compl1_any (k n : Int) (g h : Nat) (zs : List Int) (w : World) (hg : Blk w g 66 (tabV zs)) (hn : w.cell? ⟨h, 0, none⟩ = some (.int .i64 n)) (h0 : 0 ≤ k) (h1 : k ≤ n) (h2 : n ≤ 8) :
    Calls Try.prog 45 #[.int .i64 k, .pointer (some ⟨g, 0, none⟩), .pointer (some ⟨h, 0, none⟩)] w fun e w' => e = .returned (.bool (!decide (n - k ∈ zs))) ∧ w = w' := by
  have hc := hg.cell_ (n - k).toNat _ (tabV_get zs (by omega))
  have hcast : (((n - k).toNat : Nat) : Int) = n - k := by omega
  rw [hcast] at hc
  clear hcast
  go_enter Try.func45, Try.ntmps45
  go_wp2
  go_ret
  exact ⟨ret_bool (by simp), rfl⟩

set_option maxHeartbeats 400000 in
theorem compl2_any (k n : Int) (g h : Nat) (zs : List Int) (w : World) (hg : Blk w g 66 (tabV zs)) (hn : w.cell? ⟨h, 0, none⟩ = some (.int .i64 n)) (h0 : 0 ≤ k) (h1 : k ≤ n) (h2 : n ≤ 8) :
    Calls Try.prog 46 #[.int .i64 k, .pointer (some ⟨g, 0, none⟩), .pointer (some ⟨h, 0, none⟩)] w fun e w' => e = .returned (.bool (!decide (n - k ∈ zs))) ∧ w = w' := by
  have hc := hg.cell_ (n - k).toNat _ (tabV_get zs (by omega))
  have hcast : (((n - k).toNat : Nat) : Int) = n - k := by omega
  rw [hcast] at hc
  clear hcast
  go_enter Try.func46, Try.ntmps46
  go_wp2
  go_ret
  exact ⟨ret_bool (by simp), rfl⟩

def rngF (p : Int → Bool) (k : Nat) : List Int := ((List.range k).map fun (i : Nat) => (i : Int)).filter p
theorem rngF_yes {p : Int → Bool} {k : Nat} (h : p k = true) : rngF p (k + 1) = rngF p k ++ [(k : Int)] := by simp [rngF, List.range_succ, h]
theorem rngF_no {p : Int → Bool} {k : Nat} (h : p k = false) : rngF p (k + 1) = rngF p k := by simp [rngF, List.range_succ, h]
theorem rngF_len (p : Int → Bool) (k : Nat) : (rngF p k).length ≤ k := by
  unfold rngF
  refine Nat.le_trans (List.length_filter_le _ _) ?_
  simp
set_option maxHeartbeats 1000000 in
theorem list_any (n : Nat) (hn : n ≤ 8) (tb : Array Value) (K : FuncId) (cap : Array Value) (p : Int → Bool) (w : World)
    (hent : ∀ (args : Array Value) (w : World), (callFunc K args).run Try.prog w = .ok (.enter K args) w)
    (hc : ∀ (k : Int) (w' : World), 0 ≤ k → k ≤ n → Below w.heap.size w w' → Calls Try.prog K (#[.int .i64 k] ++ cap) w' fun e w'' => e = .returned (.bool (p k)) ∧ w' = w'') :
    Calls Try.prog 44 #[.agg tb, .int .i64 n, .func (.func K) #[] cap] w (RetInts (rngF p (n + 1)) w) := by
  have HC := Lib.hid hc
  clear hc
  have hb0 := (Below.refl w.heap.size w).alloc (Nat.le_refl _) (.cells tb 66)
  go_enter Try.func44, Try.ntmps44
  go_wp2
  go_loopw [7, 11] (fun v i wr => ∃ k : Nat, k ≤ n + 1 ∧ i = .int .i64 k ∧ OwnI 3 wr w.heap.size v (rngF p k) ∧ Below w.heap.size w wr) (fun _ i _ => n + 1 - (intOf i).toNat)
  case atStart => exact ⟨0, by omega, rfl, OwnI.nil _ _ _, hb0⟩
  case round =>
    obtain ⟨k, hk, rfl, hown, hb⟩ := hrel
    by_cases hlt : k < n + 1
    · have hlen := rngF_len p k
      go_wp2_with fail
      have hcall := HC.out (k : Int) wr (by omega) (by omega) hb
      refine hcall.mono ?_
      rintro e w' ⟨rfl, rfl⟩
      clear hcall
      cases hp : p k
      · have HP := Lib.hid (rngF_no hp)
        go_wp2
        go_roundw
        case rel => exact ⟨k + 1, by omega, by go_num, by rw [HP.out]; exact hown, hb⟩
        case measure => simp [intOf]; omega
      · have HP := Lib.hid (rngF_yes hp)
        go_wp2_with (at_builtin; refine wpList_pushI rfl _ _ _ rfl w.heap.size 3 Try.underlying23 Try.infoInt _ _ rfl hown _ rfl (by omega) hb.size ?_)
        intro v' w1 hown2 hb2
        have hb3 := hb.trans hb2
        go_wp2
        go_roundw
        case rel => exact ⟨k + 1, by omega, by go_num, by rw [HP.out]; exact hown2, hb3⟩
        case measure => simp [intOf]; omega
    · have hkn : k = n + 1 := by omega
      subst hkn
      obtain ⟨A, c, hv, hi, hnew⟩ := hown.ints
      subst hv
      go_wp2
      go_ret
      exact ⟨A, c, rfl, hi, hnew, hb⟩
end Go.Proofs.Ytnobnlbjgaanmaa
