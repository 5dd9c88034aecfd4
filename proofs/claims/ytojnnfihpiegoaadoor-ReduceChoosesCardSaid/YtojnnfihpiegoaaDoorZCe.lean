/-
  The closures of Reduce, Map and Fix: what they make of a node's elements. No condition but bounds.
  reduce.Reduce. No condition but that the library's table is there.
  reduce.Map, reduce.Fix. No condition but that the library's table is there.
-/
import Derived.Test.YtojnnfihpiegoaaDoorZRbt
import Derived.Test.YtojnnfihpiegoaaDoorZCd
import Derived.Test.YtojnnfihpiegoaaDoorZRbtM
import Derived.Test.YtojnnfihpiegoaaDoorZRbtF
import Derived.Laws.ResultCell
namespace Go.Proofs.YtojnnfihpiegoaaDoor
open Go.RowKit
set_option maxRecDepth 100000
set_option linter.unusedVariables false
set_option linter.unusedSimpArgs false

def chR : Int → List Int → List Int := fun _ zs => zs
theorem chR_chg (q : Nat) : Chg q chR := ⟨fun _ _ h => h, fun _ _ _ _ _ h => h, fun _ _ _ _ _ => rfl, fun _ _ h => h⟩
set_option maxHeartbeats 1000000 in
theorem clR_any (W : World) (base g cx : Nat) (zs : List Int) (lv : Int) (ho : OwnIA W base (.slice (some ⟨g, 0, none⟩) zs.length cx) zs) :
    Calls Tryd.prog 34 #[.int .i64 lv, .slice (some ⟨g, 0, none⟩) zs.length cx] W fun e W' => e = .returned (.slice (some ⟨g, 0, none⟩) zs.length cx) ∧ OwnIA W' base (.slice (some ⟨g, 0, none⟩) zs.length cx) (chR lv zs) ∧ Kept (fun x => x = g) W W' := by
  have HO := Lib.hid ho
  clear ho
  go_enter Tryd.func34, Tryd.ntmps34
  go_wp2
  go_ret
  exact ⟨rfl, HO.out, Kept.refl _ _⟩

def chM (tz : List Int) : Int → List Int → List Int := fun lv zs => if lv = 1 then zs.map (fun k => tz.getD k.toNat 0) else zs
theorem chM_chg {q : Nat} {tz : List Int} (hl : tz.length = q) (ht : ∀ z ∈ tz, 0 ≤ z ∧ z < (q : Int)) : Chg q (chM tz) := by
  refine ⟨fun lv zs h => ?_, fun lv zs h hl z hz => ?_, fun lv zs f h hl => ?_, fun zs h hz z hm => ?_⟩
  · unfold chM; split
    · rw [List.length_map]; exact h
    · exact h
  · unfold chM at hz; rw [if_neg (by omega)] at hz; exact hz
  · unfold chM; rw [if_neg (by omega), if_neg (by omega)]
  · unfold chM at hm
    rw [if_pos rfl] at hm
    obtain ⟨y, hy, rfl⟩ := List.mem_map.1 hm
    have := hz y hy
    exact ht _ (getD_mem (by omega))
set_option maxHeartbeats 2000000 in
theorem clM_any (Q1 : Nat) (At : Option Addr) (ct : Nat) (tz : List Int) (w : World) (hq : Blk w Q1 31 #[.slice At tz.length ct]) (hti : Ints w At tz)
    (W : World) (hb : Below w.heap.size w W) (base g cx : Nat) (hg : w.heap.size ≤ g) (zs : List Int) (lv : Int) (hz : lv = 1 → ∀ z ∈ zs, 0 ≤ z ∧ z < (tz.length : Int)) (hzl : zs.length ≤ 1000) (ho : OwnIA W base (.slice (some ⟨g, 0, none⟩) zs.length cx) zs) :
    Calls Tryd.prog 42 #[.int .i64 lv, .slice (some ⟨g, 0, none⟩) zs.length cx, .pointer (some ⟨Q1, 0, none⟩)] W fun e W' => e = .returned (.slice (some ⟨g, 0, none⟩) zs.length cx) ∧ OwnIA W' base (.slice (some ⟨g, 0, none⟩) zs.length cx) (chM tz lv zs) ∧ Kept (fun x => x = g) W W' := by
  have HO := Lib.hid ho
  by_cases h1 : lv = 1
  · have d1 : (lv == 1) = true := by simp [h1]
    have HE : Hid (chM tz lv zs = nxTo tz 2 zs zs.length) := Lib.hid (by rw [nxTo_all]; unfold chM nxOf; rw [if_pos h1, if_pos (show (1 : Int) < 2 by decide)])
    have HZ := Lib.hid (hz h1)
    have HQ := Lib.hid (hq.below hb hq.lt)
    have HQL := Lib.hid (show Q1 < g by have := hq.lt; omega)
    have HTI := Lib.hid (hti.ext hb)
    have HTO := Lib.hid hti
    have HB := Lib.hid hb
    have HG := Lib.hid hg
    have HZL := Lib.hid hzl
    clear h1 hz ho hq hb hti hzl hg
    go_enter Tryd.func42, Tryd.ntmps42
    go_wp2
    go_loopw [12] (fun i wi => NxRel 0 g cx zs.length base tz 2 zs W i wi) (fun i _ => zs.length - (intOf i).toNat)
    case atStart => exact ⟨0, Nat.zero_le _, rfl, by rw [nxTo_zero]; exact HO.out, Kept.refl _ _⟩
    case round =>
      obtain ⟨m, hm, rfl, hoi, hki⟩ := hrel
      by_cases hml : m < zs.length
      · have hwm : wrap64 ((m : Int) + 1) = (m : Int) + 1 := by have := HZL.out; unfold wrap64; omega
        obtain ⟨hcm, hfm⟩ := OwnI.cellk (I := 3) hoi (k := m) (by rw [nxTo_len]; exact hml)
        rw [nxTo_get hml] at hcm
        have hzz := HZ.out _ (List.getElem_mem hml)
        obtain ⟨z, hz⟩ : ∃ z, z = zs[m] := ⟨_, rfl⟩
        rw [← hz] at hcm hzz
        have hz0 := hzz.1
        have hz1 := hzz.2
        obtain ⟨bt, ot, eAt, hbt, hct⟩ := HTO.out.at_ (k := z.toNat) (by omega)
        obtain ⟨y, hy⟩ : ∃ y, y = tz.getD z.toNat 0 := ⟨_, rfl⟩
        have hyy : tz[z.toNat]'(by omega) = y := by rw [hy, List.getD_eq_getElem?_getD, List.getElem?_eq_getElem (by omega)]; rfl
        rw [hyy] at hct
        have hctz : wr.cell? ⟨bt, ot + z.toNat, none⟩ = some (.int .i64 y) := (hki.cell (p := ⟨bt, ot + z.toNat, none⟩) (Nat.lt_of_lt_of_le hbt HB.out.size) (fun e => by have := HG.out; dsimp only at e; omega)).trans ((HB.out.cell (p := ⟨bt, ot + z.toNat, none⟩) hbt).trans hct)
        have hcq := (hki.blk HQ.out (by have := HQL.out; omega)).cell_ 0 (.slice At tz.length ct) rfl
        have hst := OwnI.set (I := 3) hoi (nxTo_len _ _ _ _).symm m y
        rw [hy, hz, nxTo_step (by decide) hml, ← hz, ← hy] at hst
        have HST := Lib.hid hst
        have HKS := Lib.hid (hki.setCell (p := ⟨g, m, none⟩) (.inl rfl) (.int .i64 y))
        subst eAt
        clear hyy hy hz hst hoi hki hct hzz
        go_wp2
        go_roundw
        case rel => exact ⟨m + 1, hml, (by rw [hwm]; rfl), HST.out, HKS.out⟩
        case measure => rw [hwm]; simp [intOf]; omega
      · obtain rfl : m = zs.length := by omega
        have HF := Lib.hid (And.intro hoi hki)
        clear hoi hki hm hml
        go_wp2
        go_ret
        exact ⟨rfl, by rw [HE.out]; exact HF.out.1, HF.out.2⟩
  · have d1 : (lv == 1) = false := by simpa using h1
    have HE : Hid (chM tz lv zs = zs) := Lib.hid (by unfold chM; rw [if_neg h1])
    clear h1 hz ho hq hb hti hzl hg
    go_enter Tryd.func42, Tryd.ntmps42
    go_wp2
    go_ret
    exact ⟨rfl, by rw [HE.out]; exact HO.out, Kept.refl _ _⟩

def chF (L k s : Nat) : Int → List Int → List Int := fun lv zs => if lv = (L : Int) - k then List.replicate zs.length (zs.getD s 0) else zs
theorem chF_chg {q L k s : Nat} (hs : s < q) : Chg q (chF L k s) := by
  refine ⟨fun lv zs h => ?_, fun lv zs h hl z hz => ?_, fun lv zs f h hl => ?_, fun zs h hz z hm => ?_⟩
  · unfold chF; split
    · rw [List.length_replicate]; exact h
    · exact h
  · unfold chF at hz
    split at hz
    · rw [List.eq_of_mem_replicate hz]
      exact getD_mem (by omega)
    · exact hz
  · unfold chF
    split
    · rw [List.length_map, List.map_replicate]
      congr 1
      rw [List.getD_eq_getElem?_getD, List.getElem?_map, List.getD_eq_getElem?_getD, List.getElem?_eq_getElem (by omega)]
      rfl
    · rfl
  · unfold chF at hm
    split at hm
    · rw [List.eq_of_mem_replicate hm]
      exact hz _ (getD_mem (by omega))
    · exact hz z hm
/-- the elements behind m changes -/
def fxTo (y : Int) (zs : List Int) (m : Nat) : List Int := List.replicate m y ++ zs.drop m
theorem fxTo_len {y : Int} {zs : List Int} {m : Nat} (h : m ≤ zs.length) : (fxTo y zs m).length = zs.length := by
  unfold fxTo
  rw [List.length_append, List.length_replicate, List.length_drop]; omega
theorem fxTo_s {zs : List Int} {m s : Nat} (hs : s < zs.length) (hm : m ≤ zs.length) : (fxTo (zs.getD s 0) zs m).getD s 0 = zs.getD s 0 := by
  unfold fxTo
  rcases Nat.lt_or_ge s m with h | h
  · rw [List.getD_eq_getElem?_getD, List.getElem?_append_left (by rw [List.length_replicate]; exact h), List.getElem?_replicate, if_pos h]; rfl
  · rw [List.getD_eq_getElem?_getD, List.getElem?_append_right (by rw [List.length_replicate]; exact h), List.length_replicate, List.getElem?_drop, show m + (s - m) = s by omega, ← List.getD_eq_getElem?_getD]
theorem fxTo_step {y : Int} {zs : List Int} {m : Nat} (hm : m < zs.length) : (fxTo y zs m).set m y = fxTo y zs (m + 1) := by
  unfold fxTo
  rw [set_mid List.length_replicate hm, List.replicate_succ']
theorem fxTo_self {zs : List Int} {m : Nat} (hm : m < zs.length) : fxTo (zs.getD m 0) zs m = fxTo (zs.getD m 0) zs (m + 1) := by
  unfold fxTo
  rw [List.replicate_succ', List.append_assoc, List.drop_eq_getElem_cons hm]
  congr 1
  rw [List.getD_eq_getElem?_getD, List.getElem?_eq_getElem hm]
  rfl
def FxRel (g cx n : Nat) (base : Nat) (y : Int) (zs : List Int) (W : World) (i : Value) (wr : World) : Prop :=
  ∃ m : Nat, m ≤ zs.length ∧ i = .int .i64 m ∧ OwnIA wr base (.slice (some ⟨g, 0, none⟩) n cx) (fxTo y zs m) ∧ Kept (fun x => x = g) W wr
set_option maxHeartbeats 2000000 in
theorem clF_any (Q1 Q2 Q3 : Nat) (st : Int) (A : Option Addr) (L c : Nat) (nv : Value) (k s : Nat) (w : World) (hq1 : Blk w Q1 25 #[.int .i64 st, .slice A L c, nv]) (hq2 : Blk w Q2 3 #[.int .i64 k]) (hq3 : Blk w Q3 3 #[.int .i64 s])
    (hL : L ≤ 1000) (hk : k ≤ L) (W : World) (hb : Below w.heap.size w W) (base g cx : Nat) (hg : w.heap.size ≤ g) (zs : List Int) (lv : Int) (hs : s < zs.length) (hzl : zs.length ≤ 1000) (ho : OwnIA W base (.slice (some ⟨g, 0, none⟩) zs.length cx) zs) :
    Calls Tryd.prog 43 #[.int .i64 lv, .slice (some ⟨g, 0, none⟩) zs.length cx, .pointer (some ⟨Q1, 0, none⟩), .pointer (some ⟨Q2, 0, none⟩), .pointer (some ⟨Q3, 0, none⟩)] W fun e W' => e = .returned (.slice (some ⟨g, 0, none⟩) zs.length cx) ∧ OwnIA W' base (.slice (some ⟨g, 0, none⟩) zs.length cx) (chF L k s lv zs) ∧ Kept (fun x => x = g) W W' := by
  have HO := Lib.hid ho
  have p1 := hq1.below hb hq1.lt
  have p2 := hq2.below hb hq2.lt
  have p3 := hq3.below hb hq3.lt
  have c1 := p1.cell_ 1 (.slice A L c) rfl
  have c2 := p2.cell_ 0 (.int .i64 k) rfl
  have hwk : wrap64 ((L : Int) - k) = (L : Int) - k := by unfold wrap64; omega
  have HQ3 := Lib.hid p3
  have HQL := Lib.hid (show Q3 < g by have := hq3.lt; omega)
  have HZL := Lib.hid hzl
  by_cases h1 : lv = (L : Int) - k
  · have d1 : (lv == (L : Int) - k) = true := by simp [h1]
    obtain ⟨y, hy⟩ : ∃ y, y = zs.getD s 0 := ⟨_, rfl⟩
    have HE : Hid (chF L k s lv zs = fxTo y zs zs.length) := Lib.hid (by unfold chF fxTo; rw [if_pos h1, List.drop_length, List.append_nil, hy])
    have HY := Lib.hid hy
    have HS := Lib.hid hs
    clear h1 ho hq1 hq2 hq3 hb hzl hg p1 p2 p3 hL hk hy hs
    go_enter Tryd.func43, Tryd.ntmps43
    go_wp2
    clear c1 c2 hwk d1
    go_loopw [18] (fun i wi => FxRel g cx zs.length base y zs W i wi) (fun i _ => zs.length - (intOf i).toNat)
    case atStart => exact ⟨0, Nat.zero_le _, rfl, by unfold fxTo; simpa using HO.out, Kept.refl _ _⟩
    case round =>
      obtain ⟨m, hm, rfl, hoi, hki⟩ := hrel
      by_cases hml : m < zs.length
      · have hwm : wrap64 ((m : Int) + 1) = (m : Int) + 1 := by have := HZL.out; unfold wrap64; omega
        have c3 := (hki.blk HQ3.out (by have := HQL.out; omega)).cell_ 0 (.int .i64 s) rfl
        by_cases hms : m = s
        · have e1 : ((m : Int) != (s : Int)) = false := by simp [hms]
          have HST : Hid (OwnIA wr base (.slice (some ⟨g, 0, none⟩) zs.length cx) (fxTo y zs (m + 1))) := Lib.hid (by
            rw [HY.out, ← hms, ← fxTo_self hml, hms, ← HY.out, ← hms]
            exact hoi)
          have HKS := Lib.hid hki
          have hmsn : (m != s) = false := by simp [hms]
          have HMS := Lib.hid hms
          clear hoi hki hms
          go_wp2
          go_roundw
          case rel => exact ⟨m + 1, hml, (by rw [hwm]; rfl), HST.out, HKS.out⟩
          case measure => rw [hwm]; simp [intOf]; omega
        · have e1 : ((m : Int) != (s : Int)) = true := by simp; omega
          have hmsn : (m != s) = true := by simpa using hms
          obtain ⟨hcm, hfm⟩ := OwnI.cellk (I := 3) hoi (k := m) (by rw [fxTo_len hm]; exact hml)
          obtain ⟨hcs, -⟩ := OwnI.cellk (I := 3) hoi (k := s) (by rw [fxTo_len hm]; exact HS.out)
          rw [HY.out, fxTo_s HS.out hm, ← HY.out] at hcs
          have hst := OwnI.set (I := 3) hoi (fxTo_len hm).symm m y
          rw [fxTo_step hml] at hst
          have HST := Lib.hid hst
          have HKS := Lib.hid (hki.setCell (p := ⟨g, m, none⟩) (.inl rfl) (.int .i64 y))
          have hsl := HS.out
          clear hst hoi hki hms
          go_wp2
          go_roundw
          case rel => exact ⟨m + 1, hml, (by rw [hwm]; rfl), HST.out, HKS.out⟩
          case measure => rw [hwm]; simp [intOf]; omega
      · obtain rfl : m = zs.length := by omega
        have HF := Lib.hid (And.intro hoi hki)
        clear hoi hki hm hml
        go_wp2
        go_ret
        exact ⟨rfl, by rw [HE.out]; exact HF.out.1, HF.out.2⟩
  · have d1 : (lv == (L : Int) - k) = false := by simpa using h1
    have HE : Hid (chF L k s lv zs = zs) := Lib.hid (by unfold chF; rw [if_neg h1])
    clear h1 ho hq1 hq2 hq3 hb hzl hg p1 p2 p3 hL hk hs
    go_enter Tryd.func43, Tryd.ntmps43
    go_wp2
    go_ret
    exact ⟨rfl, by rw [HE.out]; exact HO.out, Kept.refl _ _⟩
end Go.Proofs.YtojnnfihpiegoaaDoor
namespace Go.Proofs.YtojnnfihpiegoaaDoor
open Go.RowKit
set_option maxRecDepth 100000
set_option linter.unusedVariables false
set_option linter.unusedSimpArgs false

/-- a tree as it is meant: states, neighbourhood, nodes -/
structure PT where
  st : Int
  ps : List (Int × Int)
  ns : List Nd
def PT.zero : PT := ⟨0, [], []⟩
def PT.right (t : PT) : Bool := rightN t.st t.ps t.ns
def RetT (t : PT) (w : World) (e : Ending) (w' : World) : Prop := RetTree t.st t.ps t.ns w e w'
def redT (t : PT) : PT := if t.right then ⟨t.st, t.ps, redN chR t.ns⟩ else PT.zero
theorem RetTree.mono {st : Int} {ps : List (Int × Int)} {ns : List Nd} {w w0 w' : World} {e : Ending} (h : RetTree st ps ns w e w') (hb : Below w0.heap.size w0 w) : RetTree st ps ns w0 e w' := by
  obtain ⟨hv, nv, os, h1, h2, h3, h4, h5⟩ := h
  exact ⟨hv, nv, os, h1, own_down h2 hb.size, ⟨own_down h3.1 hb.size, fun x hx => (h3.2 x hx).down hb.size⟩, h4, hb.trans (h5.mono hb.size)⟩
/-- the tree is a value of two slices -/
theorem RetTree.form {st : Int} {ps : List (Int × Int)} {ns : List Nd} {w w' : World} {e : Ending} (h : RetTree st ps ns w e w') :
    ∃ A c B d os, e = .returned (.agg #[.int .i64 st, .slice A ps.length c, .slice B os.length d]) ∧ OwnP 49 w' w.heap.size (.slice A ps.length c) ps ∧ OwnNA w' w.heap.size (.slice B os.length d) os ∧ Pts w' A ps ∧ Nds w' B os ∧ os.map Hd.nd = ns ∧ Below w.heap.size w w' := by
  obtain ⟨hv, nv, os, h1, h2, h3, h4, h5⟩ := h
  obtain ⟨A, c, e1, p1, -⟩ := h2.pts
  obtain ⟨B, d, e2, p2, -⟩ := h3.nds
  subst e1 e2
  exact ⟨A, c, B, d, os, h1, h2, h3, p1, p2, h4, h5⟩
theorem redn_any (st : Int) (A : Option Addr) (c : Nat) (ps : List (Int × Int)) (B : Option Addr) (d : Nat) (hs : List Hd) (w : World) (hp : Pts w A ps) (hN : Nds w B hs) (ht : TabB w.heap.size w) (hr : rightN st ps (hs.map Hd.nd) = true) :
    Calls Tryd.prog 33 #[.agg #[.int .i64 st, .slice A ps.length c, .slice B hs.length d], .func (.func 34) #[] #[]] w (RetTree st ps (redN chR (hs.map Hd.nd)) w) := by
  obtain ⟨a1, a2, a3, a4, a5, a6, a7, a8, a9⟩ := rightN_parts hr
  rw [List.length_map] at a4 a5
  exact rebuilt_red chR st A c ps B d hs w hp hN st.toNat (by omega) (by omega) a8 (fun i hi => by have := a9 i (by rw [List.length_map]; exact hi); omega) (chR_chg _) (by omega) (by omega) (by omega) ht
    (fun W base g cx zs lv _ _ _ _ _ _ ho => clR_any W base g cx zs lv ho)
set_option maxHeartbeats 4000000 in
theorem reduce_any (st : Int) (A : Option Addr) (c : Nat) (ps : List (Int × Int)) (B : Option Addr) (d : Nat) (hs : List Hd) (w : World) (hp : Pts w A ps) (hN : Nds w B hs) (ht : TabB w.heap.size w) :
    Calls Tryd.prog 12 #[.agg #[.int .i64 st, .slice A ps.length c, .slice B hs.length d]] w (RetT (redT ⟨st, ps, hs.map Hd.nd⟩) w) := by
  obtain ⟨w0, hw0⟩ : ∃ w0, w0 = (w.alloc (.cells #[.int .i64 st, .slice A ps.length c, .slice B hs.length d] 25)).alloc (.cells #[.int .i64 0, .slice none 0 0, .slice none 0 0] 25) := ⟨_, rfl⟩
  have hb1 := below_new w (.cells #[.int .i64 st, .slice A ps.length c, .slice B hs.length d] 25)
  have hb0 : Below w.heap.size w w0 := by rw [hw0]; exact hb1.alloc hb1.size _
  have p0 : Blk w0 w.heap.size 25 #[.int .i64 st, .slice A ps.length c, .slice B hs.length d] := by rw [hw0]; exact (Blk.new w _ _).alloc _
  have q0 : Blk w0 (w.heap.size + 1) 25 #[.int .i64 0, .slice none 0 0, .slice none 0 0] := by
    rw [hw0]
    have := Blk.new (w.alloc (.cells #[.int .i64 st, .slice A ps.length c, .slice B hs.length d] 25)) 25 #[.int .i64 0, .slice none 0 0, .slice none 0 0]
    simpa using this
  have HR := Lib.hid (right_any st A c ps B d hs w0 (hp.ext hb0) (hN.ext hb0))
  have HP := Lib.hid (hp.ext hb0)
  have HN := Lib.hid (hN.ext hb0)
  have HT := Lib.hid (ht.on hb0)
  have HB0 := Lib.hid hb0
  have HP0 := Lib.hid p0
  have HQ0 := Lib.hid q0
  have HW0 := Lib.hid hw0
  have c0 := p0.cell_ 0 (.int .i64 st) rfl
  have c1 := p0.cell_ 1 (.slice A ps.length c) rfl
  have c2 := p0.cell_ 2 (.slice B hs.length d) rfl
  have hred : redT ⟨st, ps, hs.map Hd.nd⟩ = if rightN st ps (hs.map Hd.nd) then ⟨st, ps, redN chR (hs.map Hd.nd)⟩ else PT.zero := rfl
  rw [hred]
  clear hb1 hb0 p0 q0 hw0 hp hN ht hred
  cases hr : rightN st ps (hs.map Hd.nd) with
  | false =>
    rw [hr] at HR
    clear hr
    go_enter Tryd.func12, Tryd.ntmps12
    go_upto_region 1 with fail
    rw [← HW0.out]
    go_wp2_with (go_at_call 27; refine HR.out.mono ?_)
    rintro e w1 ⟨rfl, hb⟩
    have q1 := HQ0.out.below hb HQ0.out.lt
    have HQ1 := Lib.hid q1
    have d0 := q1.cell_ 0 (.int .i64 0) rfl
    have d1 := q1.cell_ 1 (.slice none 0 0) rfl
    have d2 := q1.cell_ 2 (.slice none 0 0) rfl
    have f0 := q1.frozen 0
    have f1 := q1.frozen 1
    have f2 := q1.frozen 2
    have HB := Lib.hid (HB0.out.trans (hb.mono HB0.out.size))
    clear q1 hb c0 c1 c2
    go_wp2
    have hq : Blk (((w1.setCell ⟨w.heap.size + 1, 0, none⟩ (.int .i64 0)).setCell ⟨w.heap.size + 1, 1, none⟩ (.slice none 0 0)).setCell ⟨w.heap.size + 1, 2, none⟩ (.slice none 0 0)) (w.heap.size + 1) 25 #[.int .i64 0, .slice none 0 0, .slice none 0 0] := ((HQ1.out.set_ 0 (.int .i64 0)).set_ 1 (.slice none 0 0)).set_ 2 (.slice none 0 0)
    exact bodyPost_ret (results_cell_row Tryd.results12 _ _ (w.heap.size + 1) 25 #[.int .i64 0, .slice none 0 0, .slice none 0 0] (0, 0) _ rfl hq Tryd.underlying25 rfl Tryd.sizeTree) rfl
      ⟨_, _, [], rfl, OwnP.nil _ _ _, OwnN.nil _ _ _ _, rfl, ((HB.out.setCell (p := ⟨w.heap.size + 1, 0, none⟩) (by simp) _).setCell (p := ⟨w.heap.size + 1, 1, none⟩) (by simp) _).setCell (p := ⟨w.heap.size + 1, 2, none⟩) (by simp) _⟩
  | true =>
    rw [hr] at HR
    have HRR := Lib.hid hr
    clear hr
    go_enter Tryd.func12, Tryd.ntmps12
    go_upto_region 1 with fail
    rw [← HW0.out]
    go_wp2_with (go_at_call 27; refine HR.out.mono ?_)
    rintro e w1 ⟨rfl, hb⟩
    have q1 := HQ0.out.below hb HQ0.out.lt
    have p1 := HP0.out.below hb HP0.out.lt
    have HQ1 := Lib.hid q1
    have c0' := p1.cell_ 0 (.int .i64 st) rfl
    have c1' := p1.cell_ 1 (.slice A ps.length c) rfl
    have c2' := p1.cell_ 2 (.slice B hs.length d) rfl
    have HBw := Lib.hid (HB0.out.trans (hb.mono HB0.out.size))
    have HCALL := Lib.hid (redn_any st A c ps B d hs w1 (HP.out.ext hb) (HN.out.ext hb) ((HT.out.on (hb.mono HB0.out.size)).up (Nat.le_trans HB0.out.size hb.size)) HRR.out)
    clear q1 p1 hb c0 c1 c2
    go_wp2_with (go_at_call 33; refine HCALL.out.mono ?_; intro e w2 hrt; obtain ⟨A2, c2, B2, d2, os, rfl, h1, h2, -, -, h3, h4⟩ := hrt.form; refine Hid.out ?_)
    refine Lib.hid ?_
    have q2 := HQ1.out.below h4 HQ1.out.lt
    have HQ2 := Lib.hid q2
    have d0 := q2.cell_ 0 (.int .i64 0) rfl
    have d1 := q2.cell_ 1 (.slice none 0 0) rfl
    have d2' := q2.cell_ 2 (.slice none 0 0) rfl
    have f0 := q2.frozen 0
    have f1 := q2.frozen 1
    have f2 := q2.frozen 2
    have HO1 := Lib.hid h1
    have HO2 := Lib.hid h2
    have HO3 := Lib.hid h3
    have HB2 := Lib.hid h4
    clear hrt h1 h2 h3 h4 q2 HCALL c0' c1' c2'
    go_wp2
    have hq : Blk (((w2.setCell ⟨w.heap.size + 1, 0, none⟩ (.int .i64 st)).setCell ⟨w.heap.size + 1, 1, none⟩ (.slice A2 ps.length c2)).setCell ⟨w.heap.size + 1, 2, none⟩ (.slice B2 os.length d2)) (w.heap.size + 1) 25 #[.int .i64 st, .slice A2 ps.length c2, .slice B2 os.length d2] := ((HQ2.out.set_ 0 (.int .i64 st)).set_ 1 (.slice A2 ps.length c2)).set_ 2 (.slice B2 os.length d2)
    have hk : Kept (fun g => g = w.heap.size + 1) w2 (((w2.setCell ⟨w.heap.size + 1, 0, none⟩ (.int .i64 st)).setCell ⟨w.heap.size + 1, 1, none⟩ (.slice A2 ps.length c2)).setCell ⟨w.heap.size + 1, 2, none⟩ (.slice B2 os.length d2)) := (((Kept.refl (fun g => g = w.heap.size + 1) w2).setCell (p := ⟨w.heap.size + 1, 0, none⟩) (Or.inl rfl) _).setCell (p := ⟨w.heap.size + 1, 1, none⟩) (Or.inl rfl) _).setCell (p := ⟨w.heap.size + 1, 2, none⟩) (Or.inl rfl) _
    refine bodyPost_ret (results_cell_row Tryd.results12 _ _ (w.heap.size + 1) 25 #[.int .i64 st, .slice A2 ps.length c2, .slice B2 os.length d2] (0, 0) _ rfl hq Tryd.underlying25 rfl Tryd.sizeTree) rfl
      ⟨_, _, os, rfl, ?_, ?_, HO3.out, ?_⟩
    · exact hk.own (own_down HO1.out HBw.out.size) (fun g e e2 => by subst e2; exact own_blk_ne' HO1.out HQ2.out (by decide) e)
    · exact OwnN.kept ⟨own_down HO2.out.1 HBw.out.size, fun x hx => (HO2.out.2 x hx).down HBw.out.size⟩ hk (fun g e e2 => by subst e2; exact own_blk_ne' HO2.out.1 HQ2.out (by decide) e) (fun x hx g e e2 => by subst e2; exact own_blk_ne' (HO2.out.2 x hx) HQ2.out (by decide) e)
    · exact (HBw.out.trans (HB2.out.mono HBw.out.size)).trans (hk.to_below (by have := HBw.out.size; have := HB2.out.size; omega) (fun g hg e => by omega))
end Go.Proofs.YtojnnfihpiegoaaDoor
namespace Go.Proofs.YtojnnfihpiegoaaDoor
open Go.RowKit
set_option maxRecDepth 100000
set_option linter.unusedVariables false
set_option linter.unusedSimpArgs false

theorem results_ct {P : Program} {fn : Func} {p u : Tmp} {ty : TypeId} (h : fn.results = #[.cell p ty, .tmp u]) (tmps : Array Value) (w : World) (g : Nat) (t : TypeId) (cs : Array Value) (fr : Nat × Nat) (d : TypeDesc)
    (hp : tmps.getD p undef = .pointer (some ⟨g, 0, none⟩)) (hg : w.heap[g]? = some (.cells cs t fr))
    (hu : P.underlying ty = some d) (hd : (match d with | .struct _ | .array _ _ => true | _ => false) = true) (hi : (P.info? ty).map (·.size) = some cs.size) :
    (results fn tmps).run P w = .ok (.tuple #[.agg cs, tmps.getD u undef]) w := by
  rw [results_cell_tmp h, hp]
  simp [asAddr, run_loadVar_row w g t ty cs fr d hg hu hd hi, Result.andThen]
/-- a tree of its own, and an error -/
def RetTE (te : PT × Int) (w : World) (e : Ending) (w' : World) : Prop :=
  ∃ hv nv os, e = .returned (.tuple #[.agg #[.int .i64 te.1.st, hv, nv], .int .i64 te.2]) ∧ OwnP 49 w' w.heap.size hv te.1.ps ∧ OwnNA w' w.heap.size nv os ∧ os.map Hd.nd = te.1.ns ∧ Below w.heap.size w w'
def badS (st s : Int) : Bool := decide (s < 0) || decide (st ≤ s)
def mapT (t : PT) (tz : List Int) : PT × Int :=
  if t.right = false then (PT.zero, 11) else if (tz.length : Int) ≠ t.st then (PT.zero, 2) else if tz.any (badS t.st) then (PT.zero, 10) else (⟨t.st, t.ps, redN (chM tz) t.ns⟩, 0)
def fixT (t : PT) (k s : Int) : PT × Int :=
  if t.right = false then (PT.zero, 11) else if (decide (k < 0) || decide ((t.ps.length : Int) ≤ k)) then (PT.zero, 2) else if badS t.st s then (PT.zero, 10) else (⟨t.st, t.ps, redN (chF t.ps.length k.toNat s.toNat) t.ns⟩, 0)
set_option maxHeartbeats 8000000 in
theorem map_any (st : Int) (A : Option Addr) (c : Nat) (ps : List (Int × Int)) (B : Option Addr) (d : Nat) (hs : List Hd) (At : Option Addr) (ct : Nat) (tz : List Int) (w : World) (hp : Pts w A ps) (hN : Nds w B hs) (hz : Ints w At tz) (ht : TabB w.heap.size w) :
    Calls Tryd.prog 18 #[.agg #[.int .i64 st, .slice A ps.length c, .slice B hs.length d], .slice At tz.length ct] w (RetTE (mapT ⟨st, ps, hs.map Hd.nd⟩ tz) w) := by
  have htl := hz.le
  obtain ⟨w0, hw0⟩ : ∃ w0, w0 = ((w.alloc (.cells #[.int .i64 st, .slice A ps.length c, .slice B hs.length d] 25)).alloc (.cells #[.slice At tz.length ct] 31)).alloc (.cells #[.int .i64 0, .slice none 0 0, .slice none 0 0] 25) := ⟨_, rfl⟩
  have hb1 := below_new w (.cells #[.int .i64 st, .slice A ps.length c, .slice B hs.length d] 25)
  have hb2 := hb1.alloc hb1.size (.cells #[.slice At tz.length ct] 31)
  have hb0 : Below w.heap.size w w0 := by rw [hw0]; exact hb2.alloc hb2.size _
  have p0 : Blk w0 w.heap.size 25 #[.int .i64 st, .slice A ps.length c, .slice B hs.length d] := by rw [hw0]; exact ((Blk.new w _ _).alloc _).alloc _
  have t0 : Blk w0 (w.heap.size + 1) 31 #[.slice At tz.length ct] := by
    rw [hw0]
    have := (Blk.new (w.alloc (.cells #[.int .i64 st, .slice A ps.length c, .slice B hs.length d] 25)) 31 #[.slice At tz.length ct]).alloc (.cells #[.int .i64 0, .slice none 0 0, .slice none 0 0] 25)
    simpa using this
  have q0 : Blk w0 (w.heap.size + 1 + 1) 25 #[.int .i64 0, .slice none 0 0, .slice none 0 0] := by
    rw [hw0]
    have := Blk.new ((w.alloc (.cells #[.int .i64 st, .slice A ps.length c, .slice B hs.length d] 25)).alloc (.cells #[.slice At tz.length ct] 31)) 25 #[.int .i64 0, .slice none 0 0, .slice none 0 0]
    simpa using this
  have HR := Lib.hid (right_any st A c ps B d hs w0 (hp.ext hb0) (hN.ext hb0))
  have HP := Lib.hid (hp.ext hb0)
  have HN := Lib.hid (hN.ext hb0)
  have HZ := Lib.hid (hz.ext hb0)
  have HT := Lib.hid (ht.on hb0)
  have HB0 := Lib.hid hb0
  have HP0 := Lib.hid p0
  have HT0 := Lib.hid t0
  have HQ0 := Lib.hid q0
  have HW0 := Lib.hid hw0
  have c0 := p0.cell_ 0 (.int .i64 st) rfl
  have c1 := p0.cell_ 1 (.slice A ps.length c) rfl
  have c2 := p0.cell_ 2 (.slice B hs.length d) rfl
  clear hb1 hb2 hb0 p0 t0 q0 hw0 hp hN hz ht
  cases hr : rightN st ps (hs.map Hd.nd) with
  | false =>
    have HE : Hid (mapT ⟨st, ps, hs.map Hd.nd⟩ tz = (PT.zero, 11)) := Lib.hid (by unfold mapT PT.right; rw [hr]; rfl)
    rw [hr] at HR
    clear hr
    go_enter Tryd.func18, Tryd.ntmps18
    go_upto_region 1 with fail
    rw [← HW0.out]
    go_wp2_with (go_at_call 27; refine HR.out.mono ?_)
    rintro e w1 ⟨rfl, hb⟩
    have HBr := Lib.hid hb
    have HBw := Lib.hid (HB0.out.trans (hb.mono HB0.out.size))
    clear hb c0 c1 c2
    have q1 := HQ0.out.below HBr.out HQ0.out.lt
    have HQ1 := Lib.hid q1
    have d0 := q1.cell_ 0 (.int .i64 0) rfl
    have d1x := q1.cell_ 1 (.slice none 0 0) rfl
    have d2 := q1.cell_ 2 (.slice none 0 0) rfl
    have f0 := q1.frozen 0
    have f1 := q1.frozen 1
    have f2 := q1.frozen 2
    clear q1
    go_wp2
    have hq : Blk (((w1.setCell ⟨w.heap.size + 1 + 1, 0, none⟩ (.int .i64 0)).setCell ⟨w.heap.size + 1 + 1, 1, none⟩ (.slice none 0 0)).setCell ⟨w.heap.size + 1 + 1, 2, none⟩ (.slice none 0 0)) (w.heap.size + 1 + 1) 25 #[.int .i64 0, .slice none 0 0, .slice none 0 0] := ((HQ1.out.set_ 0 (.int .i64 0)).set_ 1 (.slice none 0 0)).set_ 2 (.slice none 0 0)
    rw [HE.out]
    exact bodyPost_ret (results_ct Tryd.results18 _ _ (w.heap.size + 1 + 1) 25 #[.int .i64 0, .slice none 0 0, .slice none 0 0] (0, 0) _ rfl hq Tryd.underlying25 rfl Tryd.sizeTree) rfl
      ⟨_, _, [], rfl, OwnP.nil _ _ _, OwnN.nil _ _ _ _, rfl, ((HBw.out.setCell (p := ⟨w.heap.size + 1 + 1, 0, none⟩) (by show w.heap.size ≤ w.heap.size + 1 + 1; omega) _).setCell (p := ⟨w.heap.size + 1 + 1, 1, none⟩) (by show w.heap.size ≤ w.heap.size + 1 + 1; omega) _).setCell (p := ⟨w.heap.size + 1 + 1, 2, none⟩) (by show w.heap.size ≤ w.heap.size + 1 + 1; omega) _⟩
  | true =>
    rw [hr] at HR
    have HRR := Lib.hid hr
    clear hr
    have HRP := Lib.hid (rightN_parts HRR.out)
    by_cases hl : (tz.length : Int) = st
    · have n1 : ((tz.length : Int) != st) = false := by simp [hl]
      have HL := Lib.hid hl
      clear hl
      go_enter Tryd.func18, Tryd.ntmps18
      go_upto_region 1 with fail
      rw [← HW0.out]
      go_wp2_with (go_at_call 27; refine HR.out.mono ?_)
      rintro e w1 ⟨rfl, hb⟩
      have HBr := Lib.hid hb
      have HBw := Lib.hid (HB0.out.trans (hb.mono HB0.out.size))
      have p1 := HP0.out.below hb HP0.out.lt
      have t1 := HT0.out.below hb HT0.out.lt
      have e0 := p1.cell_ 0 (.int .i64 st) rfl
      have e1 := p1.cell_ 1 (.slice A ps.length c) rfl
      have e2 := p1.cell_ 2 (.slice B hs.length d) rfl
      have e3 := t1.cell_ 0 (.slice At tz.length ct) rfl
      have HT1 := Lib.hid t1
      have HZ1 := Lib.hid (HZ.out.ext hb)
      have HTL := Lib.hid (show tz.length ≤ 8 by have h1 := HL.out; have h2 := HRP.out.2.1; omega)
      clear hb c0 c1 c2 p1 t1 htl
      go_wp2
      go_loopw [20] (fun i wr => ∃ m : Nat, m ≤ tz.length ∧ i = .int .i64 m ∧ wr = w1 ∧ Hid (tz.any (badS st) = (tz.drop m).any (badS st))) (fun i _ => tz.length - (intOf i).toNat)
      case atStart => exact ⟨0, Nat.zero_le _, rfl, rfl, Lib.hid (by simp)⟩
      case round =>
        obtain ⟨m, hm, rfl, rfl, HI⟩ := hrel
        by_cases hml : m < tz.length
        · obtain ⟨bt, ot, et, -, hct⟩ := HZ1.out.at_ hml
          have hwm : wrap64 ((m : Int) + 1) = (m : Int) + 1 := by have := HTL.out; unfold wrap64; omega
          obtain ⟨z, hz⟩ : ∃ z, z = tz[m] := ⟨_, rfl⟩
          rw [← hz] at hct
          have hany : (tz.drop m).any (badS st) = (badS st z || (tz.drop (m + 1)).any (badS st)) := by rw [List.drop_eq_getElem_cons hml, List.any_cons, hz]
          have HA := Lib.hid hany
          subst et
          clear hz hany
          by_cases z0 : z < 0
          · have g0 : decide (z < 0) = true := decide_eq_true z0
            have HE : Hid (mapT ⟨st, ps, hs.map Hd.nd⟩ tz = (PT.zero, 10)) := Lib.hid (by
              unfold mapT PT.right
              rw [HRR.out, if_neg (by simp), if_neg (by simpa using HL.out), if_pos]
              dsimp only
              rw [HI.out, HA.out]; unfold badS; rw [g0]; rfl)
            clear z0
            obtain ⟨w1, hw1⟩ : ∃ w1 : World, w1 = wr := ⟨_, rfl⟩
            subst hw1
            have q1 := HQ0.out.below HBr.out HQ0.out.lt
            have HQ1 := Lib.hid q1
            have d0 := q1.cell_ 0 (.int .i64 0) rfl
            have d1x := q1.cell_ 1 (.slice none 0 0) rfl
            have d2 := q1.cell_ 2 (.slice none 0 0) rfl
            have f0 := q1.frozen 0
            have f1 := q1.frozen 1
            have f2 := q1.frozen 2
            clear q1
            go_wp2
            have hq : Blk (((w1.setCell ⟨w.heap.size + 1 + 1, 0, none⟩ (.int .i64 0)).setCell ⟨w.heap.size + 1 + 1, 1, none⟩ (.slice none 0 0)).setCell ⟨w.heap.size + 1 + 1, 2, none⟩ (.slice none 0 0)) (w.heap.size + 1 + 1) 25 #[.int .i64 0, .slice none 0 0, .slice none 0 0] := ((HQ1.out.set_ 0 (.int .i64 0)).set_ 1 (.slice none 0 0)).set_ 2 (.slice none 0 0)
            rw [HE.out]
            exact bodyPost_ret (results_ct Tryd.results18 _ _ (w.heap.size + 1 + 1) 25 #[.int .i64 0, .slice none 0 0, .slice none 0 0] (0, 0) _ rfl hq Tryd.underlying25 rfl Tryd.sizeTree) rfl
              ⟨_, _, [], rfl, OwnP.nil _ _ _, OwnN.nil _ _ _ _, rfl, ((HBw.out.setCell (p := ⟨w.heap.size + 1 + 1, 0, none⟩) (by show w.heap.size ≤ w.heap.size + 1 + 1; omega) _).setCell (p := ⟨w.heap.size + 1 + 1, 1, none⟩) (by show w.heap.size ≤ w.heap.size + 1 + 1; omega) _).setCell (p := ⟨w.heap.size + 1 + 1, 2, none⟩) (by show w.heap.size ≤ w.heap.size + 1 + 1; omega) _⟩
          · have g0 : decide (z < 0) = false := decide_eq_false z0
            by_cases z1 : st ≤ z
            · have g1 : decide (st ≤ z) = true := decide_eq_true z1
              have HE : Hid (mapT ⟨st, ps, hs.map Hd.nd⟩ tz = (PT.zero, 10)) := Lib.hid (by
                unfold mapT PT.right
                rw [HRR.out, if_neg (by simp), if_neg (by simpa using HL.out), if_pos]
                dsimp only
                rw [HI.out, HA.out]; unfold badS; rw [g1]; simp)
              clear z0 z1
              obtain ⟨w1, hw1⟩ : ∃ w1 : World, w1 = wr := ⟨_, rfl⟩
              subst hw1
              have q1 := HQ0.out.below HBr.out HQ0.out.lt
              have HQ1 := Lib.hid q1
              have d0 := q1.cell_ 0 (.int .i64 0) rfl
              have d1x := q1.cell_ 1 (.slice none 0 0) rfl
              have d2 := q1.cell_ 2 (.slice none 0 0) rfl
              have f0 := q1.frozen 0
              have f1 := q1.frozen 1
              have f2 := q1.frozen 2
              clear q1
              go_wp2
              have hq : Blk (((w1.setCell ⟨w.heap.size + 1 + 1, 0, none⟩ (.int .i64 0)).setCell ⟨w.heap.size + 1 + 1, 1, none⟩ (.slice none 0 0)).setCell ⟨w.heap.size + 1 + 1, 2, none⟩ (.slice none 0 0)) (w.heap.size + 1 + 1) 25 #[.int .i64 0, .slice none 0 0, .slice none 0 0] := ((HQ1.out.set_ 0 (.int .i64 0)).set_ 1 (.slice none 0 0)).set_ 2 (.slice none 0 0)
              rw [HE.out]
              exact bodyPost_ret (results_ct Tryd.results18 _ _ (w.heap.size + 1 + 1) 25 #[.int .i64 0, .slice none 0 0, .slice none 0 0] (0, 0) _ rfl hq Tryd.underlying25 rfl Tryd.sizeTree) rfl
                ⟨_, _, [], rfl, OwnP.nil _ _ _, OwnN.nil _ _ _ _, rfl, ((HBw.out.setCell (p := ⟨w.heap.size + 1 + 1, 0, none⟩) (by show w.heap.size ≤ w.heap.size + 1 + 1; omega) _).setCell (p := ⟨w.heap.size + 1 + 1, 1, none⟩) (by show w.heap.size ≤ w.heap.size + 1 + 1; omega) _).setCell (p := ⟨w.heap.size + 1 + 1, 2, none⟩) (by show w.heap.size ≤ w.heap.size + 1 + 1; omega) _⟩
            · have g1 : decide (st ≤ z) = false := decide_eq_false z1
              have HI2 : Hid (tz.any (badS st) = (tz.drop (m + 1)).any (badS st)) := Lib.hid (by rw [HI.out, HA.out]; unfold badS; rw [g0, g1]; rfl)
              clear z0 z1
              go_wp2
              go_roundw
              case rel => exact ⟨m + 1, hml, (by rw [hwm]; rfl), (by first | rfl | trivial), HI2⟩
              case measure => rw [hwm]; simp [intOf]; omega
        · have HAL : Hid (tz.any (badS st) = false) := Lib.hid (by
            have h := HI.out
            rw [List.drop_of_length_le (by omega)] at h
            exact h)
          have HE : Hid (mapT ⟨st, ps, hs.map Hd.nd⟩ tz = (⟨st, ps, redN (chM tz) (hs.map Hd.nd)⟩, 0)) := Lib.hid (by
            unfold mapT PT.right
            rw [HRR.out, if_neg (by simp), if_neg (by simpa using HL.out)]
            dsimp only
            rw [HAL.out]
            rfl)
          have hmk : m = tz.length := by omega
          obtain ⟨w1, hw1⟩ : ∃ w1 : World, w1 = wr := ⟨_, rfl⟩
          subst hw1
          have HQ1 := Lib.hid (HQ0.out.below HBr.out HQ0.out.lt)
          have HCALL : Hid (Calls Tryd.prog 33 #[.agg #[.int .i64 st, .slice A ps.length c, .slice B hs.length d], .func (.func 42) #[] #[.pointer (some ⟨w.heap.size + 1, 0, none⟩)]] w1 (RetTree st ps (redN (chM tz) (hs.map Hd.nd)) w1)) := Lib.hid (by
            obtain ⟨a1, a2, a3, a4, a5, a6, a7, a8, a9⟩ := HRP.out
            rw [List.length_map] at a4 a5
            have hq : tz.length = st.toNat := by have := HL.out; omega
            have hall : ∀ z ∈ tz, 0 ≤ z ∧ z < (st.toNat : Int) := fun z hz => by
              have h := HAL.out
              rw [List.any_eq_false] at h
              have h2 := h z hz
              unfold badS at h2
              simp at h2
              omega
            exact rebuilt_map (chM tz) st A c ps B d hs (w.heap.size + 1) w1 (HP.out.ext HBr.out) (HN.out.ext HBr.out) st.toNat (by omega) (by omega) a8 (fun i hi => by have := a9 i (by rw [List.length_map]; exact hi); omega) (chM_chg hq hall) (by omega) (by omega) (by omega) ((HT.out.on (HBr.out.mono HB0.out.size)).up (Nat.le_trans HB0.out.size HBr.out.size))
              (fun W base g cx zs lv hbW hgW hzs hlow _ _ ho => clM_any (w.heap.size + 1) At ct tz w1 HT1.out HZ1.out W hbW base g cx hgW zs lv (fun e z hz => by have := hlow e z hz; omega) (by omega) ho))
          subst hmk
          clear hm hml
          go_wp2_with (go_at_call 33; refine HCALL.out.mono ?_; intro e w2 hrt; obtain ⟨A2, c2, B2, d2, os, rfl, h1, h2, -, -, h3, h4⟩ := hrt.form; refine Hid.out ?_)
          refine Lib.hid ?_
          have q2 := HQ1.out.below h4 HQ1.out.lt
          have HQ2 := Lib.hid q2
          have d0 := q2.cell_ 0 (.int .i64 0) rfl
          have d1x := q2.cell_ 1 (.slice none 0 0) rfl
          have d2' := q2.cell_ 2 (.slice none 0 0) rfl
          have f0 := q2.frozen 0
          have f1 := q2.frozen 1
          have f2 := q2.frozen 2
          have HO1 := Lib.hid h1
          have HO2 := Lib.hid h2
          have HO3 := Lib.hid h3
          have HB2 := Lib.hid h4
          clear hrt h1 h2 h3 h4 q2 HCALL
          go_wp2
          have hq : Blk (((w2.setCell ⟨w.heap.size + 1 + 1, 0, none⟩ (.int .i64 st)).setCell ⟨w.heap.size + 1 + 1, 1, none⟩ (.slice A2 ps.length c2)).setCell ⟨w.heap.size + 1 + 1, 2, none⟩ (.slice B2 os.length d2)) (w.heap.size + 1 + 1) 25 #[.int .i64 st, .slice A2 ps.length c2, .slice B2 os.length d2] := ((HQ2.out.set_ 0 (.int .i64 st)).set_ 1 (.slice A2 ps.length c2)).set_ 2 (.slice B2 os.length d2)
          have hk : Kept (fun g => g = w.heap.size + 1 + 1) w2 (((w2.setCell ⟨w.heap.size + 1 + 1, 0, none⟩ (.int .i64 st)).setCell ⟨w.heap.size + 1 + 1, 1, none⟩ (.slice A2 ps.length c2)).setCell ⟨w.heap.size + 1 + 1, 2, none⟩ (.slice B2 os.length d2)) := (((Kept.refl (fun g => g = w.heap.size + 1 + 1) w2).setCell (p := ⟨w.heap.size + 1 + 1, 0, none⟩) (Or.inl rfl) _).setCell (p := ⟨w.heap.size + 1 + 1, 1, none⟩) (Or.inl rfl) _).setCell (p := ⟨w.heap.size + 1 + 1, 2, none⟩) (Or.inl rfl) _
          rw [HE.out]
          refine bodyPost_ret (results_ct Tryd.results18 _ _ (w.heap.size + 1 + 1) 25 #[.int .i64 st, .slice A2 ps.length c2, .slice B2 os.length d2] (0, 0) _ rfl hq Tryd.underlying25 rfl Tryd.sizeTree) rfl
            ⟨_, _, os, rfl, ?_, ?_, HO3.out, ?_⟩
          · exact hk.own (own_down HO1.out HBw.out.size) (fun g e e2 => by subst e2; exact own_blk_ne' HO1.out HQ2.out (by decide) e)
          · exact OwnN.kept ⟨own_down HO2.out.1 HBw.out.size, fun x hx => (HO2.out.2 x hx).down HBw.out.size⟩ hk (fun g e e2 => by subst e2; exact own_blk_ne' HO2.out.1 HQ2.out (by decide) e) (fun x hx g e e2 => by subst e2; exact own_blk_ne' (HO2.out.2 x hx) HQ2.out (by decide) e)
          · exact (HBw.out.trans (HB2.out.mono HBw.out.size)).trans (hk.to_below (by have := HBw.out.size; have := HB2.out.size; omega) (fun g hg e => by omega))
    · have n1 : ((tz.length : Int) != st) = true := by simpa using hl
      have HE : Hid (mapT ⟨st, ps, hs.map Hd.nd⟩ tz = (PT.zero, 2)) := Lib.hid (by unfold mapT PT.right; rw [HRR.out, if_neg (by simp), if_pos hl])
      clear hl
      go_enter Tryd.func18, Tryd.ntmps18
      go_upto_region 1 with fail
      rw [← HW0.out]
      go_wp2_with (go_at_call 27; refine HR.out.mono ?_)
      rintro e w1 ⟨rfl, hb⟩
      have HBr := Lib.hid hb
      have HBw := Lib.hid (HB0.out.trans (hb.mono HB0.out.size))
      have p1 := HP0.out.below hb HP0.out.lt
      have t1 := HT0.out.below hb HT0.out.lt
      have e0 := p1.cell_ 0 (.int .i64 st) rfl
      have e3 := t1.cell_ 0 (.slice At tz.length ct) rfl
      clear hb c0 c1 c2 p1 t1
      have q1 := HQ0.out.below HBr.out HQ0.out.lt
      have HQ1 := Lib.hid q1
      have d0 := q1.cell_ 0 (.int .i64 0) rfl
      have d1x := q1.cell_ 1 (.slice none 0 0) rfl
      have d2 := q1.cell_ 2 (.slice none 0 0) rfl
      have f0 := q1.frozen 0
      have f1 := q1.frozen 1
      have f2 := q1.frozen 2
      clear q1
      go_wp2
      have hq : Blk (((w1.setCell ⟨w.heap.size + 1 + 1, 0, none⟩ (.int .i64 0)).setCell ⟨w.heap.size + 1 + 1, 1, none⟩ (.slice none 0 0)).setCell ⟨w.heap.size + 1 + 1, 2, none⟩ (.slice none 0 0)) (w.heap.size + 1 + 1) 25 #[.int .i64 0, .slice none 0 0, .slice none 0 0] := ((HQ1.out.set_ 0 (.int .i64 0)).set_ 1 (.slice none 0 0)).set_ 2 (.slice none 0 0)
      rw [HE.out]
      exact bodyPost_ret (results_ct Tryd.results18 _ _ (w.heap.size + 1 + 1) 25 #[.int .i64 0, .slice none 0 0, .slice none 0 0] (0, 0) _ rfl hq Tryd.underlying25 rfl Tryd.sizeTree) rfl
        ⟨_, _, [], rfl, OwnP.nil _ _ _, OwnN.nil _ _ _ _, rfl, ((HBw.out.setCell (p := ⟨w.heap.size + 1 + 1, 0, none⟩) (by show w.heap.size ≤ w.heap.size + 1 + 1; omega) _).setCell (p := ⟨w.heap.size + 1 + 1, 1, none⟩) (by show w.heap.size ≤ w.heap.size + 1 + 1; omega) _).setCell (p := ⟨w.heap.size + 1 + 1, 2, none⟩) (by show w.heap.size ≤ w.heap.size + 1 + 1; omega) _⟩
set_option maxHeartbeats 8000000 in
theorem fix_any (st : Int) (A : Option Addr) (c : Nat) (ps : List (Int × Int)) (B : Option Addr) (d : Nat) (hs : List Hd) (k s : Int) (w : World) (hp : Pts w A ps) (hN : Nds w B hs) (ht : TabB w.heap.size w) :
    Calls Tryd.prog 20 #[.agg #[.int .i64 st, .slice A ps.length c, .slice B hs.length d], .int .i64 k, .int .i64 s] w (RetTE (fixT ⟨st, ps, hs.map Hd.nd⟩ k s) w) := by
  obtain ⟨v1, hv1⟩ : ∃ v1, v1 = w.alloc (.cells #[.int .i64 st, .slice A ps.length c, .slice B hs.length d] 25) := ⟨_, rfl⟩
  obtain ⟨v2, hv2⟩ : ∃ v2, v2 = v1.alloc (.cells #[.int .i64 k] 3) := ⟨_, rfl⟩
  obtain ⟨v3, hv3⟩ : ∃ v3, v3 = v2.alloc (.cells #[.int .i64 s] 3) := ⟨_, rfl⟩
  obtain ⟨w0, hw0⟩ : ∃ w0, w0 = v3.alloc (.cells #[.int .i64 0, .slice none 0 0, .slice none 0 0] 25) := ⟨_, rfl⟩
  have z1 : v1.heap.size = w.heap.size + 1 := by rw [hv1]; simp
  have z2 : v2.heap.size = w.heap.size + 1 + 1 := by rw [hv2]; simp [z1]
  have z3 : v3.heap.size = w.heap.size + 1 + 1 + 1 := by rw [hv3]; simp [z2]
  have b1 : Below w.heap.size w v1 := by rw [hv1]; exact below_new _ _
  have b2 : Below v1.heap.size v1 v2 := by rw [hv2]; exact below_new _ _
  have b3 : Below v2.heap.size v2 v3 := by rw [hv3]; exact below_new _ _
  have b4 : Below v3.heap.size v3 w0 := by rw [hw0]; exact below_new _ _
  have p1 : Blk v1 w.heap.size 25 #[.int .i64 st, .slice A ps.length c, .slice B hs.length d] := by rw [hv1]; exact Blk.new _ _ _
  have p2 : Blk v2 v1.heap.size 3 #[.int .i64 k] := by rw [hv2]; exact Blk.new _ _ _
  have p3 : Blk v3 v2.heap.size 3 #[.int .i64 s] := by rw [hv3]; exact Blk.new _ _ _
  have q0 : Blk w0 v3.heap.size 25 #[.int .i64 0, .slice none 0 0, .slice none 0 0] := by rw [hw0]; exact Blk.new _ _ _
  have p0 := ((p1.below b2 p1.lt).below b3 (by have := p1.lt; omega)).below b4 (by have := p1.lt; omega)
  have k0 := (p2.below b3 p2.lt).below b4 (by have := p2.lt; omega)
  have s0 := p3.below b4 p3.lt
  rw [z1] at k0
  rw [z2] at s0
  rw [z3] at q0
  have hb0 : Below w.heap.size w w0 := ((b1.trans (b2.mono b1.size)).trans (b3.mono (by omega))).trans (b4.mono (by omega))
  rw [hv3, hv2, hv1] at hw0
  have HR := Lib.hid (right_any st A c ps B d hs w0 (hp.ext hb0) (hN.ext hb0))
  have HP := Lib.hid (hp.ext hb0)
  have HN := Lib.hid (hN.ext hb0)
  have HT := Lib.hid (ht.on hb0)
  have HB0 := Lib.hid hb0
  have HP0 := Lib.hid p0
  have HK0 := Lib.hid k0
  have HS0 := Lib.hid s0
  have HQ0 := Lib.hid q0
  have HW0 := Lib.hid hw0
  have c0 := p0.cell_ 0 (.int .i64 st) rfl
  have c1 := p0.cell_ 1 (.slice A ps.length c) rfl
  have c2 := p0.cell_ 2 (.slice B hs.length d) rfl
  clear hv1 hv2 hv3 z1 z2 z3 b1 b2 b3 b4 p1 p2 p3 k0 s0 hb0 p0 q0 hw0 hp hN ht
  cases hr : rightN st ps (hs.map Hd.nd) with
  | false =>
    have HE : Hid (fixT ⟨st, ps, hs.map Hd.nd⟩ k s = (PT.zero, 11)) := Lib.hid (by unfold fixT PT.right; rw [hr]; rfl)
    rw [hr] at HR
    clear hr
    go_enter Tryd.func20, Tryd.ntmps20
    go_upto_region 1 with fail
    rw [← HW0.out]
    go_wp2_with (go_at_call 27; refine HR.out.mono ?_)
    rintro e w1 ⟨rfl, hb⟩
    have HBr := Lib.hid hb
    have HBw := Lib.hid (HB0.out.trans (hb.mono HB0.out.size))
    clear hb c0 c1 c2
    have q1 := HQ0.out.below HBr.out HQ0.out.lt
    have HQ1 := Lib.hid q1
    have d0 := q1.cell_ 0 (.int .i64 0) rfl
    have d1x := q1.cell_ 1 (.slice none 0 0) rfl
    have d2 := q1.cell_ 2 (.slice none 0 0) rfl
    have f0 := q1.frozen 0
    have f1 := q1.frozen 1
    have f2 := q1.frozen 2
    clear q1
    go_wp2
    have hq : Blk (((w1.setCell ⟨w.heap.size + 1 + 1 + 1, 0, none⟩ (.int .i64 0)).setCell ⟨w.heap.size + 1 + 1 + 1, 1, none⟩ (.slice none 0 0)).setCell ⟨w.heap.size + 1 + 1 + 1, 2, none⟩ (.slice none 0 0)) (w.heap.size + 1 + 1 + 1) 25 #[.int .i64 0, .slice none 0 0, .slice none 0 0] := ((HQ1.out.set_ 0 (.int .i64 0)).set_ 1 (.slice none 0 0)).set_ 2 (.slice none 0 0)
    rw [HE.out]
    exact bodyPost_ret (results_ct Tryd.results20 _ _ (w.heap.size + 1 + 1 + 1) 25 #[.int .i64 0, .slice none 0 0, .slice none 0 0] (0, 0) _ rfl hq Tryd.underlying25 rfl Tryd.sizeTree) rfl
      ⟨_, _, [], rfl, OwnP.nil _ _ _, OwnN.nil _ _ _ _, rfl, ((HBw.out.setCell (p := ⟨w.heap.size + 1 + 1 + 1, 0, none⟩) (by show w.heap.size ≤ w.heap.size + 1 + 1 + 1; omega) _).setCell (p := ⟨w.heap.size + 1 + 1 + 1, 1, none⟩) (by show w.heap.size ≤ w.heap.size + 1 + 1 + 1; omega) _).setCell (p := ⟨w.heap.size + 1 + 1 + 1, 2, none⟩) (by show w.heap.size ≤ w.heap.size + 1 + 1 + 1; omega) _⟩
  | true =>
    rw [hr] at HR
    have HRR := Lib.hid hr
    clear hr
    have HRP := Lib.hid (rightN_parts HRR.out)
    by_cases y1 : k < 0
    · have g1 : decide (k < 0) = true := decide_eq_true y1
      clear y1
      have HE : Hid (fixT ⟨st, ps, hs.map Hd.nd⟩ k s = (PT.zero, 2)) := Lib.hid (by unfold fixT PT.right; rw [HRR.out, if_neg (by simp)]; dsimp only; rw [g1]; rfl)
      go_enter Tryd.func20, Tryd.ntmps20
      go_upto_region 1 with fail
      rw [← HW0.out]
      go_wp2_with (go_at_call 27; refine HR.out.mono ?_)
      rintro e w1 ⟨rfl, hb⟩
      have HBr := Lib.hid hb
      have HBw := Lib.hid (HB0.out.trans (hb.mono HB0.out.size))
      have p1 := HP0.out.below hb HP0.out.lt
      have k1 := HK0.out.below hb HK0.out.lt
      have s1 := HS0.out.below hb HS0.out.lt
      have e0 := p1.cell_ 0 (.int .i64 st) rfl
      have e1 := p1.cell_ 1 (.slice A ps.length c) rfl
      have e2 := p1.cell_ 2 (.slice B hs.length d) rfl
      have e3 := k1.cell_ 0 (.int .i64 k) rfl
      have e4 := s1.cell_ 0 (.int .i64 s) rfl
      have HP1 := Lib.hid p1
      have HK1 := Lib.hid k1
      have HS1 := Lib.hid s1
      clear hb c0 c1 c2 p1 k1 s1
      have q1 := HQ0.out.below HBr.out HQ0.out.lt
      have HQ1 := Lib.hid q1
      have d0 := q1.cell_ 0 (.int .i64 0) rfl
      have d1x := q1.cell_ 1 (.slice none 0 0) rfl
      have d2 := q1.cell_ 2 (.slice none 0 0) rfl
      have f0 := q1.frozen 0
      have f1 := q1.frozen 1
      have f2 := q1.frozen 2
      clear q1
      go_wp2
      have hq : Blk (((w1.setCell ⟨w.heap.size + 1 + 1 + 1, 0, none⟩ (.int .i64 0)).setCell ⟨w.heap.size + 1 + 1 + 1, 1, none⟩ (.slice none 0 0)).setCell ⟨w.heap.size + 1 + 1 + 1, 2, none⟩ (.slice none 0 0)) (w.heap.size + 1 + 1 + 1) 25 #[.int .i64 0, .slice none 0 0, .slice none 0 0] := ((HQ1.out.set_ 0 (.int .i64 0)).set_ 1 (.slice none 0 0)).set_ 2 (.slice none 0 0)
      rw [HE.out]
      exact bodyPost_ret (results_ct Tryd.results20 _ _ (w.heap.size + 1 + 1 + 1) 25 #[.int .i64 0, .slice none 0 0, .slice none 0 0] (0, 0) _ rfl hq Tryd.underlying25 rfl Tryd.sizeTree) rfl
        ⟨_, _, [], rfl, OwnP.nil _ _ _, OwnN.nil _ _ _ _, rfl, ((HBw.out.setCell (p := ⟨w.heap.size + 1 + 1 + 1, 0, none⟩) (by show w.heap.size ≤ w.heap.size + 1 + 1 + 1; omega) _).setCell (p := ⟨w.heap.size + 1 + 1 + 1, 1, none⟩) (by show w.heap.size ≤ w.heap.size + 1 + 1 + 1; omega) _).setCell (p := ⟨w.heap.size + 1 + 1 + 1, 2, none⟩) (by show w.heap.size ≤ w.heap.size + 1 + 1 + 1; omega) _⟩
    have g1 : decide (k < 0) = false := decide_eq_false y1
    by_cases y2 : (ps.length : Int) ≤ k
    · have g2 : decide ((ps.length : Int) ≤ k) = true := decide_eq_true y2
      clear y1 y2
      have HE : Hid (fixT ⟨st, ps, hs.map Hd.nd⟩ k s = (PT.zero, 2)) := Lib.hid (by unfold fixT PT.right; rw [HRR.out, if_neg (by simp)]; dsimp only; rw [g1, g2]; rfl)
      go_enter Tryd.func20, Tryd.ntmps20
      go_upto_region 1 with fail
      rw [← HW0.out]
      go_wp2_with (go_at_call 27; refine HR.out.mono ?_)
      rintro e w1 ⟨rfl, hb⟩
      have HBr := Lib.hid hb
      have HBw := Lib.hid (HB0.out.trans (hb.mono HB0.out.size))
      have p1 := HP0.out.below hb HP0.out.lt
      have k1 := HK0.out.below hb HK0.out.lt
      have s1 := HS0.out.below hb HS0.out.lt
      have e0 := p1.cell_ 0 (.int .i64 st) rfl
      have e1 := p1.cell_ 1 (.slice A ps.length c) rfl
      have e2 := p1.cell_ 2 (.slice B hs.length d) rfl
      have e3 := k1.cell_ 0 (.int .i64 k) rfl
      have e4 := s1.cell_ 0 (.int .i64 s) rfl
      have HP1 := Lib.hid p1
      have HK1 := Lib.hid k1
      have HS1 := Lib.hid s1
      clear hb c0 c1 c2 p1 k1 s1
      have q1 := HQ0.out.below HBr.out HQ0.out.lt
      have HQ1 := Lib.hid q1
      have d0 := q1.cell_ 0 (.int .i64 0) rfl
      have d1x := q1.cell_ 1 (.slice none 0 0) rfl
      have d2 := q1.cell_ 2 (.slice none 0 0) rfl
      have f0 := q1.frozen 0
      have f1 := q1.frozen 1
      have f2 := q1.frozen 2
      clear q1
      go_wp2
      have hq : Blk (((w1.setCell ⟨w.heap.size + 1 + 1 + 1, 0, none⟩ (.int .i64 0)).setCell ⟨w.heap.size + 1 + 1 + 1, 1, none⟩ (.slice none 0 0)).setCell ⟨w.heap.size + 1 + 1 + 1, 2, none⟩ (.slice none 0 0)) (w.heap.size + 1 + 1 + 1) 25 #[.int .i64 0, .slice none 0 0, .slice none 0 0] := ((HQ1.out.set_ 0 (.int .i64 0)).set_ 1 (.slice none 0 0)).set_ 2 (.slice none 0 0)
      rw [HE.out]
      exact bodyPost_ret (results_ct Tryd.results20 _ _ (w.heap.size + 1 + 1 + 1) 25 #[.int .i64 0, .slice none 0 0, .slice none 0 0] (0, 0) _ rfl hq Tryd.underlying25 rfl Tryd.sizeTree) rfl
        ⟨_, _, [], rfl, OwnP.nil _ _ _, OwnN.nil _ _ _ _, rfl, ((HBw.out.setCell (p := ⟨w.heap.size + 1 + 1 + 1, 0, none⟩) (by show w.heap.size ≤ w.heap.size + 1 + 1 + 1; omega) _).setCell (p := ⟨w.heap.size + 1 + 1 + 1, 1, none⟩) (by show w.heap.size ≤ w.heap.size + 1 + 1 + 1; omega) _).setCell (p := ⟨w.heap.size + 1 + 1 + 1, 2, none⟩) (by show w.heap.size ≤ w.heap.size + 1 + 1 + 1; omega) _⟩
    have g2 : decide ((ps.length : Int) ≤ k) = false := decide_eq_false y2
    by_cases y3 : s < 0
    · have g3 : decide (s < 0) = true := decide_eq_true y3
      clear y1 y2 y3
      have HE : Hid (fixT ⟨st, ps, hs.map Hd.nd⟩ k s = (PT.zero, 10)) := Lib.hid (by unfold fixT PT.right; rw [HRR.out, if_neg (by simp)]; dsimp only; unfold badS; rw [g1, g2, g3]; rfl)
      go_enter Tryd.func20, Tryd.ntmps20
      go_upto_region 1 with fail
      rw [← HW0.out]
      go_wp2_with (go_at_call 27; refine HR.out.mono ?_)
      rintro e w1 ⟨rfl, hb⟩
      have HBr := Lib.hid hb
      have HBw := Lib.hid (HB0.out.trans (hb.mono HB0.out.size))
      have p1 := HP0.out.below hb HP0.out.lt
      have k1 := HK0.out.below hb HK0.out.lt
      have s1 := HS0.out.below hb HS0.out.lt
      have e0 := p1.cell_ 0 (.int .i64 st) rfl
      have e1 := p1.cell_ 1 (.slice A ps.length c) rfl
      have e2 := p1.cell_ 2 (.slice B hs.length d) rfl
      have e3 := k1.cell_ 0 (.int .i64 k) rfl
      have e4 := s1.cell_ 0 (.int .i64 s) rfl
      have HP1 := Lib.hid p1
      have HK1 := Lib.hid k1
      have HS1 := Lib.hid s1
      clear hb c0 c1 c2 p1 k1 s1
      have q1 := HQ0.out.below HBr.out HQ0.out.lt
      have HQ1 := Lib.hid q1
      have d0 := q1.cell_ 0 (.int .i64 0) rfl
      have d1x := q1.cell_ 1 (.slice none 0 0) rfl
      have d2 := q1.cell_ 2 (.slice none 0 0) rfl
      have f0 := q1.frozen 0
      have f1 := q1.frozen 1
      have f2 := q1.frozen 2
      clear q1
      go_wp2
      have hq : Blk (((w1.setCell ⟨w.heap.size + 1 + 1 + 1, 0, none⟩ (.int .i64 0)).setCell ⟨w.heap.size + 1 + 1 + 1, 1, none⟩ (.slice none 0 0)).setCell ⟨w.heap.size + 1 + 1 + 1, 2, none⟩ (.slice none 0 0)) (w.heap.size + 1 + 1 + 1) 25 #[.int .i64 0, .slice none 0 0, .slice none 0 0] := ((HQ1.out.set_ 0 (.int .i64 0)).set_ 1 (.slice none 0 0)).set_ 2 (.slice none 0 0)
      rw [HE.out]
      exact bodyPost_ret (results_ct Tryd.results20 _ _ (w.heap.size + 1 + 1 + 1) 25 #[.int .i64 0, .slice none 0 0, .slice none 0 0] (0, 0) _ rfl hq Tryd.underlying25 rfl Tryd.sizeTree) rfl
        ⟨_, _, [], rfl, OwnP.nil _ _ _, OwnN.nil _ _ _ _, rfl, ((HBw.out.setCell (p := ⟨w.heap.size + 1 + 1 + 1, 0, none⟩) (by show w.heap.size ≤ w.heap.size + 1 + 1 + 1; omega) _).setCell (p := ⟨w.heap.size + 1 + 1 + 1, 1, none⟩) (by show w.heap.size ≤ w.heap.size + 1 + 1 + 1; omega) _).setCell (p := ⟨w.heap.size + 1 + 1 + 1, 2, none⟩) (by show w.heap.size ≤ w.heap.size + 1 + 1 + 1; omega) _⟩
    have g3 : decide (s < 0) = false := decide_eq_false y3
    by_cases y4 : st ≤ s
    · have g4 : decide (st ≤ s) = true := decide_eq_true y4
      clear y1 y2 y3 y4
      have HE : Hid (fixT ⟨st, ps, hs.map Hd.nd⟩ k s = (PT.zero, 10)) := Lib.hid (by unfold fixT PT.right; rw [HRR.out, if_neg (by simp)]; dsimp only; unfold badS; rw [g1, g2, g3, g4]; rfl)
      go_enter Tryd.func20, Tryd.ntmps20
      go_upto_region 1 with fail
      rw [← HW0.out]
      go_wp2_with (go_at_call 27; refine HR.out.mono ?_)
      rintro e w1 ⟨rfl, hb⟩
      have HBr := Lib.hid hb
      have HBw := Lib.hid (HB0.out.trans (hb.mono HB0.out.size))
      have p1 := HP0.out.below hb HP0.out.lt
      have k1 := HK0.out.below hb HK0.out.lt
      have s1 := HS0.out.below hb HS0.out.lt
      have e0 := p1.cell_ 0 (.int .i64 st) rfl
      have e1 := p1.cell_ 1 (.slice A ps.length c) rfl
      have e2 := p1.cell_ 2 (.slice B hs.length d) rfl
      have e3 := k1.cell_ 0 (.int .i64 k) rfl
      have e4 := s1.cell_ 0 (.int .i64 s) rfl
      have HP1 := Lib.hid p1
      have HK1 := Lib.hid k1
      have HS1 := Lib.hid s1
      clear hb c0 c1 c2 p1 k1 s1
      have q1 := HQ0.out.below HBr.out HQ0.out.lt
      have HQ1 := Lib.hid q1
      have d0 := q1.cell_ 0 (.int .i64 0) rfl
      have d1x := q1.cell_ 1 (.slice none 0 0) rfl
      have d2 := q1.cell_ 2 (.slice none 0 0) rfl
      have f0 := q1.frozen 0
      have f1 := q1.frozen 1
      have f2 := q1.frozen 2
      clear q1
      go_wp2
      have hq : Blk (((w1.setCell ⟨w.heap.size + 1 + 1 + 1, 0, none⟩ (.int .i64 0)).setCell ⟨w.heap.size + 1 + 1 + 1, 1, none⟩ (.slice none 0 0)).setCell ⟨w.heap.size + 1 + 1 + 1, 2, none⟩ (.slice none 0 0)) (w.heap.size + 1 + 1 + 1) 25 #[.int .i64 0, .slice none 0 0, .slice none 0 0] := ((HQ1.out.set_ 0 (.int .i64 0)).set_ 1 (.slice none 0 0)).set_ 2 (.slice none 0 0)
      rw [HE.out]
      exact bodyPost_ret (results_ct Tryd.results20 _ _ (w.heap.size + 1 + 1 + 1) 25 #[.int .i64 0, .slice none 0 0, .slice none 0 0] (0, 0) _ rfl hq Tryd.underlying25 rfl Tryd.sizeTree) rfl
        ⟨_, _, [], rfl, OwnP.nil _ _ _, OwnN.nil _ _ _ _, rfl, ((HBw.out.setCell (p := ⟨w.heap.size + 1 + 1 + 1, 0, none⟩) (by show w.heap.size ≤ w.heap.size + 1 + 1 + 1; omega) _).setCell (p := ⟨w.heap.size + 1 + 1 + 1, 1, none⟩) (by show w.heap.size ≤ w.heap.size + 1 + 1 + 1; omega) _).setCell (p := ⟨w.heap.size + 1 + 1 + 1, 2, none⟩) (by show w.heap.size ≤ w.heap.size + 1 + 1 + 1; omega) _⟩
    have g4 : decide (st ≤ s) = false := decide_eq_false y4
    have HE : Hid (fixT ⟨st, ps, hs.map Hd.nd⟩ k s = (⟨st, ps, redN (chF ps.length k.toNat s.toNat) (hs.map Hd.nd)⟩, 0)) := Lib.hid (by unfold fixT PT.right; rw [HRR.out, if_neg (by simp)]; dsimp only; unfold badS; rw [g1, g2, g3, g4]; rfl)
    have HKS := Lib.hid (show 0 ≤ k ∧ k < (ps.length : Int) ∧ 0 ≤ s ∧ s < st by omega)
    clear y1 y2 y3 y4
    go_enter Tryd.func20, Tryd.ntmps20
    go_upto_region 1 with fail
    rw [← HW0.out]
    go_wp2_with (go_at_call 27; refine HR.out.mono ?_)
    rintro e w1 ⟨rfl, hb⟩
    have HBr := Lib.hid hb
    have HBw := Lib.hid (HB0.out.trans (hb.mono HB0.out.size))
    have p1 := HP0.out.below hb HP0.out.lt
    have k1 := HK0.out.below hb HK0.out.lt
    have s1 := HS0.out.below hb HS0.out.lt
    have e0 := p1.cell_ 0 (.int .i64 st) rfl
    have e1 := p1.cell_ 1 (.slice A ps.length c) rfl
    have e2 := p1.cell_ 2 (.slice B hs.length d) rfl
    have e3 := k1.cell_ 0 (.int .i64 k) rfl
    have e4 := s1.cell_ 0 (.int .i64 s) rfl
    have HP1 := Lib.hid p1
    have HK1 := Lib.hid k1
    have HS1 := Lib.hid s1
    clear hb c0 c1 c2 p1 k1 s1
    have HQ1 := Lib.hid (HQ0.out.below HBr.out HQ0.out.lt)
    have HCALL : Hid (Calls Tryd.prog 33 #[.agg #[.int .i64 st, .slice A ps.length c, .slice B hs.length d], .func (.func 43) #[] #[.pointer (some ⟨w.heap.size, 0, none⟩), .pointer (some ⟨w.heap.size + 1, 0, none⟩), .pointer (some ⟨w.heap.size + 1 + 1, 0, none⟩)]] w1 (RetTree st ps (redN (chF ps.length k.toNat s.toNat) (hs.map Hd.nd)) w1)) := Lib.hid (by
      obtain ⟨a1, a2, a3, a4, a5, a6, a7, a8, a9⟩ := HRP.out
      rw [List.length_map] at a4 a5
      obtain ⟨h1, h2, h3, h4⟩ := HKS.out
      have hkk := HK1.out
      have hss := HS1.out
      rw [← toNat_cast h1] at hkk
      rw [← toNat_cast h3] at hss
      exact rebuilt_fix (chF ps.length k.toNat s.toNat) st A c ps B d hs w.heap.size (w.heap.size + 1) (w.heap.size + 1 + 1) w1 (HP.out.ext HBr.out) (HN.out.ext HBr.out) st.toNat (by omega) (by omega) a8 (fun i hi => by have := a9 i (by rw [List.length_map]; exact hi); omega) (chF_chg (by omega)) (by omega) (by omega) (by omega) ((HT.out.on (HBr.out.mono HB0.out.size)).up (Nat.le_trans HB0.out.size HBr.out.size))
        (fun W base g cx zs lv hbW hgW hzs hlow _ _ ho => clF_any w.heap.size (w.heap.size + 1) (w.heap.size + 1 + 1) st A ps.length c (.slice B hs.length d) k.toNat s.toNat w1 HP1.out hkk hss (by omega) (by omega) W hbW base g cx hgW zs lv (by omega) (by omega) ho))
    go_wp2_with (go_at_call 33; refine HCALL.out.mono ?_; intro e w2 hrt; obtain ⟨A2, c2, B2, d2, os, rfl, h1, h2, -, -, h3, h4⟩ := hrt.form; refine Hid.out ?_)
    refine Lib.hid ?_
    have q2 := HQ1.out.below h4 HQ1.out.lt
    have HQ2 := Lib.hid q2
    have d0 := q2.cell_ 0 (.int .i64 0) rfl
    have d1x := q2.cell_ 1 (.slice none 0 0) rfl
    have d2' := q2.cell_ 2 (.slice none 0 0) rfl
    have f0 := q2.frozen 0
    have f1 := q2.frozen 1
    have f2 := q2.frozen 2
    have HO1 := Lib.hid h1
    have HO2 := Lib.hid h2
    have HO3 := Lib.hid h3
    have HB2 := Lib.hid h4
    clear hrt h1 h2 h3 h4 q2 HCALL
    go_wp2
    have hq : Blk (((w2.setCell ⟨w.heap.size + 1 + 1 + 1, 0, none⟩ (.int .i64 st)).setCell ⟨w.heap.size + 1 + 1 + 1, 1, none⟩ (.slice A2 ps.length c2)).setCell ⟨w.heap.size + 1 + 1 + 1, 2, none⟩ (.slice B2 os.length d2)) (w.heap.size + 1 + 1 + 1) 25 #[.int .i64 st, .slice A2 ps.length c2, .slice B2 os.length d2] := ((HQ2.out.set_ 0 (.int .i64 st)).set_ 1 (.slice A2 ps.length c2)).set_ 2 (.slice B2 os.length d2)
    have hk : Kept (fun g => g = w.heap.size + 1 + 1 + 1) w2 (((w2.setCell ⟨w.heap.size + 1 + 1 + 1, 0, none⟩ (.int .i64 st)).setCell ⟨w.heap.size + 1 + 1 + 1, 1, none⟩ (.slice A2 ps.length c2)).setCell ⟨w.heap.size + 1 + 1 + 1, 2, none⟩ (.slice B2 os.length d2)) := (((Kept.refl (fun g => g = w.heap.size + 1 + 1 + 1) w2).setCell (p := ⟨w.heap.size + 1 + 1 + 1, 0, none⟩) (Or.inl rfl) _).setCell (p := ⟨w.heap.size + 1 + 1 + 1, 1, none⟩) (Or.inl rfl) _).setCell (p := ⟨w.heap.size + 1 + 1 + 1, 2, none⟩) (Or.inl rfl) _
    rw [HE.out]
    refine bodyPost_ret (results_ct Tryd.results20 _ _ (w.heap.size + 1 + 1 + 1) 25 #[.int .i64 st, .slice A2 ps.length c2, .slice B2 os.length d2] (0, 0) _ rfl hq Tryd.underlying25 rfl Tryd.sizeTree) rfl
      ⟨_, _, os, rfl, ?_, ?_, HO3.out, ?_⟩
    · exact hk.own (own_down HO1.out HBw.out.size) (fun g e e2 => by subst e2; exact own_blk_ne' HO1.out HQ2.out (by decide) e)
    · exact OwnN.kept ⟨own_down HO2.out.1 HBw.out.size, fun x hx => (HO2.out.2 x hx).down HBw.out.size⟩ hk (fun g e e2 => by subst e2; exact own_blk_ne' HO2.out.1 HQ2.out (by decide) e) (fun x hx g e e2 => by subst e2; exact own_blk_ne' (HO2.out.2 x hx) HQ2.out (by decide) e)
    · exact (HBw.out.trans (HB2.out.mono HBw.out.size)).trans (hk.to_below (by have := HBw.out.size; have := HB2.out.size; omega) (fun g hg e => by omega))
end Go.Proofs.YtojnnfihpiegoaaDoor
