/-
  cellularlaw09.few, generations.Plain, Next, and the reference's. No condition.
-/
import Derived.Test.YtaofninfjdepfaaDoorSame
namespace Go.Proofs.YtaofninfjdepfaaDoor
open Go.RowKit
set_option maxRecDepth 100000
set_option linter.unusedVariables false
set_option linter.unusedSimpArgs false

/-- a rule's box -/
structure Box (w : World) (g : Nat) (A : Option Addr) (a : Nat) (B : Option Addr) (b : Nat) (C : Option Addr) (c : Nat) (t : TotL) : Prop where
  blk : Blk w g 26 #[.slice A t.hood.length a, .int .i64 t.states, .slice B t.birth.length b, .slice C t.survive.length c]
  tot : TotR w A B C t
section
variable {w w' : World} {g : Nat} {A B C : Option Addr} {a b c : Nat} {t : TotL}
theorem below_new (w : World) (o : Obj) : Below w.heap.size w (w.alloc o) := (Below.refl _ w).alloc (Nat.le_refl _) o
theorem Box.ext (h : Box w g A a B b C c t) (hb : Below w.heap.size w w') : Box w' g A a B b C c t := ⟨h.blk.below hb h.blk.lt, h.tot.ext hb⟩
theorem Box.new (h : TotR w A B C t) (a b c : Nat) : Box (w.alloc (.cells #[.slice A t.hood.length a, .int .i64 t.states, .slice B t.birth.length b, .slice C t.survive.length c] 26)) w.heap.size A a B b C c t :=
  ⟨Blk.new _ _ _, h.ext (below_new _ _)⟩
theorem Box.alloc (h : Box w g A a B b C c t) (o : Obj) : Box (w.alloc o) g A a B b C c t := h.ext (below_new _ _)
theorem Box.c0 (h : Box w g A a B b C c t) : w.cell? ⟨g, 0, none⟩ = some (.slice A t.hood.length a) := h.blk.cell_ 0 _ rfl
theorem Box.c1 (h : Box w g A a B b C c t) : w.cell? ⟨g, 1, none⟩ = some (.int .i64 t.states) := h.blk.cell_ 1 _ rfl
theorem Box.c2 (h : Box w g A a B b C c t) : w.cell? ⟨g, 2, none⟩ = some (.slice B t.birth.length b) := h.blk.cell_ 2 _ rfl
theorem Box.c3 (h : Box w g A a B b C c t) : w.cell? ⟨g, 3, none⟩ = some (.slice C t.survive.length c) := h.blk.cell_ 3 _ rfl
end
def fewT (t : TotL) : Bool := decide (t.hood.length ≤ 40) && decide (t.birth.length ≤ 40) && decide (t.survive.length ≤ 40)
def nextT (t : TotL) (s n : Int) : Int :=
  if rightT t = true ∧ 0 ≤ s ∧ s < t.states ∧ 0 ≤ n ∧ n < t.hood.length then
    if (s = 0 ∧ n ∈ t.birth) ∨ (s = 1 ∧ n ∈ t.survive) then 1 else if s = 0 ∨ s = t.states - 1 then 0 else s + 1
  else 0
theorem tmod_step {s m : Int} (h0 : 0 ≤ s) (h1 : s < m) : (s + 1) % m = if s = m - 1 then 0 else s + 1 := by
  by_cases h : s = m - 1
  · rw [if_pos h, h]; simp
  · rw [if_neg h, Int.emod_eq_of_lt (by omega) (by omega)]
theorem right_states {t : TotL} (h : rightT t = true) : 2 ≤ t.states ∧ t.states ≤ 8 := by
  unfold rightT at h
  simp only [Bool.and_eq_true, decide_eq_true_eq] at h
  exact ⟨h.1.1.1.2, h.1.1.2⟩
set_option maxHeartbeats 800000 in
theorem few_any (A B C : Option Addr) (a b c : Nat) (t : TotL) (w : World) (ht : TotR w A B C t) (f : Bool) (hf : fewT t = f) :
    Calls Tryd.prog 13 #[totV A a B b C c t] w fun e w' => e = .returned (.bool f) ∧ Below w.heap.size w w' := by
  subst hf
  unfold fewT totV
  have hb0 := below_new w (.cells #[.slice A t.hood.length a, .int .i64 t.states, .slice B t.birth.length b, .slice C t.survive.length c] 26)
  have HB := Lib.hid hb0
  clear hb0
  by_cases k1 : t.hood.length ≤ 40
  · have d1 : decide (t.hood.length ≤ 40) = true := decide_eq_true k1
    have d1' : decide ((t.hood.length : Int) ≤ 40) = true := decide_eq_true (by omega)
    by_cases k2 : t.birth.length ≤ 40
    · have d2 : decide (t.birth.length ≤ 40) = true := decide_eq_true k2
      have d2' : decide ((t.birth.length : Int) ≤ 40) = true := decide_eq_true (by omega)
      by_cases k3 : t.survive.length ≤ 40
      · have d3 : decide (t.survive.length ≤ 40) = true := decide_eq_true k3
        have d3' : decide ((t.survive.length : Int) ≤ 40) = true := decide_eq_true (by omega)
        go_enter Tryd.func13, Tryd.ntmps13
        go_wp2
        go_ret
        exact ⟨ret_bool (by rw [d1, d2, d3]; rfl), HB.out⟩
      · have d3 : decide (t.survive.length ≤ 40) = false := decide_eq_false k3
        have d3' : decide ((t.survive.length : Int) ≤ 40) = false := decide_eq_false (by omega)
        go_enter Tryd.func13, Tryd.ntmps13
        go_wp2
        go_ret
        exact ⟨ret_bool (by rw [d1, d2, d3]; rfl), HB.out⟩
    · have d2 : decide (t.birth.length ≤ 40) = false := decide_eq_false k2
      have d2' : decide ((t.birth.length : Int) ≤ 40) = false := decide_eq_false (by omega)
      go_enter Tryd.func13, Tryd.ntmps13
      go_wp2
      go_ret
      exact ⟨ret_bool (by rw [d1, d2]; rfl), HB.out⟩
  · have d1 : decide (t.hood.length ≤ 40) = false := decide_eq_false k1
    have d1' : decide ((t.hood.length : Int) ≤ 40) = false := decide_eq_false (by omega)
    go_enter Tryd.func13, Tryd.ntmps13
    go_wp2
    go_ret
    exact ⟨ret_bool (by rw [d1]; rfl), HB.out⟩
set_option maxHeartbeats 800000 in
theorem index_any (A : Option Addr) (xs : List Int) (c : Nat) (n : Int) (w : World) (ha : Ints w A xs) :
    Calls Tryd.prog 65 #[.slice A xs.length c, .int .i64 n] w fun e w' => (∃ k : Int, e = .returned (.int .i64 k) ∧ (0 ≤ k ↔ n ∈ xs)) ∧ w' = w := by
  have hn := ha.le
  go_enter Tryd.func65, Tryd.ntmps65
  go_wp2
  go_loopw [8] (fun i wr => ∃ k : Nat, k ≤ xs.length ∧ i = .int .i64 k ∧ wr = w ∧ Hid (n ∉ xs.take k)) (fun i _ => xs.length - (intOf i).toNat)
  case atStart => exact ⟨0, Nat.zero_le _, rfl, rfl, Lib.hid (by simp)⟩
  case round =>
    obtain ⟨k, hk, rfl, rfl, HT⟩ := hrel
    by_cases hlt : k < xs.length
    · obtain ⟨b1, o1, rfl, -, hc⟩ := ha.at_ hlt
      by_cases he : n = xs[k]
      · have hd : (n == xs[k]) = true := by simp [he]
        have HE := Lib.hid he
        clear he
        go_wp2
        go_ret
        refine ⟨⟨k, rfl, ?_⟩, rfl⟩
        exact ⟨fun _ => by rw [HE.out]; exact List.getElem_mem hlt, fun _ => by omega⟩
      · have hd : (n == xs[k]) = false := by simp [he]
        have HE := Lib.hid he
        clear he
        go_wp2
        go_roundw
        case rel =>
          refine ⟨k + 1, by omega, by go_num, (by first | rfl | trivial), Lib.hid ?_⟩
          rw [List.take_succ_eq_append_getElem hlt, List.mem_append]
          rintro (h | h)
          · exact HT.out h
          · exact HE.out (by simpa using h)
        case measure => simp [intOf]; omega
    · have hk' : k = xs.length := by omega
      have hfin : n ∉ xs := by
        have := HT.out
        rwa [hk', List.take_of_length_le (Nat.le_refl _)] at this
      have HF := Lib.hid hfin
      clear hk' hfin
      go_wp2
      go_ret
      exact ⟨⟨-1, rfl, ⟨fun h => by omega, fun h => absurd h HF.out⟩⟩, rfl⟩
set_option maxHeartbeats 400000 in
theorem contains_any (A : Option Addr) (xs : List Int) (c : Nat) (n : Int) (w : World) (ha : Ints w A xs) (f : Bool) (hf : decide (n ∈ xs) = f) :
    Calls Tryd.prog 42 #[.slice A xs.length c, .int .i64 n] w fun e w' => e = .returned (.bool f) ∧ w' = w := by
  subst hf
  have HI := Lib.hid (index_any A xs c n w ha)
  go_enter Tryd.func42, Tryd.ntmps42
  go_wp2_with fail
  refine HI.out.mono ?_
  rintro e w1 ⟨⟨k, rfl, hk⟩, rfl⟩
  have hd : decide (0 ≤ k) = decide (n ∈ xs) := decide_eq_decide.2 hk
  have HD := Lib.hid hd
  clear hk hd
  go_wp2
  go_ret
  exact ⟨ret_bool HD.out, rfl⟩
def zeroT : TotL := ⟨[], 0, [], []⟩
theorem TotR.zero (w : World) : TotR w none none none zeroT := ⟨Pts.nil, Ints.nil, Ints.nil⟩
def plainT (t : TotL) : TotL := if rightT t then ⟨t.hood, 2, t.birth, t.survive⟩ else zeroT
set_option maxHeartbeats 1000000 in
theorem plain_any (A B C : Option Addr) (a b c : Nat) (t : TotL) (w : World) (ht : TotR w A B C t) :
    Calls Tryd.prog 16 #[totV A a B b C c t] w fun e w' => (∃ A' a' B' b' C' c', e = .returned (totV A' a' B' b' C' c' (plainT t)) ∧ TotR w' A' B' C' (plainT t)) ∧ Below w.heap.size w w' := by
  have hb0 := below_new w (.cells #[.slice A t.hood.length a, .int .i64 t.states, .slice B t.birth.length b, .slice C t.survive.length c] 26)
  have hb1 := hb0.alloc hb0.size (.cells #[.slice none 0 0, .int .i64 0, .slice none 0 0, .slice none 0 0] 26)
  have HR := Lib.hid (right_any A B C a b c t _ (ht.ext hb1))
  have X := Lib.hid ((Box.new ht a b c).alloc (.cells #[.slice none 0 0, .int .i64 0, .slice none 0 0, .slice none 0 0] 26))
  have br0 : Blk ((w.alloc (.cells #[.slice A t.hood.length a, .int .i64 t.states, .slice B t.birth.length b, .slice C t.survive.length c] 26)).alloc (.cells #[.slice none 0 0, .int .i64 0, .slice none 0 0, .slice none 0 0] 26)) (w.heap.size + 1) 26 #[.slice none 0 0, .int .i64 0, .slice none 0 0, .slice none 0 0] := by
    have := Blk.new (w.alloc (.cells #[.slice A t.hood.length a, .int .i64 t.states, .slice B t.birth.length b, .slice C t.survive.length c] 26)) 26 #[.slice none 0 0, .int .i64 0, .slice none 0 0, .slice none 0 0]
    simpa using this
  have HB := Lib.hid (And.intro hb1 br0)
  have HT := Lib.hid ht
  clear hb0 hb1 br0 ht
  unfold totV at *
  have x0 := X.out.c0
  have x1 := X.out.c1
  have x2 := X.out.c2
  have x3 := X.out.c3
  cases k1 : rightT t
  · rw [k1] at HR
    have E : Hid (plainT t = zeroT) := Lib.hid (by unfold plainT; rw [k1]; rfl)
    clear k1
    go_enter Tryd.func16, Tryd.ntmps16
    go_wp2_with fail
    refine HR.out.mono ?_
    rintro e w1 ⟨rfl, hb⟩
    have br := HB.out.2.below hb HB.out.2.lt
    have HB2 := Lib.hid (HB.out.1.trans (hb.mono HB.out.1.size))
    have r0 := br.cell_ 0 _ rfl
    have r1 := br.cell_ 1 _ rfl
    have r2 := br.cell_ 2 _ rfl
    have r3 := br.cell_ 3 _ rfl
    have g0 := br.frozen 0
    have g1 := br.frozen 1
    have g2 := br.frozen 2
    have g3 := br.frozen 3
    clear br hb x0 x1 x2 x3
    go_wp2
    refine bodyPost_ret (v := .agg #[.slice none 0 0, .int .i64 0, .slice none 0 0, .slice none 0 0]) (by simp [results, Tryd.results16, go_sem, r0, r1, r2, r3]) rfl ?_
    rw [E.out]
    exact ⟨⟨none, 0, none, 0, none, 0, rfl, TotR.zero _⟩, below_set4 HB2.out (by simp) _ _ _ _⟩
  · rw [k1] at HR
    have E : Hid (plainT t = ⟨t.hood, 2, t.birth, t.survive⟩) := Lib.hid (by unfold plainT; rw [k1]; rfl)
    clear k1
    go_enter Tryd.func16, Tryd.ntmps16
    go_wp2_with fail
    refine HR.out.mono ?_
    rintro e w1 ⟨rfl, hb⟩
    have br := HB.out.2.below hb HB.out.2.lt
    have X2 := X.out.ext hb
    have HB2 := Lib.hid (HB.out.1.trans (hb.mono HB.out.1.size))
    have y1 := X2.c1
    have f1 := X2.blk.frozen 1
    have hne : w.heap.size + 1 ≠ w.heap.size := by omega
    have bt := X2.blk.set_ 1 (.int .i64 2)
    have br := br.far (p := ⟨w.heap.size, 1, none⟩) hne (.int .i64 2)
    have y0 := bt.cell_ 0 _ rfl
    have z1 := bt.cell_ 1 _ rfl
    have y2 := bt.cell_ 2 _ rfl
    have y3 := bt.cell_ 3 _ rfl
    have HBF := Lib.hid (HB2.out.setCell (p := ⟨w.heap.size, 1, none⟩) (Nat.le_refl _) (.int .i64 2))
    clear bt
    have r0 := br.cell_ 0 _ rfl
    have r1 := br.cell_ 1 _ rfl
    have r2 := br.cell_ 2 _ rfl
    have r3 := br.cell_ 3 _ rfl
    have g0 := br.frozen 0
    have g1 := br.frozen 1
    have g2 := br.frozen 2
    have g3 := br.frozen 3
    clear br hb x0 x1 x2 x3 X2
    go_wp2
    refine bodyPost_ret (v := .agg #[.slice A t.hood.length a, .int .i64 2, .slice B t.birth.length b, .slice C t.survive.length c]) (by simp [results, Tryd.results16, go_sem, r0, r1, r2, r3]) rfl ?_
    rw [E.out]
    have hbF := below_set4 HBF.out (b := w.heap.size + 1) (by simp) (.slice A t.hood.length a) (.int .i64 2) (.slice B t.birth.length b) (.slice C t.survive.length c)
    exact ⟨⟨A, a, B, b, C, c, rfl, (HT.out.ext hbF).hood, (HT.out.ext hbF).birth, (HT.out.ext hbF).survive⟩, hbF⟩
set_option maxHeartbeats 1000000 in
theorem rplain_any (A B C : Option Addr) (a b c : Nat) (t : TotL) (w : World) (ht : TotR w A B C t) :
    Calls Tryd.prog 17 #[totV A a B b C c t] w fun e w' => (∃ A' a' B' b' C' c', e = .returned (totV A' a' B' b' C' c' (plainT t)) ∧ TotR w' A' B' C' (plainT t)) ∧ Below w.heap.size w w' := by
  have hb0 := below_new w (.cells #[.slice A t.hood.length a, .int .i64 t.states, .slice B t.birth.length b, .slice C t.survive.length c] 26)
  have hb1 := hb0.alloc hb0.size (.cells #[.slice none 0 0, .int .i64 0, .slice none 0 0, .slice none 0 0] 26)
  have HR := Lib.hid (rright_any A B C a b c t _ (ht.ext hb1))
  have X := Lib.hid ((Box.new ht a b c).alloc (.cells #[.slice none 0 0, .int .i64 0, .slice none 0 0, .slice none 0 0] 26))
  have br0 : Blk ((w.alloc (.cells #[.slice A t.hood.length a, .int .i64 t.states, .slice B t.birth.length b, .slice C t.survive.length c] 26)).alloc (.cells #[.slice none 0 0, .int .i64 0, .slice none 0 0, .slice none 0 0] 26)) (w.heap.size + 1) 26 #[.slice none 0 0, .int .i64 0, .slice none 0 0, .slice none 0 0] := by
    have := Blk.new (w.alloc (.cells #[.slice A t.hood.length a, .int .i64 t.states, .slice B t.birth.length b, .slice C t.survive.length c] 26)) 26 #[.slice none 0 0, .int .i64 0, .slice none 0 0, .slice none 0 0]
    simpa using this
  have HB := Lib.hid (And.intro hb1 br0)
  have HT := Lib.hid ht
  clear hb0 hb1 br0 ht
  unfold totV at *
  have x0 := X.out.c0
  have x1 := X.out.c1
  have x2 := X.out.c2
  have x3 := X.out.c3
  cases k1 : rightT t
  · rw [k1] at HR
    have E : Hid (plainT t = zeroT) := Lib.hid (by unfold plainT; rw [k1]; rfl)
    clear k1
    go_enter Tryd.func17, Tryd.ntmps17
    go_wp2_with fail
    refine HR.out.mono ?_
    rintro e w1 ⟨rfl, hb⟩
    have br := HB.out.2.below hb HB.out.2.lt
    have HB2 := Lib.hid (HB.out.1.trans (hb.mono HB.out.1.size))
    have r0 := br.cell_ 0 _ rfl
    have r1 := br.cell_ 1 _ rfl
    have r2 := br.cell_ 2 _ rfl
    have r3 := br.cell_ 3 _ rfl
    have g0 := br.frozen 0
    have g1 := br.frozen 1
    have g2 := br.frozen 2
    have g3 := br.frozen 3
    clear br hb x0 x1 x2 x3
    go_wp2
    refine bodyPost_ret (v := .agg #[.slice none 0 0, .int .i64 0, .slice none 0 0, .slice none 0 0]) (by simp [results, Tryd.results17, go_sem, r0, r1, r2, r3]) rfl ?_
    rw [E.out]
    exact ⟨⟨none, 0, none, 0, none, 0, rfl, TotR.zero _⟩, below_set4 HB2.out (by simp) _ _ _ _⟩
  · rw [k1] at HR
    have E : Hid (plainT t = ⟨t.hood, 2, t.birth, t.survive⟩) := Lib.hid (by unfold plainT; rw [k1]; rfl)
    clear k1
    go_enter Tryd.func17, Tryd.ntmps17
    go_wp2_with fail
    refine HR.out.mono ?_
    rintro e w1 ⟨rfl, hb⟩
    have br := HB.out.2.below hb HB.out.2.lt
    have X2 := X.out.ext hb
    have HB2 := Lib.hid (HB.out.1.trans (hb.mono HB.out.1.size))
    have y0 := X2.c0
    have y2 := X2.c2
    have y3 := X2.c3
    have HBF := HB2
    have r0 := br.cell_ 0 _ rfl
    have r1 := br.cell_ 1 _ rfl
    have r2 := br.cell_ 2 _ rfl
    have r3 := br.cell_ 3 _ rfl
    have g0 := br.frozen 0
    have g1 := br.frozen 1
    have g2 := br.frozen 2
    have g3 := br.frozen 3
    clear br hb x0 x1 x2 x3 X2
    go_wp2
    refine bodyPost_ret (v := .agg #[.slice A t.hood.length a, .int .i64 2, .slice B t.birth.length b, .slice C t.survive.length c]) (by simp [results, Tryd.results17, go_sem, r0, r1, r2, r3]) rfl ?_
    rw [E.out]
    have hbF := below_set4 HBF.out (b := w.heap.size + 1) (by simp) (.slice A t.hood.length a) (.int .i64 2) (.slice B t.birth.length b) (.slice C t.survive.length c)
    exact ⟨⟨A, a, B, b, C, c, rfl, (HT.out.ext hbF).hood, (HT.out.ext hbF).birth, (HT.out.ext hbF).survive⟩, hbF⟩
set_option maxHeartbeats 4000000 in
theorem next_any (A B C : Option Addr) (a b c : Nat) (t : TotL) (s n : Int) (w : World) (ht : TotR w A B C t) :
    Calls Tryd.prog 18 #[totV A a B b C c t, .int .i64 s, .int .i64 n] w fun e w' => e = .returned (.int .i64 (nextT t s n)) ∧ Below w.heap.size w w' := by
  have hb0 := below_new w (.cells #[.slice A t.hood.length a, .int .i64 t.states, .slice B t.birth.length b, .slice C t.survive.length c] 26)
  have X := Lib.hid (Box.new ht a b c)
  have HR := Lib.hid (right_any A B C a b c t _ X.out.tot)
  have HB := Lib.hid hb0
  clear hb0 ht
  unfold totV at *
  have x0 := X.out.c0
  have x1 := X.out.c1
  have x2 := X.out.c2
  have x3 := X.out.c3
  cases k1 : rightT t
  · rw [k1] at HR
    have E : Hid (nextT t s n = 0) := Lib.hid (by unfold nextT; rw [if_neg (by rw [k1]; simp)])
    clear k1
    go_enter Tryd.func18, Tryd.ntmps18
    go_wp2_with fail
    refine HR.out.mono ?_
    rintro e w1 ⟨rfl, hb⟩
    have X2 := Lib.hid (X.out.ext hb)
    have HB2 := Lib.hid (HB.out.trans (hb.mono HB.out.size))
    have y0 := X2.out.c0
    have y1 := X2.out.c1
    have y2 := X2.out.c2
    have y3 := X2.out.c3
    clear hb x0 x1 x2 x3 X HB
    go_wp2
    go_ret
    exact ⟨ret_int E.out.symm, HB2.out⟩
  have RS := right_states k1
  have K1 := Lib.hid k1
  rw [k1] at HR
  clear k1
  by_cases k2 : s < 0
  · have d2 : decide (s < 0) = true := decide_eq_true k2
    have E : Hid (nextT t s n = 0) := Lib.hid (by unfold nextT; rw [if_neg (by omega)])
    go_enter Tryd.func18, Tryd.ntmps18
    go_wp2_with fail
    refine HR.out.mono ?_
    rintro e w1 ⟨rfl, hb⟩
    have X2 := Lib.hid (X.out.ext hb)
    have HB2 := Lib.hid (HB.out.trans (hb.mono HB.out.size))
    have y0 := X2.out.c0
    have y1 := X2.out.c1
    have y2 := X2.out.c2
    have y3 := X2.out.c3
    clear hb x0 x1 x2 x3 X HB
    go_wp2
    go_ret
    exact ⟨ret_int E.out.symm, HB2.out⟩
  have d2 : decide (s < 0) = false := decide_eq_false k2
  by_cases k3 : t.states ≤ s
  · have d3 : decide (t.states ≤ s) = true := decide_eq_true k3
    have E : Hid (nextT t s n = 0) := Lib.hid (by unfold nextT; rw [if_neg (by omega)])
    go_enter Tryd.func18, Tryd.ntmps18
    go_wp2_with fail
    refine HR.out.mono ?_
    rintro e w1 ⟨rfl, hb⟩
    have X2 := Lib.hid (X.out.ext hb)
    have HB2 := Lib.hid (HB.out.trans (hb.mono HB.out.size))
    have y0 := X2.out.c0
    have y1 := X2.out.c1
    have y2 := X2.out.c2
    have y3 := X2.out.c3
    clear hb x0 x1 x2 x3 X HB
    go_wp2
    go_ret
    exact ⟨ret_int E.out.symm, HB2.out⟩
  have d3 : decide (t.states ≤ s) = false := decide_eq_false k3
  by_cases k4 : n < 0
  · have d4 : decide (n < 0) = true := decide_eq_true k4
    have E : Hid (nextT t s n = 0) := Lib.hid (by unfold nextT; rw [if_neg (by omega)])
    go_enter Tryd.func18, Tryd.ntmps18
    go_wp2_with fail
    refine HR.out.mono ?_
    rintro e w1 ⟨rfl, hb⟩
    have X2 := Lib.hid (X.out.ext hb)
    have HB2 := Lib.hid (HB.out.trans (hb.mono HB.out.size))
    have y0 := X2.out.c0
    have y1 := X2.out.c1
    have y2 := X2.out.c2
    have y3 := X2.out.c3
    clear hb x0 x1 x2 x3 X HB
    go_wp2
    go_ret
    exact ⟨ret_int E.out.symm, HB2.out⟩
  have d4 : decide (n < 0) = false := decide_eq_false k4
  by_cases k5 : (t.hood.length : Int) ≤ n
  · have d5 : decide ((t.hood.length : Int) ≤ n) = true := decide_eq_true k5
    have E : Hid (nextT t s n = 0) := Lib.hid (by unfold nextT; rw [if_neg (by omega)])
    go_enter Tryd.func18, Tryd.ntmps18
    go_wp2_with fail
    refine HR.out.mono ?_
    rintro e w1 ⟨rfl, hb⟩
    have X2 := Lib.hid (X.out.ext hb)
    have HB2 := Lib.hid (HB.out.trans (hb.mono HB.out.size))
    have y0 := X2.out.c0
    have y1 := X2.out.c1
    have y2 := X2.out.c2
    have y3 := X2.out.c3
    clear hb x0 x1 x2 x3 X HB
    go_wp2
    go_ret
    exact ⟨ret_int E.out.symm, HB2.out⟩
  have d5 : decide ((t.hood.length : Int) ≤ n) = false := decide_eq_false k5
  have E0 : Hid (nextT t s n = if (s = 0 ∧ n ∈ t.birth) ∨ (s = 1 ∧ n ∈ t.survive) then 1 else if s = 0 ∨ s = t.states - 1 then 0 else s + 1) := Lib.hid (by unfold nextT; rw [if_pos ⟨K1.out, by omega, by omega, by omega, by omega⟩])
  by_cases k6 : s = 0
  · subst k6
    have e0 : ((0 : Int) == 0) = true := rfl
    cases k7 : decide (n ∈ t.birth)
    · have E : Hid (nextT t 0 n = 0) := Lib.hid (by rw [E0.out, if_neg (by have := of_decide_eq_false k7; simp [this]), if_pos (Or.inl rfl)])
      go_enter Tryd.func18, Tryd.ntmps18
      go_wp2_with fail
      refine HR.out.mono ?_
      rintro e w1 ⟨rfl, hb⟩
      have X2 := Lib.hid (X.out.ext hb)
      have HB2 := Lib.hid (HB.out.trans (hb.mono HB.out.size))
      have y0 := X2.out.c0
      have y1 := X2.out.c1
      have y2 := X2.out.c2
      have y3 := X2.out.c3
      clear hb x0 x1 x2 x3 X HB
      have HC := Lib.hid (contains_any B t.birth b n _ X2.out.tot.birth _ k7)
      have K7 := Lib.hid k7
      clear k7
      go_wp2_with fail
      refine HC.out.mono ?_
      rintro e w2 ⟨rfl, hw⟩
      have hw2 := hw.symm
      clear hw
      subst hw2
      clear HC
      go_wp2
      go_ret
      exact ⟨ret_int E.out.symm, HB2.out⟩
    · have E : Hid (nextT t 0 n = 1) := Lib.hid (by rw [E0.out, if_pos (Or.inl ⟨rfl, of_decide_eq_true k7⟩)])
      go_enter Tryd.func18, Tryd.ntmps18
      go_wp2_with fail
      refine HR.out.mono ?_
      rintro e w1 ⟨rfl, hb⟩
      have X2 := Lib.hid (X.out.ext hb)
      have HB2 := Lib.hid (HB.out.trans (hb.mono HB.out.size))
      have y0 := X2.out.c0
      have y1 := X2.out.c1
      have y2 := X2.out.c2
      have y3 := X2.out.c3
      clear hb x0 x1 x2 x3 X HB
      have HC := Lib.hid (contains_any B t.birth b n _ X2.out.tot.birth _ k7)
      have K7 := Lib.hid k7
      clear k7
      go_wp2_with fail
      refine HC.out.mono ?_
      rintro e w2 ⟨rfl, hw⟩
      have hw2 := hw.symm
      clear hw
      subst hw2
      clear HC
      go_wp2
      go_ret
      exact ⟨ret_int E.out.symm, HB2.out⟩
  have e0 : (s == 0) = false := by simp [k6]
  by_cases k8 : s = 1
  · subst k8
    have e1 : ((1 : Int) == 1) = true := rfl
    cases k7 : decide (n ∈ t.survive)
    · have E : Hid (nextT t 1 n = if (1 : Int) = t.states - 1 then 0 else (1 : Int) + 1) := Lib.hid (by
        rw [E0.out, if_neg (by have := of_decide_eq_false k7; simp [this])]
        by_cases h : (1 : Int) = t.states - 1
        · rw [if_pos (Or.inr h), if_pos h]
        · rw [if_neg (by omega), if_neg h])
      have ER : Hid (((1 : Int) + 1) % t.states = if (1 : Int) = t.states - 1 then 0 else (1 : Int) + 1) := Lib.hid (tmod_step (by omega) (by omega))
      go_enter Tryd.func18, Tryd.ntmps18
      go_wp2_with fail
      refine HR.out.mono ?_
      rintro e w1 ⟨rfl, hb⟩
      have X2 := Lib.hid (X.out.ext hb)
      have HB2 := Lib.hid (HB.out.trans (hb.mono HB.out.size))
      have y0 := X2.out.c0
      have y1 := X2.out.c1
      have y2 := X2.out.c2
      have y3 := X2.out.c3
      clear hb x0 x1 x2 x3 X HB
      have HC := Lib.hid (contains_any C t.survive c n _ X2.out.tot.survive _ k7)
      have K7 := Lib.hid k7
      clear k7
      go_wp2_with fail
      refine HC.out.mono ?_
      rintro e w2 ⟨rfl, hw⟩
      have hw2 := hw.symm
      clear hw
      subst hw2
      clear HC
      go_wp2
      go_ret
      exact ⟨ret_int (by rw [E.out, ← ER.out] <;> rfl), HB2.out⟩
    · have E : Hid (nextT t 1 n = 1) := Lib.hid (by rw [E0.out, if_pos (Or.inr ⟨rfl, of_decide_eq_true k7⟩)])
      go_enter Tryd.func18, Tryd.ntmps18
      go_wp2_with fail
      refine HR.out.mono ?_
      rintro e w1 ⟨rfl, hb⟩
      have X2 := Lib.hid (X.out.ext hb)
      have HB2 := Lib.hid (HB.out.trans (hb.mono HB.out.size))
      have y0 := X2.out.c0
      have y1 := X2.out.c1
      have y2 := X2.out.c2
      have y3 := X2.out.c3
      clear hb x0 x1 x2 x3 X HB
      have HC := Lib.hid (contains_any C t.survive c n _ X2.out.tot.survive _ k7)
      have K7 := Lib.hid k7
      clear k7
      go_wp2_with fail
      refine HC.out.mono ?_
      rintro e w2 ⟨rfl, hw⟩
      have hw2 := hw.symm
      clear hw
      subst hw2
      clear HC
      go_wp2
      go_ret
      exact ⟨ret_int E.out.symm, HB2.out⟩
  have e1 : (s == 1) = false := by simp [k8]
  have E : Hid (nextT t s n = if s = t.states - 1 then 0 else s + 1) := Lib.hid (by
    rw [E0.out, if_neg (by omega)]
    by_cases h : s = t.states - 1
    · rw [if_pos (Or.inr h), if_pos h]
    · rw [if_neg (by omega), if_neg h])
  have ER : Hid ((s + 1) % t.states = if s = t.states - 1 then 0 else s + 1) := Lib.hid (tmod_step (by omega) (by omega))
  have K6 := Lib.hid (And.intro k6 k8)
  clear k6 k8
  go_enter Tryd.func18, Tryd.ntmps18
  go_wp2_with fail
  refine HR.out.mono ?_
  rintro e w1 ⟨rfl, hb⟩
  have X2 := Lib.hid (X.out.ext hb)
  have HB2 := Lib.hid (HB.out.trans (hb.mono HB.out.size))
  have y0 := X2.out.c0
  have y1 := X2.out.c1
  have y2 := X2.out.c2
  have y3 := X2.out.c3
  clear hb x0 x1 x2 x3 X HB
  go_wp2
  go_ret
  exact ⟨ret_int (by rw [E.out, ← ER.out] <;> rfl), HB2.out⟩
set_option maxHeartbeats 4000000 in
theorem rnext_any (A B C : Option Addr) (a b c : Nat) (t : TotL) (s n : Int) (w : World) (ht : TotR w A B C t) :
    Calls Tryd.prog 19 #[totV A a B b C c t, .int .i64 s, .int .i64 n] w fun e w' => e = .returned (.int .i64 (nextT t s n)) ∧ Below w.heap.size w w' := by
  have hb0 := below_new w (.cells #[.slice A t.hood.length a, .int .i64 t.states, .slice B t.birth.length b, .slice C t.survive.length c] 26)
  have X := Lib.hid (Box.new ht a b c)
  have HR := Lib.hid (rright_any A B C a b c t _ X.out.tot)
  have HB := Lib.hid hb0
  clear hb0 ht
  unfold totV at *
  have x0 := X.out.c0
  have x1 := X.out.c1
  have x2 := X.out.c2
  have x3 := X.out.c3
  cases k1 : rightT t
  · rw [k1] at HR
    have E : Hid (nextT t s n = 0) := Lib.hid (by unfold nextT; rw [if_neg (by rw [k1]; simp)])
    clear k1
    go_enter Tryd.func19, Tryd.ntmps19
    go_wp2_with fail
    refine HR.out.mono ?_
    rintro e w1 ⟨rfl, hb⟩
    have X2 := Lib.hid (X.out.ext hb)
    have HB2 := Lib.hid (HB.out.trans (hb.mono HB.out.size))
    have y0 := X2.out.c0
    have y1 := X2.out.c1
    have y2 := X2.out.c2
    have y3 := X2.out.c3
    clear hb x0 x1 x2 x3 X HB
    go_wp2
    go_ret
    exact ⟨ret_int E.out.symm, HB2.out⟩
  have RS := right_states k1
  have K1 := Lib.hid k1
  rw [k1] at HR
  clear k1
  by_cases k2 : s < 0
  · have d2 : decide (s < 0) = true := decide_eq_true k2
    have E : Hid (nextT t s n = 0) := Lib.hid (by unfold nextT; rw [if_neg (by omega)])
    go_enter Tryd.func19, Tryd.ntmps19
    go_wp2_with fail
    refine HR.out.mono ?_
    rintro e w1 ⟨rfl, hb⟩
    have X2 := Lib.hid (X.out.ext hb)
    have HB2 := Lib.hid (HB.out.trans (hb.mono HB.out.size))
    have y0 := X2.out.c0
    have y1 := X2.out.c1
    have y2 := X2.out.c2
    have y3 := X2.out.c3
    clear hb x0 x1 x2 x3 X HB
    go_wp2
    go_ret
    exact ⟨ret_int E.out.symm, HB2.out⟩
  have d2 : decide (s < 0) = false := decide_eq_false k2
  by_cases k3 : t.states ≤ s
  · have d3 : decide (t.states ≤ s) = true := decide_eq_true k3
    have E : Hid (nextT t s n = 0) := Lib.hid (by unfold nextT; rw [if_neg (by omega)])
    go_enter Tryd.func19, Tryd.ntmps19
    go_wp2_with fail
    refine HR.out.mono ?_
    rintro e w1 ⟨rfl, hb⟩
    have X2 := Lib.hid (X.out.ext hb)
    have HB2 := Lib.hid (HB.out.trans (hb.mono HB.out.size))
    have y0 := X2.out.c0
    have y1 := X2.out.c1
    have y2 := X2.out.c2
    have y3 := X2.out.c3
    clear hb x0 x1 x2 x3 X HB
    go_wp2
    go_ret
    exact ⟨ret_int E.out.symm, HB2.out⟩
  have d3 : decide (t.states ≤ s) = false := decide_eq_false k3
  by_cases k4 : n < 0
  · have d4 : decide (n < 0) = true := decide_eq_true k4
    have E : Hid (nextT t s n = 0) := Lib.hid (by unfold nextT; rw [if_neg (by omega)])
    go_enter Tryd.func19, Tryd.ntmps19
    go_wp2_with fail
    refine HR.out.mono ?_
    rintro e w1 ⟨rfl, hb⟩
    have X2 := Lib.hid (X.out.ext hb)
    have HB2 := Lib.hid (HB.out.trans (hb.mono HB.out.size))
    have y0 := X2.out.c0
    have y1 := X2.out.c1
    have y2 := X2.out.c2
    have y3 := X2.out.c3
    clear hb x0 x1 x2 x3 X HB
    go_wp2
    go_ret
    exact ⟨ret_int E.out.symm, HB2.out⟩
  have d4 : decide (n < 0) = false := decide_eq_false k4
  by_cases k5 : (t.hood.length : Int) ≤ n
  · have d5 : decide ((t.hood.length : Int) ≤ n) = true := decide_eq_true k5
    have E : Hid (nextT t s n = 0) := Lib.hid (by unfold nextT; rw [if_neg (by omega)])
    go_enter Tryd.func19, Tryd.ntmps19
    go_wp2_with fail
    refine HR.out.mono ?_
    rintro e w1 ⟨rfl, hb⟩
    have X2 := Lib.hid (X.out.ext hb)
    have HB2 := Lib.hid (HB.out.trans (hb.mono HB.out.size))
    have y0 := X2.out.c0
    have y1 := X2.out.c1
    have y2 := X2.out.c2
    have y3 := X2.out.c3
    clear hb x0 x1 x2 x3 X HB
    go_wp2
    go_ret
    exact ⟨ret_int E.out.symm, HB2.out⟩
  have d5 : decide ((t.hood.length : Int) ≤ n) = false := decide_eq_false k5
  have E0 : Hid (nextT t s n = if (s = 0 ∧ n ∈ t.birth) ∨ (s = 1 ∧ n ∈ t.survive) then 1 else if s = 0 ∨ s = t.states - 1 then 0 else s + 1) := Lib.hid (by unfold nextT; rw [if_pos ⟨K1.out, by omega, by omega, by omega, by omega⟩])
  by_cases k6 : s = 0
  · subst k6
    have e0 : ((0 : Int) == 0) = true := rfl
    cases k7 : decide (n ∈ t.birth)
    · have E : Hid (nextT t 0 n = 0) := Lib.hid (by rw [E0.out, if_neg (by have := of_decide_eq_false k7; simp [this]), if_pos (Or.inl rfl)])
      go_enter Tryd.func19, Tryd.ntmps19
      go_wp2_with fail
      refine HR.out.mono ?_
      rintro e w1 ⟨rfl, hb⟩
      have X2 := Lib.hid (X.out.ext hb)
      have HB2 := Lib.hid (HB.out.trans (hb.mono HB.out.size))
      have y0 := X2.out.c0
      have y1 := X2.out.c1
      have y2 := X2.out.c2
      have y3 := X2.out.c3
      clear hb x0 x1 x2 x3 X HB
      have HC := Lib.hid (has_any B t.birth b n _ X2.out.tot.birth)
      rw [k7] at HC
      have K7 := Lib.hid k7
      clear k7
      go_wp2_with fail
      refine HC.out.mono ?_
      rintro e w2 ⟨rfl, hw⟩
      have hw2 := hw.symm
      clear hw
      subst hw2
      clear HC
      go_wp2
      go_ret
      exact ⟨ret_int E.out.symm, HB2.out⟩
    · have E : Hid (nextT t 0 n = 1) := Lib.hid (by rw [E0.out, if_pos (Or.inl ⟨rfl, of_decide_eq_true k7⟩)])
      go_enter Tryd.func19, Tryd.ntmps19
      go_wp2_with fail
      refine HR.out.mono ?_
      rintro e w1 ⟨rfl, hb⟩
      have X2 := Lib.hid (X.out.ext hb)
      have HB2 := Lib.hid (HB.out.trans (hb.mono HB.out.size))
      have y0 := X2.out.c0
      have y1 := X2.out.c1
      have y2 := X2.out.c2
      have y3 := X2.out.c3
      clear hb x0 x1 x2 x3 X HB
      have HC := Lib.hid (has_any B t.birth b n _ X2.out.tot.birth)
      rw [k7] at HC
      have K7 := Lib.hid k7
      clear k7
      go_wp2_with fail
      refine HC.out.mono ?_
      rintro e w2 ⟨rfl, hw⟩
      have hw2 := hw.symm
      clear hw
      subst hw2
      clear HC
      go_wp2
      go_ret
      exact ⟨ret_int E.out.symm, HB2.out⟩
  have e0 : (s == 0) = false := by simp [k6]
  by_cases k8 : s = 1
  · subst k8
    have e1 : ((1 : Int) == 1) = true := rfl
    cases k7 : decide (n ∈ t.survive)
    · by_cases k9 : (1 : Int) = t.states - 1
      · have e9 : ((1 : Int) == t.states - 1) = true := by simpa using k9
        have E : Hid (nextT t (1 : Int) n = 0) := Lib.hid (by rw [E0.out, if_neg (by have := of_decide_eq_false k7; simp [this]), if_pos (Or.inr k9)])
        have K9 := Lib.hid k9
        clear k9
        go_enter Tryd.func19, Tryd.ntmps19
        go_wp2_with fail
        refine HR.out.mono ?_
        rintro e w1 ⟨rfl, hb⟩
        have X2 := Lib.hid (X.out.ext hb)
        have HB2 := Lib.hid (HB.out.trans (hb.mono HB.out.size))
        have y0 := X2.out.c0
        have y1 := X2.out.c1
        have y2 := X2.out.c2
        have y3 := X2.out.c3
        clear hb x0 x1 x2 x3 X HB
        have HC := Lib.hid (has_any C t.survive c n _ X2.out.tot.survive)
        rw [k7] at HC
        have K7 := Lib.hid k7
        clear k7
        go_wp2_with fail
        refine HC.out.mono ?_
        rintro e w2 ⟨rfl, hw⟩
        have hw2 := hw.symm
        clear hw
        subst hw2
        clear HC
        go_wp2
        go_ret
        exact ⟨ret_int E.out.symm, HB2.out⟩
      · have e9 : ((1 : Int) == t.states - 1) = false := by simpa using k9
        have E : Hid (nextT t (1 : Int) n = (1 : Int) + 1) := Lib.hid (by rw [E0.out, if_neg (by have := of_decide_eq_false k7; simp [this]), if_neg (by omega)])
        have K9 := Lib.hid k9
        clear k9
        go_enter Tryd.func19, Tryd.ntmps19
        go_wp2_with fail
        refine HR.out.mono ?_
        rintro e w1 ⟨rfl, hb⟩
        have X2 := Lib.hid (X.out.ext hb)
        have HB2 := Lib.hid (HB.out.trans (hb.mono HB.out.size))
        have y0 := X2.out.c0
        have y1 := X2.out.c1
        have y2 := X2.out.c2
        have y3 := X2.out.c3
        clear hb x0 x1 x2 x3 X HB
        have HC := Lib.hid (has_any C t.survive c n _ X2.out.tot.survive)
        rw [k7] at HC
        have K7 := Lib.hid k7
        clear k7
        go_wp2_with fail
        refine HC.out.mono ?_
        rintro e w2 ⟨rfl, hw⟩
        have hw2 := hw.symm
        clear hw
        subst hw2
        clear HC
        go_wp2
        go_ret
        exact ⟨ret_int E.out.symm, HB2.out⟩
    · have E : Hid (nextT t 1 n = 1) := Lib.hid (by rw [E0.out, if_pos (Or.inr ⟨rfl, of_decide_eq_true k7⟩)])
      go_enter Tryd.func19, Tryd.ntmps19
      go_wp2_with fail
      refine HR.out.mono ?_
      rintro e w1 ⟨rfl, hb⟩
      have X2 := Lib.hid (X.out.ext hb)
      have HB2 := Lib.hid (HB.out.trans (hb.mono HB.out.size))
      have y0 := X2.out.c0
      have y1 := X2.out.c1
      have y2 := X2.out.c2
      have y3 := X2.out.c3
      clear hb x0 x1 x2 x3 X HB
      have HC := Lib.hid (has_any C t.survive c n _ X2.out.tot.survive)
      rw [k7] at HC
      have K7 := Lib.hid k7
      clear k7
      go_wp2_with fail
      refine HC.out.mono ?_
      rintro e w2 ⟨rfl, hw⟩
      have hw2 := hw.symm
      clear hw
      subst hw2
      clear HC
      go_wp2
      go_ret
      exact ⟨ret_int E.out.symm, HB2.out⟩
  have e1 : (s == 1) = false := by simp [k8]
  by_cases k9 : s = t.states - 1
  · have e9 : (s == t.states - 1) = true := by simpa using k9
    have E : Hid (nextT t s n = 0) := Lib.hid (by rw [E0.out, if_neg (by omega), if_pos (Or.inr k9)])
    have K9 := Lib.hid k9
    clear k9
    have K6 := Lib.hid (And.intro k6 k8)
    clear k6 k8
    go_enter Tryd.func19, Tryd.ntmps19
    go_wp2_with fail
    refine HR.out.mono ?_
    rintro e w1 ⟨rfl, hb⟩
    have X2 := Lib.hid (X.out.ext hb)
    have HB2 := Lib.hid (HB.out.trans (hb.mono HB.out.size))
    have y0 := X2.out.c0
    have y1 := X2.out.c1
    have y2 := X2.out.c2
    have y3 := X2.out.c3
    clear hb x0 x1 x2 x3 X HB
    go_wp2
    go_ret
    exact ⟨ret_int E.out.symm, HB2.out⟩
  · have e9 : (s == t.states - 1) = false := by simpa using k9
    have E : Hid (nextT t s n = s + 1) := Lib.hid (by rw [E0.out, if_neg (by omega), if_neg (by omega)])
    have K9 := Lib.hid k9
    clear k9
    have K6 := Lib.hid (And.intro k6 k8)
    clear k6 k8
    go_enter Tryd.func19, Tryd.ntmps19
    go_wp2_with fail
    refine HR.out.mono ?_
    rintro e w1 ⟨rfl, hb⟩
    have X2 := Lib.hid (X.out.ext hb)
    have HB2 := Lib.hid (HB.out.trans (hb.mono HB.out.size))
    have y0 := X2.out.c0
    have y1 := X2.out.c1
    have y2 := X2.out.c2
    have y3 := X2.out.c3
    clear hb x0 x1 x2 x3 X HB
    go_wp2
    go_ret
    exact ⟨ret_int E.out.symm, HB2.out⟩
end Go.Proofs.YtaofninfjdepfaaDoor
