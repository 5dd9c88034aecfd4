/-
  A turned tree is valid, is turned back by the inverse symmetry, and leads where its tree leads. No condition.
  What ReduceTurned asks of Turn and of the neighbourhood, over trees in memory. No condition.
-/
import Derived.Test.YtojnnfihpiegoaaDoorZCs
import Derived.Test.YtojnnfihpiegoaaDoorZSmallP
import Derived.Test.YtojnnfihpiegoaaDoorZR04
namespace Go.Proofs.YtojnnfihpiegoaaDoor
set_option linter.unusedSimpArgs false
open Go.RowKit Go.Maps
set_option maxRecDepth 100000
set_option linter.unusedVariables false

theorem chainH_of : ∀ (l : List (Int × Int)) (q : Option (Int × Int)), l.Pairwise (fun a b => gtB b a = true) → (∀ a, q = some a → ∀ b ∈ l, gtB b a = true) → (∀ p ∈ l, rngB p = true) → chainH q l = true
  | [], _, _, _, _ => rfl
  | p :: l, q, h1, h2, h3 => by
    rw [List.pairwise_cons] at h1
    simp only [chainH, Bool.and_eq_true]
    refine ⟨?_, chainH_of l (some p) h1.2 (fun a e b hb => by cases e; exact h1.1 b hb) (fun x hx => h3 x (List.mem_cons_of_mem _ hx))⟩
    simp only [okH, Bool.and_eq_true]
    refine ⟨h3 p List.mem_cons_self, ?_⟩
    cases q with
    | none => rfl
    | some a =>
      have h4 := h2 a rfl p List.mem_cons_self
      rw [gtB_iff] at h4
      simp only [decide_eq_true_eq]
      unfold ordP Lib.compareInt
      by_cases c1 : a.2 < p.2
      · simp [c1]
      · have c3 : a.2 = p.2 := by omega
        have c4 : a.1 < p.1 := by omega
        simp [c3, c4]
theorem symP_rng (k : Int) {p : Int × Int} (h : (-2 ≤ p.1 ∧ p.1 ≤ 2) ∧ (-2 ≤ p.2 ∧ p.2 ≤ 2)) : rngB (symP k p) = true := by
  have hj := symJ_lt k
  unfold symP
  generalize symJ k = j at hj ⊢
  obtain ⟨x, y⟩ := p
  dsimp only at h
  simp only [rngB, Bool.and_eq_true, decide_eq_true_eq]
  obtain rfl | rfl | rfl | rfl | rfl | rfl | rfl | rfl : j = 0 ∨ j = 1 ∨ j = 2 ∨ j = 3 ∨ j = 4 ∨ j = 5 ∨ j = 6 ∨ j = 7 := by omega
  all_goals
    simp [matL]
    omega
section
variable {k : Int} {t u : PT}
theorem TI.hood (h : TI k t u) (ht : t.right = true) (hs : u.ps.Pairwise leP) : hoodB u.ps = true := by
  obtain ⟨a1, a2, a3, a4, a5, a6, a7, a8, a9⟩ := rightN_parts ht
  have hl := h.len
  have hn := h.nodup ht
  have h1 : 1 ≤ t.ps.length := by
    unfold hoodB at a3
    simp only [Bool.and_eq_true, decide_eq_true_eq] at a3
    exact a3.1.1
  have hrg : ∀ p ∈ u.ps, rngB p = true := fun p hp => by
    obtain ⟨x, hx, rfl⟩ := List.mem_map.1 (h.pm.mem_iff.1 hp)
    exact symP_rng k (hood_rng a3 x hx)
  unfold hoodB
  simp only [Bool.and_eq_true, decide_eq_true_eq]
  refine ⟨⟨by omega, by omega⟩, chainH_of _ _ ?_ (fun a e => by cases e) hrg⟩
  refine (hs.and hn).imp fun {a b} hab => ?_
  obtain ⟨h2, h3⟩ := hab
  unfold leP at h2
  rw [gtB_iff] at h2 ⊢
  by_cases c : a.2 = b.2
  · by_cases c' : a.1 = b.1
    · exact absurd (Prod.ext c' c) h3
    · omega
  · omega
theorem TI.right (h : TI k t u) (ht : t.right = true) (hs : u.ps.Pairwise leP) (hc : u.ns.length ≤ 4096) : u.right = true := by
  obtain ⟨a1, a2, a3, a4, a5, a6, a7, a8, a9⟩ := rightN_parts ht
  have hl := h.len
  unfold PT.right
  exact rightN_of (by rw [h.st]; exact a1) (by rw [h.st]; exact a2) (h.hood ht hs) h.can.pos hc (by rw [hl]; exact h.can.root) (by rw [h.st]; exact h.can.v) (fun i hi => by rw [hl]; exact h.can.lv i hi)
theorem hood_sorted {ps : List (Int × Int)} (h : hoodB ps = true) : ps.Pairwise leP := by
  unfold hoodB at h
  rw [Bool.and_eq_true] at h
  refine (chainH_pw ps none h.2).1.imp fun {a b} h => ?_
  unfold leP
  rw [gtB_asymm h]
  exact Bool.false_ne_true
theorem TI.back (h : TI k t u) (ht : t.right = true) : TI (invS k) u (redT t) := by
  obtain ⟨a1, a2, a3, a4, a5, a6, a7, a8, a9⟩ := rightN_parts ht
  obtain ⟨r1, r2, r3, r4, r5, r6, r7⟩ := redT_ok ht
  refine ⟨by rw [r6, h.st], ?_, by rw [h.st, h.len]; exact red_can' ht, fun g hg => ?_⟩
  · have h1 := h.pm.map (symP (invS k))
    rw [List.map_map] at h1
    have h2 : t.ps.map (symP (invS k) ∘ symP k) = t.ps := by
      conv => rhs; rw [← List.map_id t.ps]
      exact List.map_congr_left fun p _ => invS_sym k p
    rw [h2] at h1
    rw [r7]
    exact h1.symm
  · rw [h.st] at hg
    have h1 := h.lead (fun p => g (symP (invS k) p)) (fun p => hg _)
    rw [h1, r7]
    have h2 : (t.ps.map fun p => g (symP (invS k) (symP k p))) = t.ps.map g := List.map_congr_left fun p _ => by rw [invS_sym]
    rw [h2]
    exact r4.2 _ (by rw [r4.1, a6, List.length_map]) (fun s hs => by
      obtain ⟨p, -, rfl⟩ := List.mem_map.1 hs
      exact hg _)
/-- what the statement asks of Turn -/
theorem turned_ok {te : PT × Int} (h : TurnOk k t te) (ht : t.right = true) :
    te.2 = 6 ∨ (te.2 = 0 ∧ hoodB te.1.ps = true ∧ te.1.ps.length = t.ps.length ∧ te.1.right = true ∧ TI k t te.1 ∧ ∀ te', TurnOk (invS k) te.1 te' → te' = (redT t, 0)) := by
  rcases h with ⟨h1, -⟩ | ⟨-, u, h2, h3, h4⟩
  · rw [ht] at h1; cases h1
  · by_cases hc : 4096 < u.ns.length
    · rw [if_pos hc] at h4
      exact .inl (by rw [h4])
    · rw [if_neg hc] at h4
      rw [h4]
      have hur := h2.right ht h3 (by omega)
      refine .inr ⟨rfl, h2.hood ht h3, h2.len, hur, h2, fun te' h' => ?_⟩
      obtain ⟨r1, r2, r3, r4, r5, r6, r7⟩ := redT_ok ht
      have ap := rightN_parts ht
      refine h'.uniq (.inr ⟨hur, redT t, h2.back ht, by rw [r7]; exact hood_sorted ap.2.2.1, ?_⟩)
      rw [if_neg (by have := ap.2.2.2.2.1; omega)]
theorem turned_eval (h : TI k t u) (ht : t.right = true) (hu : u.right = true) {zs : List Int} (he : (evalP t zs).2 = 0) :
    zs.length = t.ps.length ∧ ∃ g : Int × Int → Int, (t.ps.map (symP k)).map g = zs ∧ evalP u (u.ps.map g) = ((evalP t zs).1, 0) := by
  obtain ⟨a1, a2, a3, a4, a5, a6, a7, a8, a9⟩ := rightN_parts ht
  unfold evalP at he ⊢
  rw [if_pos ht] at he ⊢
  simp only [if_pos hu]
  by_cases c1 : zs.length = t.ps.length
  · rw [if_pos c1] at he ⊢
    cases hb : zs.any (badS t.st) with
    | true => rw [hb, if_pos rfl] at he; exact absurd he (by decide)
    | false =>
      rw [if_neg (by simp)]
      obtain ⟨t1, t2⟩ := toNat_back hb
      have hnd : (t.ps.map (symP k)).Nodup := List.pairwise_map.2 ((hood_nodup a3).imp fun {a b} hne e => hne (symP_inj k e))
      obtain ⟨g, g1, g2⟩ := pick (t.ps.map (symP k)) (zs.map Int.toNat) hnd (by rw [List.length_map, List.length_map, c1])
      have hg : ∀ p, g p < t.st.toNat := fun p => by
        rcases g2 p with e | e
        · rw [e]; omega
        · exact t2 _ e
      refine ⟨c1, fun p => (g p : Int), ?_, ?_⟩
      · rw [← t1, ← g1, List.map_map, List.map_map, List.map_map]
        rfl
      · rw [if_pos (by rw [List.length_map])]
        have hb2 : (u.ps.map fun p => (g p : Int)).any (badS u.st) = false := by
          rw [List.any_eq_false]
          intro s hs
          obtain ⟨p, -, rfl⟩ := List.mem_map.1 hs
          have := hg p
          rw [h.st]
          simp only [badS, Bool.or_eq_true, decide_eq_true_eq]
          omega
        rw [hb2, if_neg (by simp)]
        have h1 := h.lead g hg
        have h2 : (u.ps.map fun p => (g p : Int)).map Int.toNat = u.ps.map g := by
          rw [List.map_map]
          exact List.map_congr_left fun p _ => Int.toNat_natCast _
        have h3 : (t.ps.map fun p => g (symP k p)) = zs.map Int.toNat := by
          rw [← g1, List.map_map]
          rfl
        rw [h2, h1, h3]
  · rw [if_neg c1] at he
    exact absurd he (by decide)
end
/-- the states at the turned offsets, when the first i and a part of the next have been laid -/
def sg (g : Int × Int → Int) (im us : List (Int × Int)) (i j : Nat) : List Int :=
  (List.range us.length).map fun m => if us.getD m (0, 0) ∈ im.take i ∨ (m < j ∧ us.getD m (0, 0) = im.getD i (0, 0)) then g (us.getD m (0, 0)) else 0
section
variable {g : Int × Int → Int} {im us : List (Int × Int)} {i j : Nat}
theorem sg_len : (sg g im us i j).length = us.length := by unfold sg; simp
theorem sg_at {m : Nat} (h : m < (sg g im us i j).length) : (sg g im us i j)[m] = if us.getD m (0, 0) ∈ im.take i ∨ (m < j ∧ us.getD m (0, 0) = im.getD i (0, 0)) then g (us.getD m (0, 0)) else 0 := by
  unfold sg at h ⊢
  rw [List.getElem_map, List.getElem_range]
theorem sg_start : sg g im us 0 0 = List.replicate us.length 0 := by
  unfold sg
  rw [List.eq_replicate_iff]
  refine ⟨by simp, fun b hb => ?_⟩
  obtain ⟨m, -, rfl⟩ := List.mem_map.1 hb
  rw [if_neg (by simp)]
theorem sg_hit (hj : j < us.length) (h : us.getD j (0, 0) = im.getD i (0, 0)) : (sg g im us i j).set j (g (im.getD i (0, 0))) = sg g im us i (j + 1) := by
  refine List.ext_getElem (by rw [List.length_set, sg_len, sg_len]) fun m h1 h2 => ?_
  rw [List.getElem_set, sg_at, sg_at]
  by_cases e : j = m
  · subst e
    rw [if_pos rfl, if_pos (.inr ⟨Nat.lt_succ_self _, h⟩), h]
  · rw [if_neg e]
    have : (m < j + 1) = (m < j) := propext (by omega)
    simp only [this]
theorem sg_miss (h : ¬ us.getD j (0, 0) = im.getD i (0, 0)) : sg g im us i (j + 1) = sg g im us i j := by
  unfold sg
  refine List.map_congr_left fun m hm => ?_
  by_cases e : j = m
  · subst e
    have c : (us.getD j (0, 0) ∈ im.take i ∨ (j < j + 1 ∧ us.getD j (0, 0) = im.getD i (0, 0))) = (us.getD j (0, 0) ∈ im.take i ∨ (j < j ∧ us.getD j (0, 0) = im.getD i (0, 0))) := by rw [eq_false h, and_false, and_false]
    simp only [c]
  · have : (m < j + 1) = (m < j) := propext (by omega)
    simp only [this]
theorem sg_next (hi : i < im.length) : sg g im us i us.length = sg g im us (i + 1) 0 := by
  unfold sg
  refine List.map_congr_left fun m hm => ?_
  rw [List.mem_range] at hm
  have hgd : im.getD i (0, 0) = im[i] := by rw [List.getD_eq_getElem?_getD, List.getElem?_eq_getElem hi]; rfl
  have : (us.getD m (0, 0) ∈ im.take i ∨ (m < us.length ∧ us.getD m (0, 0) = im.getD i (0, 0))) = (us.getD m (0, 0) ∈ im.take (i + 1) ∨ (m < 0 ∧ us.getD m (0, 0) = im.getD (i + 1) (0, 0))) := propext (by
    rw [List.take_succ_eq_append_getElem hi, List.mem_append, List.mem_singleton, hgd]
    simp [hm])
  simp only [this]
theorem sg_end (h : ∀ p ∈ us, p ∈ im) : sg g im us im.length 0 = us.map g := by
  refine List.ext_getElem (by rw [sg_len, List.length_map]) fun m h1 h2 => ?_
  have h3 := h1
  rw [sg_len] at h3
  rw [sg_at, List.getElem_map]
  have hgd : us.getD m (0, 0) = us[m] := by rw [List.getD_eq_getElem?_getD, List.getElem?_eq_getElem h3]; rfl
  rw [hgd, if_pos (.inl (by rw [List.take_length]; exact h _ (List.getElem_mem h3)))]
end
end Go.Proofs.YtojnnfihpiegoaaDoor
namespace Go.Proofs.YtojnnfihpiegoaaDoor
open Go.RowKit Go.Maps
set_option maxRecDepth 100000
set_option linter.unusedVariables false
set_option linter.unusedSimpArgs false
section
variable {w w' : World} {st : Int} {A : Option Addr} {n c : Nat} {B : Option Addr} {m d : Nat} {t : PT} {v : Value} {k : Int}
theorem TreeAt.hood_ (h : TreeAt w (.agg #[.int .i64 st, .slice A n c, .slice B m d]) t) : n = t.ps.length ∧ Pts w A t.ps := by
  obtain ⟨A', c', B', d', os, e, h1, h2, h3⟩ := h
  injection e with e
  simp only [Array.mk.injEq, List.cons.injEq, Value.int.injEq, Value.slice.injEq, true_and, and_true] at e
  obtain ⟨-, ⟨rfl, rfl, -⟩, -⟩ := e
  exact ⟨rfl, h1⟩
theorem hood_tv (h : TreeAt w (.agg #[.int .i64 st, .slice A n c, .slice B m d]) t) : Calls Tryd.prog 28 #[.slice A n c] w fun e w' => e = .returned (.bool (hoodB t.ps)) ∧ Below w.heap.size w w' := by
  obtain ⟨e, h1⟩ := h.hood_
  subst e
  exact hood_any A c t.ps w h1
theorem turn_own (h : TreeAt w v t) (ht : TabB w.heap.size w) (hg : GMat w) (hl : t.ps.length ≤ 9) : Calls Tryd.prog 24 #[.int .i64 k, v] w (RetTurn k t w) := by
  obtain ⟨A, c, B, d, os, rfl, h1, h2, h3⟩ := h
  have := turn_any k t.st A c t.ps B d os w h1 h2 ht hg hl
  rw [h3] at this
  exact this
end
def vTd (gh : TrH) : Value := .agg #[.int .i64 gh.st, .slice gh.hA gh.ps.length gh.hc, .slice gh.nA gh.hs.length gh.nc]
/-- the tree that Turn hands back, its memory its own -/
structure BkP (X : PT) (W : World) (bh : TrH) (w : World) : Prop where
  eq : bh.pt = X
  hood : OwnP 49 w W.heap.size (.slice bh.hA bh.ps.length bh.hc) bh.ps
  nds : OwnNA w W.heap.size (.slice bh.nA bh.hs.length bh.nc) bh.hs
section
variable {X : PT} {W w w' : World} {bh : TrH} {g : Nat} {cs : Array Value}
theorem BkP.ext (h : BkP X W bh w) (hb : Below w.heap.size w w') : BkP X W bh w' := ⟨h.eq, h.hood.ext hb, h.nds.ext hb⟩
theorem BkP.kept (h : BkP X W bh w) (hk : Kept (fun x => x = g) w w') (hb : Blk w g 25 cs) : BkP X W bh w' :=
  ⟨h.eq, hk.own h.hood (fun x e1 e2 => by subst e2; exact own_blk_ne' h.hood hb (by decide) e1), h.nds.kept hk (fun x e1 e2 => by subst e2; exact own_blk_ne' h.nds.1 hb (by decide) e1) (fun y hy x e1 e2 => by subst e2; exact own_blk_ne' (h.nds.2 y hy) hb (by decide) e1)⟩
theorem BkP.at_ (h : BkP X W bh w) : TreeAt w (vTd bh) X := by
  obtain ⟨rfl, h2, h3⟩ := h
  obtain ⟨A1, c1, e1, p1, -⟩ := h2.pts
  injection e1 with e1 e2 e3
  subst e1
  obtain ⟨A2, c2, e2, p2, -⟩ := h3.nds
  injection e2 with e2 e3 e4
  subst e2
  exact ⟨bh.hA, bh.hc, bh.nA, bh.nc, bh.hs, rfl, p1, p2, rfl⟩
theorem bk_of {k : Int} {u : PT} {e : Ending} (h : RetTurn k u w e w') (hback : ∀ te', TurnOk k u te' → te' = (X, 0)) (hW : W.heap.size ≤ w.heap.size) : ∃ bh, e = .returned (.tuple #[vTd bh, .int .i64 0]) ∧ BkP X W bh w' ∧ Below w.heap.size w w' := by
  obtain ⟨te, hok, hv, nv, os, rfl, h2, h3, h4, h5⟩ := h
  obtain rfl := hback te hok
  obtain ⟨A, c, rfl, -, -⟩ := h2.pts
  obtain ⟨B, d, rfl, -, -⟩ := h3.nds
  refine ⟨⟨X.st, A, X.ps, c, B, os, d⟩, rfl, ⟨?_, own_down h2 hW, ⟨own_down h3.1 hW, fun x hx => (h3.2 x hx).down hW⟩⟩, h5⟩
  show (⟨X.st, X.ps, os.map Hd.nd⟩ : PT) = X
  rw [h4]
end
end Go.Proofs.YtojnnfihpiegoaaDoor
