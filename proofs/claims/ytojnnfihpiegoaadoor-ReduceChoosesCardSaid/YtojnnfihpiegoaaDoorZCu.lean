/-
  cellularref13.product in plain lists. No condition.
  What the reference's product holds in memory: the keys, the nodes, a node's new elements, the trees. No condition.
  What the reference's Choose makes is what Choose makes. No condition.
-/
import Derived.Test.YtojnnfihpiegoaaDoorZCr
import Derived.Test.YtojnnfihpiegoaaDoorZCl
import Derived.Test.YtojnnfihpiegoaaDoorZCi
import Derived.Test.YtojnnfihpiegoaaDoorZCh
import Derived.Test.YtojnnfihpiegoaaDoorZCk
namespace Go.Proofs.YtojnnfihpiegoaaDoor
set_option linter.unusedVariables false
set_option linter.unusedSimpArgs false

/-- the keys, the nodes -/
abbrev RS := List (List Int) × List Nd
def hitR (lv : Int) (ids : List Int) (s : RS) (k : Nat) : Bool := ((ndAt s.2 k).1 == lv) && decide (s.1.getD k [] = ids)
def lookR (lv : Int) (ids : List Int) (s : RS) : Nat → Nat → Option Nat
 | 0, _ => none
 | m + 1, k => if hitR lv ids s k = true then some k else lookR lv ids s m (k + 1)
def kidsR (r : List Int → RS → Int × RS) (g : Nat → List Int) : Nat → RS → List Int × RS
 | 0, s => ([], s)
 | j + 1, s => ((kidsR r g j s).1 ++ [(r (g j) (kidsR r g j s).2).1], (r (g j) (kidsR r g j s).2).2)
def prodR (T : List (List Nd)) (q : Nat) : Nat → List Int → RS → Int × RS
 | 0, ids, s => (pickC ids, s)
 | n + 1, ids, s => match lookR ((n + 1 : Nat) : Int) ids s s.2.length 0 with
  | some k => ((k : Int), s)
  | none => (((kidsR (prodR T q n) (kidsC T ids) q s).2.2.length : Int), ((kidsR (prodR T q n) (kidsC T ids) q s).2.1 ++ [ids], (kidsR (prodR T q n) (kidsC T ids) q s).2.2 ++ [(((n + 1 : Nat) : Int), (kidsR (prodR T q n) (kidsC T ids) q s).1)]))
theorem lookR_some {lv : Int} {f : List Int} {s : RS} : ∀ (m k : Nat) {r : Nat}, lookR lv f s m k = some r → hitR lv f s r = true ∧ r < k + m
 | 0, k, r, h => by cases h
 | m + 1, k, r, h => by
  unfold lookR at h
  split at h
  ·rename_i e
   injection h with h
   subst h
   exact ⟨e, by omega⟩
  ·obtain ⟨h1, h2⟩ := lookR_some m (k + 1) h
   exact ⟨h1, by omega⟩
/-- what holds of the keys and the nodes -/
structure RI (T : List (List Nd)) (q : Nat) (s : RS) : Prop where
 len : s.1.length = s.2.length
 v : VNd q s.2
 lead : ∀ k, k < s.2.length → ∃ n : Nat, (ndAt s.2 k).1 = ((n + 1 : Nat) : Int) ∧ ∀ ins : List Nat, ins.length = n + 1 → (∀ t ∈ ins, t < q) → val s.2 (k : Int) ins = valC T (s.1.getD k []) ins
theorem RI.nil (T : List (List Nd)) (q : Nat) : RI T q ([], []) :=
 ⟨rfl, ⟨⟨fun i hi => hi, fun i hi => absurd hi (by simp), fun i hi => absurd hi (by simp), fun i hi => absurd hi (by simp)⟩, fun i hi => absurd hi (by simp), fun i hi => absurd hi (by simp)⟩, fun k hk => absurd hk (by simp)⟩
/-- what a call gives -/
structure RG (T : List (List Nd)) (q n : Nat) (f : List Int) (s : RS) (r : Int × RS) : Prop where
 i : RI T q r.2
 g : ∃ ks ys, r.2.1 = s.1 ++ ks ∧ r.2.2 = s.2 ++ ys
 low : n = 0 → 0 ≤ r.1 ∧ r.1 < (q : Int)
 nd : 1 ≤ n → 0 ≤ r.1 ∧ r.1.toNat < r.2.2.length ∧ (ndAt r.2.2 r.1.toNat).1 = (n : Int)
 lead : ∀ ins : List Nat, ins.length = n → (∀ t ∈ ins, t < q) → val r.2.2 r.1 ins = valC T f ins
 size : r.2.2.length ≤ s.2.length + cap q n
theorem RG.grow {T : List (List Nd)} {q n : Nat} {f : List Int} {s : RS} {r : Int × RS} (h : RG T q n f s r) {s' : RS} (hs : ∃ ks ys, s'.1 = r.2.1 ++ ks ∧ s'.2 = r.2.2 ++ ys) :
  (1 ≤ n → 0 ≤ r.1 ∧ r.1.toNat < s'.2.length ∧ (ndAt s'.2 r.1.toNat).1 = (n : Int)) ∧ ∀ ins : List Nat, ins.length = n → (∀ t ∈ ins, t < q) → val s'.2 r.1 ins = valC T f ins := by
 obtain ⟨ks, ys, -, e⟩ := hs
 refine ⟨fun hn => ?_, fun ins hl hq => ?_⟩
 ·obtain ⟨a, b, c⟩ := h.nd hn
  exact ⟨a, by rw [e, List.length_append]; omega, by rw [e, ndAt_app_lt b]; exact c⟩
 ·rw [← h.lead ins hl hq, e]
  by_cases hn : 1 ≤ n
  ·obtain ⟨a, b, c⟩ := h.nd hn
   exact val_grow h.i.v.lev ys (L := ins.length) a (fun _ => ⟨b, by rw [c, hl]⟩) rfl hq
  ·have : ins = [] := List.eq_nil_of_length_eq_zero (by omega)
   subst this
   rfl
theorem prodR_ok {T : List (List Nd)} {q : Nat} (hT : TV q T) : ∀ (n : Nat) (f : List Int) (s : RS), okC T q n f → RI T q s → RG T q n f s (prodR T q n f s)
 | 0, f, s, h, hi => by
  obtain ⟨p1, p2, -, -⟩ := pickC_ok hT h
  refine ⟨hi, ⟨[], [], by simp [prodR], by simp [prodR]⟩, fun _ => ⟨p1, p2⟩, fun hn => absurd hn (by omega), fun ins hl _ => ?_, by simp [prodR]⟩
  have : ins = [] := List.eq_nil_of_length_eq_zero hl
  subst this
  rw [valC_nil h.1]
  rfl
 | n + 1, f, s, h, hi => by
  unfold prodR
  cases hlk : lookR ((n + 1 : Nat) : Int) f s s.2.length 0 with
  | some k =>
   dsimp only
   obtain ⟨h1, h2⟩ := lookR_some _ _ hlk
   unfold hitR at h1
   rw [Bool.and_eq_true] at h1
   have h3 : (ndAt s.2 k).1 = ((n + 1 : Nat) : Int) := by simpa using h1.1
   have h4 : s.1.getD k [] = f := by simpa using h1.2
   obtain ⟨m, m1, m3⟩ := hi.lead k (by omega)
   have hmn : m = n := by rw [h3] at m1; omega
   subst hmn
   refine ⟨hi, ⟨[], [], by simp, by simp⟩, fun h0 => absurd h0 (by omega), fun _ => ⟨Int.natCast_nonneg _, by rw [Int.toNat_natCast]; exact (by omega : k < s.2.length), by rw [Int.toNat_natCast]; exact h3⟩, fun ins hl hq => ?_, by simp⟩
   rw [m3 ins hl hq, h4]
  | none =>
   dsimp only
   have hfx : ∀ j, j < q → okC T q n (kidsC T f j) := fun j hj => h.kids hT hj
   have key : ∀ j, j ≤ q → RI T q (kidsR (prodR T q n) (kidsC T f) j s).2 ∧ (∃ ks ys, (kidsR (prodR T q n) (kidsC T f) j s).2.1 = s.1 ++ ks ∧ (kidsR (prodR T q n) (kidsC T f) j s).2.2 = s.2 ++ ys) ∧
     (kidsR (prodR T q n) (kidsC T f) j s).1.length = j ∧ (kidsR (prodR T q n) (kidsC T f) j s).2.2.length ≤ s.2.length + j * cap q n ∧
     ∀ i, i < j → (n = 0 → 0 ≤ (kidsR (prodR T q n) (kidsC T f) j s).1.getD i 0 ∧ (kidsR (prodR T q n) (kidsC T f) j s).1.getD i 0 < (q : Int)) ∧
      (1 ≤ n → 0 ≤ (kidsR (prodR T q n) (kidsC T f) j s).1.getD i 0 ∧ ((kidsR (prodR T q n) (kidsC T f) j s).1.getD i 0).toNat < (kidsR (prodR T q n) (kidsC T f) j s).2.2.length ∧ (ndAt (kidsR (prodR T q n) (kidsC T f) j s).2.2 ((kidsR (prodR T q n) (kidsC T f) j s).1.getD i 0).toNat).1 = (n : Int)) ∧
      ∀ ins : List Nat, ins.length = n → (∀ t ∈ ins, t < q) → val (kidsR (prodR T q n) (kidsC T f) j s).2.2 ((kidsR (prodR T q n) (kidsC T f) j s).1.getD i 0) ins = valC T (kidsC T f i) ins := by
    intro j
    induction j with
    | zero => intro _; exact ⟨hi, ⟨[], [], by simp [kidsR], by simp [kidsR]⟩, rfl, by simp [kidsR], fun i h => absurd h (by omega)⟩
    | succ j ih =>
     intro hj
     obtain ⟨b1, ⟨ks, ys, b2, b3⟩, b4, b5, b6⟩ := ih (by omega)
     have hc := prodR_ok hT n (kidsC T f j) _ (hfx j (by omega)) b1
     unfold kidsR
     dsimp only
     generalize kidsR (prodR T q n) (kidsC T f) j s = a at b1 b2 b3 b4 b5 b6 hc ⊢
     generalize prodR T q n (kidsC T f j) a.2 = c at hc ⊢
     obtain ⟨k2, y2, e1, e2⟩ := hc.g
     refine ⟨hc.i, ⟨ks ++ k2, ys ++ y2, by rw [e1, b2, List.append_assoc], by rw [e2, b3, List.append_assoc]⟩, by simp [b4], ?_, fun i hij => ?_⟩
     ·have := hc.size
      rw [Nat.succ_mul]
      omega
     ·rcases Nat.lt_or_ge i j with h1 | h1
      ·have e : (a.1 ++ [c.1]).getD i 0 = a.1.getD i 0 := by rw [List.getD_eq_getElem?_getD, List.getElem?_append_left (by omega), ← List.getD_eq_getElem?_getD]
       rw [e]
       obtain ⟨c1, c2, c3⟩ := b6 i h1
       refine ⟨c1, fun hn1 => ?_, fun ins hl hq => ?_⟩
       ·obtain ⟨d1, d2, d3⟩ := c2 hn1
        exact ⟨d1, by rw [e2, List.length_append]; omega, by rw [e2, ndAt_app_lt d2]; exact d3⟩
       ·rw [← c3 ins hl hq, e2]
        by_cases hn1 : 1 ≤ n
        ·obtain ⟨d1, d2, d3⟩ := c2 hn1
         exact val_grow b1.v.lev y2 (L := ins.length) d1 (fun _ => ⟨d2, by rw [d3, hl]⟩) rfl hq
        ·have : ins = [] := List.eq_nil_of_length_eq_zero (by omega)
         subst this
         rfl
      ·obtain rfl : i = j := by omega
       have e : (a.1 ++ [c.1]).getD i 0 = c.1 := by rw [List.getD_eq_getElem?_getD, List.getElem?_append_right (by omega), b4, Nat.sub_self]; rfl
       rw [e]
       exact ⟨hc.low, hc.nd, hc.lead⟩
   obtain ⟨b1, ⟨ks, ys, b2, b3⟩, b4, b5, b6⟩ := key q (Nat.le_refl _)
   generalize kidsR (prodR T q n) (kidsC T f) q s = a at b1 b2 b3 b4 b5 b6 ⊢
   have hmem : ∀ z ∈ a.1, ∃ j, j < q ∧ z = a.1.getD j 0 := by
    intro z hz
    obtain ⟨j, hj, e⟩ := List.getElem_of_mem hz
    exact ⟨j, by omega, by rw [List.getD_eq_getElem?_getD, List.getElem?_eq_getElem hj, ← e]; rfl⟩
   have hv : VNd q (a.2.2 ++ [(((n + 1 : Nat) : Int), a.1)]) := b1.v.push (by omega) b4 (fun hl z hz => by
     obtain ⟨j, hj, rfl⟩ := hmem z hz
     exact (b6 j hj).1 (by omega)) (fun hl z hz => by
     obtain ⟨j, hj, rfl⟩ := hmem z hz
     obtain ⟨d1, d2, d3⟩ := (b6 j hj).2.1 (by omega)
     exact ⟨d1, d2, by rw [d3]; omega⟩)
   have hnew : ∀ ins : List Nat, ins.length = n + 1 → (∀ t ∈ ins, t < q) → val (a.2.2 ++ [(((n + 1 : Nat) : Int), a.1)]) (a.2.2.length : Int) ins = valC T f ins := fun ins hl hq => by
    cases ins with
    | nil => simp at hl
    | cons t r =>
     have ht : t < q := hq t (by simp)
     simp only [val, Int.toNat_natCast, ndAt_app_len]
     obtain ⟨c1, c2, c3⟩ := b6 t ht
     rw [valC_cons]
     rw [← c3 r (by simpa using hl) (fun x hx => hq x (by simp [hx]))]
     by_cases hn1 : 1 ≤ n
     ·obtain ⟨d1, d2, d3⟩ := c2 hn1
      exact val_grow b1.v.lev _ (L := r.length) d1 (fun _ => ⟨d2, by rw [d3]; simp at hl; omega⟩) rfl (fun x hx => hq x (by simp [hx]))
     ·have : r = [] := List.eq_nil_of_length_eq_zero (by simp at hl; omega)
      subst this
      rfl
   refine ⟨⟨by simp [b1.len], hv, fun k hk => ?_⟩, ⟨ks ++ [f], ys ++ [(((n + 1 : Nat) : Int), a.1)], by rw [b2, List.append_assoc], by rw [b3, List.append_assoc]⟩, fun h0 => absurd h0 (by omega), fun _ => ⟨Int.natCast_nonneg _, by rw [Int.toNat_natCast]; simp, by rw [Int.toNat_natCast, ndAt_app_len]⟩, hnew, ?_⟩
   ·dsimp only at hk ⊢
    rw [List.length_append, List.length_singleton] at hk
    rcases Nat.lt_or_ge k a.2.2.length with h1 | h1
    ·obtain ⟨m, m1, m3⟩ := b1.lead k h1
     refine ⟨m, by rw [ndAt_app_lt h1]; exact m1, fun ins hl hq => ?_⟩
     have e : (a.2.1 ++ [f]).getD k [] = a.2.1.getD k [] := by rw [List.getD_eq_getElem?_getD, List.getElem?_append_left (by rw [b1.len]; exact h1), ← List.getD_eq_getElem?_getD]
     rw [e, ← m3 ins hl hq]
     exact val_grow b1.v.lev _ (L := ins.length) (Int.natCast_nonneg _) (fun _ => ⟨by rw [Int.toNat_natCast]; exact h1, by rw [Int.toNat_natCast, m1, hl]⟩) rfl hq
    ·obtain rfl : k = a.2.2.length := by omega
     refine ⟨n, by rw [ndAt_app_len], fun ins hl hq => ?_⟩
     have e : (a.2.1 ++ [f]).getD a.2.2.length [] = f := by rw [List.getD_eq_getElem?_getD, List.getElem?_append_right (by rw [b1.len]; exact Nat.le_refl _), b1.len, Nat.sub_self]; rfl
     rw [e]
     exact hnew ins hl hq
   ·simp only [List.length_append, List.length_singleton, cap]
    omega
end Go.Proofs.YtojnnfihpiegoaaDoor
namespace Go.Proofs.YtojnnfihpiegoaaDoor
open Go.RowKit
set_option maxRecDepth 100000
set_option linter.unusedVariables false
set_option linter.unusedSimpArgs false

/-- a key as it lies -/
structure KyH where
 A : Option Addr
 zs : List Int
 c : Nat
def KyH.val (x : KyH) : Value := .slice x.A x.zs.length x.c
/-- the block of a key -/
def kyBlk (t : KyH) (g : Nat) : Prop := t.val.ownBlock = some g
def KI (B : Nat) (t : KyH) (w : World) : Prop := OwnIA w B t.val t.zs
theorem kyBlk_lt {t : KyH} {w : World} {B g : Nat} (h : KI B t w) (hg : kyBlk t g) : g < w.heap.size ∧ B ≤ g := own_lt' h hg
section
variable {B : Nat} {t : KyH} {w w' : World}
theorem KI.ext (h : KI B t w) (hb : Below w.heap.size w w') : KI B t w' := OwnI.ext h hb
theorem KI.kept (h : KI B t w) {S : Nat → Prop} (hk : Kept S w w') (hs : ∀ g, kyBlk t g → ¬ S g) : KI B t w' := hk.own h hs
theorem KI.ints (h : KI B t w) : Ints w t.A t.zs := OwnI.reads h
/-- a key lies apart from a row of another kind -/
theorem KI.far (h : KI B t w) {b n m : Nat} {e : TypeId} {u : Value} {xs : List Value} (hr : w.ownsRow b e m u n xs) (h2 : e ≠ 3) : ∀ g, kyBlk t g → u.ownBlock ≠ some g := fun g hg hu => own_ne hr h h2 hu hg
end
/-- the keys, the nodes -/
structure PpS (B : Nat) (kv ov : Value) (ts : List KyH) (os : List Hd) (w : World) : Prop where
 krow : w.ownsRow B 31 1 kv ts.length (ts.map KyH.val)
 out : OwnNA w B ov os
 kt : ∀ t ∈ ts, KI B t w
def PpT (kv ov : Value) : Nat → Prop := fun g => kv.ownBlock = some g ∨ ov.ownBlock = some g
/-- what a call does -/
structure PpC (B : Nat) (W : World) (kv ov : Value) (ts : List KyH) (os : List Hd) (fh : KyH) (kv2 ov2 : Value) (ts2 : List KyH) (os2 : List Hd) (w : World) : Prop where
 wk : PpS B kv2 ov2 ts2 os2 w
 kp : Kept (PpT kv ov) W w
 mkv : Moved kv kv2 W
 mo : Moved ov ov2 W
 new : NewIn os os2 W
 newk : ∀ t ∈ ts2, t ∈ ts ∨ t = fh ∨ ∀ g, kyBlk t g → W.heap.size ≤ g
/-- the loop over the states: acc are the new elements -/
structure PpL (B : Nat) (lv : Int) (gX : Nat) (W : World) (kv ov : Value) (ts : List KyH) (os : List Hd) (fh : KyH) (acc : List Int) (kv1 ov1 : Value) (ts1 : List KyH) (os1 : List Hd) (xv : Value) (wr : World) : Prop where
 wk : PpS B kv1 ov1 ts1 os1 wr
 f : KI B fh wr
 kp : Kept (PpT kv ov) W wr
 mkv : Moved kv kv1 W
 mo : Moved ov ov1 W
 new : NewIn os os1 W
 newk : ∀ t ∈ ts1, t ∈ ts ∨ ∀ g, kyBlk t g → W.heap.size ≤ g
 G : Blk wr gX 53 #[.int .i64 lv, xv]
 R : OwnIA wr W.heap.size xv acc
 ne : ∀ x ∈ os1, ∀ g, x.val.ownBlock = some g → xv.ownBlock ≠ some g
 nef : ∀ g, kyBlk fh g → xv.ownBlock ≠ some g ∧ g ≠ gX
 nek : ∀ t ∈ ts1, ∀ g, kyBlk t g → xv.ownBlock ≠ some g ∧ g ≠ gX
 hX : W.heap.size ≤ gX
 neX : ov1.ownBlock ≠ some gX
section
variable {B : Nat} {lv : Int} {gX : Nat} {W : World} {kv ov : Value} {ts : List KyH} {os : List Hd} {fh : KyH} {acc : List Int} {kv1 ov1 : Value} {ts1 : List KyH} {os1 : List Hd} {xv : Value} {wr w : World}
theorem PpS.ext (h : PpS B kv ov ts os w) (hb : Below w.heap.size w wr) : PpS B kv ov ts os wr := ⟨own_below h.krow hb, h.out.ext hb, fun t ht => (h.kt t ht).ext hb⟩
theorem Kept.ppT (h1 : Kept (PpT kv ov) W wr) (hk : Moved kv kv1 W) (hm : Moved ov ov1 W) (h2 : Kept (PpT kv1 ov1) wr w) : Kept (PpT kv ov) W w := by
 refine ⟨h1.below.trans h2.below, fun g hg hs => ?_⟩
 refine (h2.block g (Nat.lt_of_lt_of_le hg h1.below.size) ?_).trans (h1.block g hg hs)
 rintro (e | e)
 ·rcases hk with hk | ⟨g', hk, hg'⟩
  ·exact hs (.inl (by rw [← hk]; exact e))
  ·rw [hk] at e
   injection e with e
   omega
 ·rcases hm with hm | ⟨g', hm, hg'⟩
  ·exact hs (.inr (by rw [← hm]; exact e))
  ·rw [hm] at e
   injection e with e
   omega
theorem PpS.below (h : PpS B kv ov ts os W) (hk : Kept (PpT kv ov) W w) (hB : B ≤ W.heap.size) : Below B W w :=
 hk.to_below hB fun g hg e => by
  rcases e with e | e
  ·have := (own_lt' h.krow e).2; omega
  ·have := (own_lt' h.out.1 e).2; omega
theorem PpL.ext (h : PpL B lv gX W kv ov ts os fh acc kv1 ov1 ts1 os1 xv wr) (hb : Below wr.heap.size wr w) : PpL B lv gX W kv ov ts os fh acc kv1 ov1 ts1 os1 xv w :=
 ⟨h.wk.ext hb, h.f.ext hb, h.kp.trans (Kept.of_new _ hb), h.mkv, h.mo, h.new, h.newk, h.G.below hb h.G.lt, h.R.ext hb, h.ne, h.nef, h.nek, h.hX, h.neX⟩
theorem PpL.start (hW : PpS B kv ov ts os W) (hf : KI B fh W) {w3 : World} (hb : Below W.heap.size W w3) (hG : Blk w3 gX 53 #[.int .i64 lv, .slice none 0 0]) (hX : W.heap.size ≤ gX) :
  PpL B lv gX W kv ov ts os fh [] kv ov ts os (.slice none 0 0) w3 := by
 refine ⟨hW.ext hb, hf.ext hb, Kept.of_new _ hb, .inl rfl, .inl rfl, fun x hx => .inl hx, fun t ht => .inl ht, hG, OwnI.nil _ _ _, fun x hx g e => by simp [Value.ownBlock], fun g hg => ⟨by simp [Value.ownBlock], ?_⟩, fun t ht g hg => ⟨by simp [Value.ownBlock], ?_⟩, hX, fun he => ?_⟩
 ·have := (kyBlk_lt hf hg).1; omega
 ·have := (kyBlk_lt (hW.kt t ht) hg).1; omega
 ·have := (own_lt' hW.out.1 he).1; omega
/-- the row of the elements lies apart from all that a call turns -/
theorem PpL.far (h : PpL B lv gX W kv ov ts os fh acc kv1 ov1 ts1 os1 xv wr) : (∀ g, xv.ownBlock = some g → ¬ PpT kv1 ov1 g) ∧ ¬ PpT kv1 ov1 gX := by
 refine ⟨fun g e => ?_, ?_⟩
 ·rintro (e2 | e2)
  ·exact own_ne h.R h.wk.krow (by decide) e e2
  ·exact own_ne h.R h.wk.out.1 (by decide) e e2
 ·rintro (e | e)
  ·exact own_blk_ne' h.wk.krow h.G (by decide) e
  ·exact h.neX e
/-- a call with a new key -/
theorem PpL.call (h : PpL B lv gX W kv ov ts os fh acc kv1 ov1 ts1 os1 xv wr) {gh : KyH} {wg : World} (hbg : Below wr.heap.size wr wg) (hgn : ∀ g, kyBlk gh g → wr.heap.size ≤ g) {kv2 ov2 : Value} {ts2 : List KyH} {os2 : List Hd} {w5 : World} (hc : PpC B wg kv1 ov1 ts1 os1 gh kv2 ov2 ts2 os2 w5) :
  PpL B lv gX W kv ov ts os fh acc kv2 ov2 ts2 os2 xv w5 := by
 have h' := h.ext hbg
 obtain ⟨f1, f2⟩ := h'.far
 have hsz := hbg.size
 have hxlt : ∀ g, xv.ownBlock = some g → g < wr.heap.size := fun g e => (own_lt' h.R e).1
 have hWs := h.kp.below.size
 have key : ∀ t, (t ∈ ts1 ∨ t = gh ∨ ∀ g, kyBlk t g → wg.heap.size ≤ g) → ∀ g, kyBlk t g → xv.ownBlock ≠ some g ∧ g ≠ gX := fun t ht g hg => by
  rcases ht with ht | ht | ht
  ·exact h.nek t ht g hg
  ·subst ht
   have h1 := hgn g hg
   exact ⟨fun e => by have := hxlt g e; omega, fun e => by have := h.G.lt; omega⟩
  ·have h1 := ht g hg
   exact ⟨fun e => by have := hxlt g e; omega, fun e => by have := h.G.lt; omega⟩
 refine ⟨hc.wk, h'.f.kept hc.kp (fun g hg e => ?_), h'.kp.ppT h.mkv h.mo hc.kp, h.mkv.trans hc.mkv h'.kp.below.size, h.mo.trans hc.mo h'.kp.below.size, h.new.trans hc.new h'.kp.below.size, fun t ht => ?_, hc.kp.blk h'.G f2, hc.kp.own h'.R f1, fun x hx g e => ?_, h.nef, fun t ht => key t (hc.newk t ht), h.hX, ?_⟩
 ·rcases e with e | e
  ·exact h'.f.far h'.wk.krow (by decide) g hg e
  ·exact h'.f.far h'.wk.out.1 (by decide) g hg e
 ·rcases hc.newk t ht with h1 | h1 | h1
  ·exact h.newk t h1
  ·subst h1
   exact .inr fun g hg => by have := hgn g hg; omega
  ·exact .inr fun g hg => by have := h1 g hg; omega
 ·rcases hc.new x hx with hx | ⟨g', e', hg⟩
  ·exact h.ne x hx g e
  ·rw [e'] at e
   injection e with e
   intro e2
   have := hxlt g e2
   omega
 ·rcases hc.mo with e | ⟨g, e, hg⟩
  ·rw [e]; exact h.neX
  ·rw [e]; intro e
   injection e with e
   have := h.G.lt
   omega
/-- an element more -/
theorem PpL.push (h : PpL B lv gX W kv ov ts os fh acc kv1 ov1 ts1 os1 xv wr) {z : Int} {xv' : Value} {w6 : World} (ho : OwnIA w6 W.heap.size xv' (acc ++ [z])) (hk : Kept (fun g => xv.ownBlock = some g) wr w6) (hm : Moved xv xv' wr) :
  PpL B lv gX W kv ov ts os fh (acc ++ [z]) kv1 ov1 ts1 os1 xv' (w6.setCell ⟨gX, 1, none⟩ xv') := by
 obtain ⟨f1, f2⟩ := h.far
 have k7 : Kept (fun g => g = gX) w6 (w6.setCell ⟨gX, 1, none⟩ xv') := (Kept.refl (fun g => g = gX) w6).setCell (p := ⟨gX, 1, none⟩) (Or.inl rfl) xv'
 have a0 := hk.own h.wk.krow (fun g e1 e2 => f1 g e2 (.inl e1))
 have a2 : OwnNA w6 B ov1 os1 := h.wk.out.kept hk (fun g e1 e2 => f1 g e2 (.inr e1)) (fun x hx g e1 e2 => h.ne x hx g e1 e2)
 have a3 := hk.blk h.G (own_blk_ne' h.R h.G (by decide))
 have hkt : ∀ t, KI B t wr → (∀ g, kyBlk t g → xv.ownBlock ≠ some g ∧ g ≠ gX) → KI B t (w6.setCell ⟨gX, 1, none⟩ xv') := fun t ht hn =>
  (ht.kept hk (fun g hg e => (hn g hg).1 e)).kept k7 (fun g hg e => (hn g hg).2 e)
 have hmv : ∀ t, KI B t wr → (∀ g, kyBlk t g → xv.ownBlock ≠ some g ∧ g ≠ gX) → ∀ g, kyBlk t g → xv'.ownBlock ≠ some g ∧ g ≠ gX := fun t ht hn g hg => ⟨fun e2 => by
  rcases hm with hm | ⟨g', hm, hg'⟩
  ·rw [hm] at e2
   exact (hn g hg).1 e2
  ·rw [hm] at e2
   injection e2 with e2
   have := (kyBlk_lt ht hg).1
   omega, (hn g hg).2⟩
 refine ⟨⟨k7.own a0 (fun g e1 e2 => by subst e2; exact own_blk_ne' a0 a3 (by decide) e1), a2.kept k7 (fun g e1 e2 => by subst e2; exact h.neX e1) (fun x hx g e1 e2 => by subst e2; exact own_blk_ne' (a2.2 x hx) a3 (by decide) e1), fun t ht => hkt t (h.wk.kt t ht) (h.nek t ht)⟩, hkt fh h.f h.nef,
  (h.kp.over hk (fun g e => (own_lt' h.R e).2)).over k7 (fun g e => by rw [e]; exact h.hX), h.mkv, h.mo, h.new, h.newk, a3.set_ 1 xv', k7.own ho (fun g e1 e2 => by subst e2; exact own_blk_ne' ho a3 (by decide) e1), fun x hx g e1 e2 => ?_, hmv fh h.f h.nef, fun t ht => hmv t (h.wk.kt t ht) (h.nek t ht), h.hX, h.neX⟩
 rcases hm with hm | ⟨g', hm, hg⟩
 ·rw [hm] at e2
  exact h.ne x hx g e1 e2
 ·rw [hm] at e2
  injection e2 with e2
  have := (own_lt' (h.wk.out.2 x hx) e1).1
  omega
/-- the loop is done: the key is laid behind the others -/
theorem PpL.key (h : PpL B lv gX W kv ov ts os fh acc kv1 ov1 ts1 os1 xv wr) {kv' : Value} {w6 : World} (ho : w6.ownsRow B 31 1 kv' (ts1 ++ [fh]).length ((ts1 ++ [fh]).map KyH.val)) (hk : Kept (fun g => kv1.ownBlock = some g) wr w6) (hm : Moved kv1 kv' wr) :
  PpS B kv' ov1 (ts1 ++ [fh]) os1 w6 ∧ Kept (PpT kv ov) W w6 ∧ Moved kv kv' W ∧ Blk w6 gX 53 #[.int .i64 lv, xv] ∧ OwnIA w6 W.heap.size xv acc ∧ (∀ t ∈ ts1 ++ [fh], t ∈ ts ∨ t = fh ∨ ∀ g, kyBlk t g → W.heap.size ≤ g) := by
 have hkt : ∀ t, KI B t wr → KI B t w6 := fun t ht => ht.kept hk (fun g hg e => ht.far h.wk.krow (by decide) g hg e)
 refine ⟨⟨ho, h.wk.out.kept hk (fun g e1 e2 => own_ne h.wk.krow h.wk.out.1 (by decide) e2 e1) (fun x hx g e1 e2 => own_ne h.wk.krow (h.wk.out.2 x hx) (by decide) e2 e1), fun t ht => ?_⟩,
  h.kp.ppT h.mkv h.mo (hk.mono (fun g _ e => .inl e)), h.mkv.trans hm h.kp.below.size, hk.blk h.G (fun e => own_blk_ne' h.wk.krow h.G (by decide) e), hk.own h.R (fun g e1 e2 => own_ne h.wk.krow h.R (by decide) e2 e1), fun t ht => ?_⟩
 ·rcases List.mem_append.1 ht with ht | ht
  ·exact hkt t (h.wk.kt t ht)
  ·rw [List.mem_singleton] at ht
   subst ht
   exact hkt t h.f
 ·rcases List.mem_append.1 ht with ht | ht
  ·rcases h.newk t ht with h1 | h1
   ·exact .inl h1
   ·exact .inr (.inr h1)
  ·rw [List.mem_singleton] at ht
   exact .inr (.inl ht)
/-- .. and the node behind the others -/
theorem PpL.fin (h : PpL B lv gX W kv ov ts os fh acc kv1 ov1 ts1 os1 xv wr) {A : Option Addr} {c : Nat} (hxv : xv = .slice A acc.length c) (hp : 0 < acc.length) {kv' : Value} {w6 : World} {ts' : List KyH} (hS : PpS B kv' ov1 ts' os1 w6) (hK : Kept (PpT kv ov) W w6) (hM : Moved kv kv' W) (hn : ∀ t ∈ ts', t ∈ ts ∨ t = fh ∨ ∀ g, kyBlk t g → W.heap.size ≤ g) (hs : wr.heap.size ≤ w6.heap.size)
  {v9 : Value} {w9 : World} (hN : OwnNA w9 B v9 (os1 ++ [⟨lv, A, c, acc⟩])) (hk : Kept (fun g => ov1.ownBlock = some g) w6 w9) (hm : Moved ov1 v9 w6) :
  PpC B W kv ov ts os fh kv' v9 ts' (os1 ++ [⟨lv, A, c, acc⟩]) w9 := by
 refine ⟨⟨hk.own hS.krow (fun g e1 e2 => own_ne hS.krow hS.out.1 (by decide) e1 e2), hN, fun t ht => (hS.kt t ht).kept hk (fun g hg e => (hS.kt t ht).far hS.out.1 (by decide) g hg e)⟩, hK.ppT hM h.mo (hk.mono (fun g _ e => .inr e)), hM, h.mo.trans hm hK.below.size, fun x hx => ?_, hn⟩
 rcases List.mem_append.1 hx with hx | hx
 ·exact h.new x hx
 ·rw [List.mem_singleton] at hx
  subst hx
  obtain ⟨g, c', e, hg, -⟩ := h.R.some_ hp
  rw [hxv] at e
  injection e with e1 e2 e3
  subst e1
  exact .inr ⟨g, rfl, hg⟩
end
theorem PpC.pre {B : Nat} {W : World} {kv ov : Value} {ts : List KyH} {os : List Hd} {fh : KyH} {kv2 ov2 : Value} {ts2 : List KyH} {os2 : List Hd} {w W1 : World} (h : PpC B W1 kv ov ts os fh kv2 ov2 ts2 os2 w) (hb : Below W.heap.size W W1) : PpC B W kv ov ts os fh kv2 ov2 ts2 os2 w :=
 ⟨h.wk, (Kept.of_new _ hb).trans h.kp, h.mkv.down hb.size, h.mo.down hb.size, fun x hx => by
  rcases h.new x hx with h1 | ⟨g, e, hg⟩
  ·exact .inl h1
  ·exact .inr ⟨g, e, Nat.le_trans hb.size hg⟩, fun t ht => by
  rcases h.newk t ht with h1 | h1 | h1
  ·exact .inl h1
  ·exact .inr (.inl h1)
  ·exact .inr (.inr fun g hg => Nat.le_trans hb.size (h1 g hg))⟩
/-- the trees: a row of one's own, what they hold is old -/
structure LT (W0 : World) (B : Nat) (lv : Value) (ls : List TrH) (w : World) : Prop where
 row : w.ownsRow B 25 3 lv ls.length (ls.flatMap TrH.cells)
 rd : ∀ t ∈ ls, Pts W0 t.hA t.ps ∧ Nds W0 t.nA t.hs
section
variable {W0 : World} {B : Nat} {lv : Value} {ls : List TrH} {w w' : World} {kv ov : Value} {ts : List KyH} {os : List Hd}
theorem LT.ext (h : LT W0 B lv ls w) (hb : Below w.heap.size w w') : LT W0 B lv ls w' := ⟨own_below h.row hb, h.rd⟩
theorem LT.kept (h : LT W0 B lv ls w) (hs : PpS B kv ov ts os w) (hk : Kept (PpT kv ov) w w') : LT W0 B lv ls w' :=
 ⟨hk.own h.row (fun g e1 e2 => by
  rcases e2 with e2 | e2
  ·exact own_ne h.row hs.krow (by decide) e1 e2
  ·exact own_ne h.row hs.out.1 (by decide) e1 e2), h.rd⟩
theorem LT.trs (h : LT W0 B lv ls w) (hb : Below B W0 w) (h0 : W0.heap.size ≤ B) : ∃ A c, lv = .slice A ls.length c ∧ Trs w A ls := by
 obtain ⟨A, c, e, h1, -⟩ := own_form h.row
 exact ⟨A, c, e, h1.1, h1.2, fun t ht => ⟨(h.rd t ht).1.ext (hb.mono h0), (h.rd t ht).2.ext (hb.mono h0)⟩⟩
end
/-- a key among the keys -/
theorem PpS.at_ {B : Nat} {kv ov : Value} {ts : List KyH} {os : List Hd} {w : World} (h : PpS B kv ov ts os w) {j : Nat} (hj : j < ts.length) : ∃ b o c, kv = .slice (some ⟨b, o, none⟩) ts.length c ∧ w.cell? ⟨b, o + j, none⟩ = some ts[j].val ∧ Ints w ts[j].A ts[j].zs := by
 obtain ⟨A, c, rfl, hr, -⟩ := own_form h.krow
 obtain ⟨ad, e, hb, hc⟩ := hr.1.2 (by omega)
 have h0 := hc 0 _ (by rw [List.getElem?_map, List.getElem?_eq_getElem (by omega : 0 < ts.length)]; rfl)
 have h1 := hc j _ (by rw [List.getElem?_map, List.getElem?_eq_getElem hj]; rfl)
 obtain ⟨b, o, sp⟩ := ad
 obtain rfl := spot_none h0
 rw [addr_add] at h1
 subst e
 exact ⟨b, o, c, rfl, h1, (h.kt _ (List.getElem_mem hj)).ints⟩
end Go.Proofs.YtojnnfihpiegoaaDoor
namespace Go.Proofs.YtojnnfihpiegoaaDoor
set_option linter.unusedVariables false
set_option linter.unusedSimpArgs false

/-- where a word leads, in a tree -/
theorem down_ok {q : Nat} {M : List Nd} (hM : Lev q M (· < M.length)) : ∀ (pre : List Nat) (k n : Nat), k < M.length → (ndAt M k).1 = ((pre.length + n : Nat) : Int) → 1 ≤ n → (∀ s ∈ pre, s < q) →
  ∃ m, m < M.length ∧ (ndAt M m).1 = (n : Int) ∧ ∀ ins, val M (k : Int) (pre ++ ins) = val M (m : Int) ins
 | [], k, n, hk, hl, hn, _ => ⟨k, hk, by simpa using hl, fun _ => rfl⟩
 | s :: r, k, n, hk, hl, hn, hq => by
  have hs : s < q := hq s (by simp)
  have hl2 : (ndAt M k).1 = ((r.length + n + 1 : Nat) : Int) := by rw [hl, List.length_cons]; omega
  obtain ⟨p1, p2, p3⟩ := hM.kids k hk (by rw [hl2]; omega) _ (getD_mem (s := s) (by rw [hM.len k hk]; exact hs))
  obtain ⟨m, m1, m2, m3⟩ := down_ok hM r ((ndAt M k).2.getD s 0).toNat n p2 (by rw [p3, hl2]; omega) hn (fun x hx => hq x (by simp [hx]))
  refine ⟨m, m1, m2, fun ins => ?_⟩
  rw [← m3 ins, toNat_cast p1]
  show val M ((ndAt M (k : Int).toNat).2.getD s 0) (r ++ ins) = _
  rw [Int.toNat_natCast]
/-- what comes up on the way from the roots -/
def CameBy (T : List (List Nd)) (q L : Nat) (ids0 : List Int) (n : Nat) (ids : List Int) : Prop :=
 ∃ pre : List Nat, pre.length + n = L ∧ (∀ s ∈ pre, s < q) ∧ ∀ ins, valC T ids ins = valC T ids0 (pre ++ ins)
theorem CameBy.root (T : List (List Nd)) (q L : Nat) (ids0 : List Int) : CameBy T q L ids0 L ids0 := ⟨[], by simp, fun s h => absurd h (by simp), fun ins => rfl⟩
theorem CameBy.kid {T : List (List Nd)} {q L : Nat} {ids0 : List Int} (n : Nat) (ids : List Int) (j : Nat) (h : CameBy T q L ids0 (n + 1) ids) (hj : j < q) : CameBy T q L ids0 n (kidsC T ids j) := by
 obtain ⟨pre, h1, h2, h3⟩ := h
 refine ⟨pre ++ [j], by simp; omega, fun s hs => ?_, fun ins => ?_⟩
 ·rcases List.mem_append.1 hs with hs | hs
  ·exact h2 s hs
  ·rw [List.mem_singleton.1 hs]; exact hj
 ·rw [← valC_cons, h3, List.append_assoc]
  rfl
theorem many_le {T : List (List Nd)} {q L : Nat} {ids0 : List Int} {M : List Nd} (hM : Can q L M) (hv : ∀ ins : List Nat, ins.length = L → (∀ s ∈ ins, s < q) → val M ((M.length - 1 : Nat) : Int) ins = valC T ids0 ins) (h : Many T q (CameBy T q L ids0)) : 4096 < M.length := by
 obtain ⟨ns, h1, hV, hD, hall⟩ := h
 have key : ∀ i, i < ns.length → ∃ m, m < M.length ∧ Eqv q ns i M m := by
  intro i hi
  obtain ⟨ids, ⟨pre, e1, e2, e3⟩, e4⟩ := hall i hi
  have ho := hV.lev.one i hi
  obtain ⟨n, hn⟩ : ∃ n : Nat, n = (ndAt ns i).1.toNat := ⟨_, rfl⟩
  have hn2 : (ndAt ns i).1 = (n : Int) := by omega
  rw [← hn] at e1
  obtain ⟨m, m1, m2, m3⟩ := down_ok hM.v.lev pre (M.length - 1) n (by have := hM.pos; omega) (by rw [hM.root, e1]) (by omega) e2
  refine ⟨m, m1, by rw [hn2, m2], fun ins hl hq => ?_⟩
  rw [e4 ins hl hq, e3, ← m3, hv]
  ·rw [List.length_append]; omega
  ·intro s hs
   rcases List.mem_append.1 hs with hs | hs
   ·exact e2 s hs
   ·exact hq s hs
 have hf : ∀ i (hi : i < ns.length), (key i hi).choose < M.length ∧ Eqv q ns i M (key i hi).choose := fun i hi => (key i hi).choose_spec
 have hle := pigeon M.length ((List.range ns.length).map fun i => if hi : i < ns.length then (key i hi).choose else 0) (nodup_map List.nodup_range fun i hi j hj e => by
  rw [List.mem_range] at hi hj
  rw [dif_pos hi, dif_pos hj] at e
  have e1 := (hf i hi).2
  have e2 := (hf j hj).2
  rw [← e] at e2
  have h3 := e1.trans e2.symm
  have ho := hV.lev.one i hi
  exact Eqv.uniq hV.lev hD (ndAt ns i).1.toNat i j (by omega) hi hj h3) (fun x hx => by
  obtain ⟨i, hi, rfl⟩ := List.mem_map.1 hx
  rw [List.mem_range] at hi
  rw [dif_pos hi]
  exact (hf i hi).1)
 rw [List.length_map, List.length_range] at hle
 omega
/-- a node's level is at most its place -/
theorem lv_le {q : Nat} {ns : List Nd} (h : VNd q ns) (hq : 0 < q) : ∀ i, i < ns.length → (ndAt ns i).1 ≤ (i : Int) + 1 := by
 intro i
 induction i using Nat.strongRecOn with
 | _ i ih =>
  intro hi
  by_cases h1 : 1 < (ndAt ns i).1
  ·have hm : (ndAt ns i).2.getD 0 0 ∈ (ndAt ns i).2 := getD_mem (by rw [h.lev.len i hi]; exact hq)
   obtain ⟨p1, p2, p3⟩ := h.lev.kids i hi h1 _ hm
   have p4 := h.ordk i hi h1 _ hm
   have := ih ((ndAt ns i).2.getD 0 0).toNat (by omega) p2
   omega
  ·omega
theorem ps_le {t : PT} (h : t.right = true) : t.ps.length ≤ t.ns.length := by
 obtain ⟨a1, a2, a3, a4, a5, a6, a7, a8, a9⟩ := rightN_parts h
 have := lv_le a8 (by omega) (t.ns.length - 1) (by omega)
 omega
/-- the nodes that the reference makes -/
def rchsN (b : PT) (l : List PT) : List Nd := (prodR ((b :: l).map PT.ns) b.st.toNat b.ps.length ((b :: l).map rootOf) ([], [])).2.2
def rchooseT (b : PT) (l : List PT) : PT × Int :=
 if (b :: l).any badT then (PT.zero, 11) else
 if (l.length : Int) ≠ b.st then (PT.zero, 2) else
 if (b :: l).any (difT b) then (PT.zero, 2) else
 if 4096 < (redN chR (rchsN b l)).length then (PT.zero, 6) else (⟨b.st, b.ps, redN chR (rchsN b l)⟩, 0)
/-- the trees as they are -/
theorem rchs_trees {b : PT} {l : List PT} (hr : (b :: l).any badT = false) (hl : (l.length : Int) = b.st) (hd : l.any (difT b) = false) :
  TV b.st.toNat ((b :: l).map PT.ns) ∧ okC ((b :: l).map PT.ns) b.st.toNat b.ps.length ((b :: l).map rootOf) ∧ ∀ ins : List Nat, ins.length = b.ps.length → (∀ s ∈ ins, s < b.st.toNat) →
   valC ((b :: l).map fun t => (redT t).ns) ((b :: l).map fun t => rootOf (redT t)) ins = valC ((b :: l).map PT.ns) ((b :: l).map rootOf) ins := by
 obtain ⟨all, hall⟩ : ∃ all, all = b :: l := ⟨_, rfl⟩
 rw [← hall] at hr ⊢
 have hright : ∀ t ∈ all, t.right = true := fun t ht => by
  rw [List.any_eq_false] at hr
  have := hr t ht
  unfold badT at this
  simpa using this
 have hsame : ∀ t ∈ all, t.st = b.st ∧ t.ps = b.ps := fun t ht => by
  rw [hall] at ht
  rcases List.mem_cons.1 ht with ht | ht
  ·rw [ht]; exact ⟨rfl, rfl⟩
  ·rw [List.any_eq_false] at hd
   have := hd t ht
   unfold difT at this
   simpa using this
 have hb : b.right = true := hright b (by rw [hall]; simp)
 obtain ⟨a1, -⟩ := rightN_parts hb
 have hlen : all.length = b.st.toNat + 1 := by rw [hall, List.length_cons]; omega
 have hget : ∀ i (hi : i < all.length), (all.map PT.ns).getD i [] = (all[i]).ns := fun i hi => by
  rw [List.getD_eq_getElem?_getD, List.getElem?_map, List.getElem?_eq_getElem hi]
  rfl
 refine ⟨⟨by rw [List.length_map]; exact hlen, fun i hi => ?_⟩, ⟨by rw [List.length_map, List.length_map], fun i hi => ?_⟩, fun ins hli hq => ?_⟩
 ·rw [List.length_map] at hi
  rw [hget i hi]
  obtain ⟨c1, c2, c3, c4, c5, c6, c7, c8, c9⟩ := rightN_parts (hright _ (List.getElem_mem hi))
  rw [(hsame _ (List.getElem_mem hi)).1] at c8
  exact c8
 ·rw [List.length_map] at hi
  have hm := List.getElem_mem hi
  obtain ⟨c1, c2, c3, c4, c5, c6, c7, c8, c9⟩ := rightN_parts (hright _ hm)
  have hg2 : (all.map rootOf).getD i 0 = rootOf (all[i]) := by
   rw [List.getD_eq_getElem?_getD, List.getElem?_map, List.getElem?_eq_getElem hi]
   rfl
  obtain ⟨L1, hL1⟩ : ∃ L1, all[i].ps.length = L1 + 1 := ⟨all[i].ps.length - 1, by
   unfold hoodB at c3
   rw [Bool.and_eq_true, Bool.and_eq_true] at c3
   have := of_decide_eq_true c3.1.1
   omega⟩
  rw [hg2, hget i hi]
  have hrt : (rootOf (all[i])).toNat = (all[i]).ns.length - 1 := by unfold rootOf; omega
  have hps : (all[i]).ps.length = b.ps.length := by rw [(hsame _ hm).2]
  refine ⟨by unfold rootOf; omega, fun h => absurd h (by omega), fun _ => ?_⟩
  rw [hrt]
  exact ⟨by omega, by rw [c6, (hsame _ hm).2]⟩
 ·unfold valC
  have hz : ∀ (ts : List PT) (f : PT → List Nd) (g : PT → Int), ((ts.map f).zip (ts.map g)).map (fun p => val p.1 p.2 ins) = ts.map fun t => val (f t) (g t) ins := fun ts f g => by
   rw [List.zip_map', List.map_map]
   rfl
  rw [hz, hz]
  congr 1
  refine List.map_congr_left fun t ht => ?_
  obtain ⟨r1, r2, r3, r4, r5, r6, r7⟩ := redT_ok (hright t ht)
  obtain ⟨c1, c2, c3, c4, c5, c6, c7, c8, c9⟩ := rightN_parts (hright t ht)
  have e1 : rootOf (redT t) = (((redT t).ns.length - 1 : Nat) : Int) := by unfold rootOf; omega
  have e2 : rootOf t = ((t.ns.length - 1 : Nat) : Int) := by unfold rootOf; omega
  rw [e1, e2]
  exact r4.2 ins (by rw [r4.1, c6, (hsame t ht).2, hli]) (fun s hs => by rw [(hsame t ht).1]; exact hq s hs)
/-- what the reference's nodes are -/
theorem rchs_ok {b : PT} {l : List PT} (hr : (b :: l).any badT = false) (hl : (l.length : Int) = b.st) (hd : l.any (difT b) = false) :
  VNd b.st.toNat (rchsN b l) ∧ 0 < (rchsN b l).length ∧ (ndAt (rchsN b l) ((rchsN b l).length - 1)).1 = (b.ps.length : Int) ∧ (rchsN b l).length ≤ cap b.st.toNat b.ps.length ∧ Can b.st.toNat b.ps.length (redN chR (rchsN b l)) ∧
   ∀ ins : List Nat, ins.length = b.ps.length → (∀ s ∈ ins, s < b.st.toNat) → val (redN chR (rchsN b l)) (((redN chR (rchsN b l)).length - 1 : Nat) : Int) ins = valC ((b :: l).map PT.ns) ((b :: l).map rootOf) ins := by
 obtain ⟨t1, t2, -⟩ := rchs_trees hr hl hd
 have hbr : b.right = true := by
  have := (List.any_eq_false.1 hr) b (by simp)
  unfold badT at this
  simpa using this
 obtain ⟨a1, a2, a3, a4, a5, a6, a7, a8, a9⟩ := rightN_parts hbr
 have hp1 : 1 ≤ b.ps.length := by
  unfold hoodB at a3
  rw [Bool.and_eq_true, Bool.and_eq_true] at a3
  exact of_decide_eq_true a3.1.1
 unfold rchsN
 obtain ⟨T, hT⟩ : ∃ T, T = (b :: l).map PT.ns := ⟨_, rfl⟩
 obtain ⟨ids, hids⟩ : ∃ ids, ids = (b :: l).map rootOf := ⟨_, rfl⟩
 obtain ⟨q, hq⟩ : ∃ q, q = b.st.toNat := ⟨_, rfl⟩
 rw [← hT, ← hids, ← hq]
 rw [← hT, ← hq] at t1
 rw [← hT, ← hids, ← hq] at t2
 obtain ⟨L1, hL1⟩ : ∃ L1, b.ps.length = L1 + 1 := ⟨b.ps.length - 1, by omega⟩
 have h25 : L1 + 1 ≤ 25 := by omega
 rw [hL1] at t2 ⊢
 have hx := prodR_ok t1 (L1 + 1) ids ([], []) t2 (RI.nil T q)
 have hlast : ∃ a : List Int × RS, prodR T q (L1 + 1) ids ([], []) = ((a.2.2.length : Int), (a.2.1 ++ [ids], a.2.2 ++ [(((L1 + 1 : Nat) : Int), a.1)])) := ⟨kidsR (prodR T q L1) (kidsC T ids) q ([], []), rfl⟩
 obtain ⟨a, ha⟩ := hlast
 rw [ha] at hx ⊢
 dsimp only at hx ⊢
 have hlen : (a.2.2 ++ [(((L1 + 1 : Nat) : Int), a.1)]).length - 1 = a.2.2.length := by simp
 have hroot : (ndAt (a.2.2 ++ [(((L1 + 1 : Nat) : Int), a.1)]) ((a.2.2 ++ [(((L1 + 1 : Nat) : Int), a.1)]).length - 1)).1 = ((L1 + 1 : Nat) : Int) := by rw [hlen, ndAt_app_len]
 have hpos : 0 < (a.2.2 ++ [(((L1 + 1 : Nat) : Int), a.1)]).length := by simp
 have hred := redN_ok hx.i.v (chR_chg _) hpos (by rw [hroot]; omega)
 rw [show chgL chR (a.2.2 ++ [(((L1 + 1 : Nat) : Int), a.1)]) = (a.2.2 ++ [(((L1 + 1 : Nat) : Int), a.1)]) from by unfold chgL chR; simp] at hred
 refine ⟨hx.i.v, hpos, hroot, by simpa using hx.size, red_can hx.i.v (chR_chg _) hpos (by omega) hroot, fun ins hli hqi => ?_⟩
 rw [hred.2.2.2.1.2 _ (by rw [hred.2.2.2.1.1, hroot, hli]) hqi, hlen]
 exact hx.lead ins hli hqi
theorem choose_eq (b : PT) (l : List PT) : chooseT b l = rchooseT b l := by
 unfold chooseT rchooseT
 cases hr : (b :: l).any badT with
 | true => rfl
 | false =>
  by_cases hl : (l.length : Int) = b.st
  ·have hbd : difT b b = false := by simp [difT]
   have hda : (b :: l).any (difT b) = l.any (difT b) := by rw [List.any_cons, hbd, Bool.false_or]
   rw [hda]
   cases hd : l.any (difT b) with
   | true => rfl
   | false =>
    simp only [hl, ne_eq, not_true_eq_false, if_false, Bool.false_eq_true]
    obtain ⟨c1, c2, c3, c4, c5, c6, c7⟩ := chs_trees rfl hr hl hd
    obtain ⟨-, -, d3⟩ := rchs_trees hr hl hd
    obtain ⟨e1, e2, e3, e4, e5, e6⟩ := rchs_ok hr hl hd
    have hM : ∀ ins : List Nat, ins.length = b.ps.length → (∀ s ∈ ins, s < b.st.toNat) → val (redN chR (rchsN b l)) (((redN chR (rchsN b l)).length - 1 : Nat) : Int) ins = valC ((b :: l).map fun t => (redT t).ns) ((b :: l).map fun t => rootOf (redT t)) ins := fun ins h1 h2 => by rw [e6 ins h1 h2, d3 ins h1 h2]
    obtain ⟨T, hT⟩ : ∃ T, T = (b :: l).map fun t => (redT t).ns := ⟨_, rfl⟩
    obtain ⟨ids, hids⟩ : ∃ ids, ids = (b :: l).map fun t => rootOf (redT t) := ⟨_, rfl⟩
    rw [← hT] at c1 c2 hM ⊢
    rw [← hids] at c2 hM ⊢
    have hp := prodC_ok (R := CameBy T b.st.toNat b.ps.length ids) c1 CameBy.kid b.ps.length ids ([], []) (CInv.start _ _ _) c2 (CameBy.root _ _ _ _)
    cases hpc : prodC T b.st.toNat b.ps.length ids ([], []) with
    | none =>
     rw [hpc] at hp
     have := many_le e5 hM hp
     dsimp only
     rw [if_pos this]
    | some p =>
     obtain ⟨k, s⟩ := p
     rw [hpc] at hp
     obtain ⟨h1, -, h2, -, h3, h4, -⟩ := hp
     obtain ⟨h5, h6⟩ := h3 c6
     have hcan : Can b.st.toNat b.ps.length (ord s.1 100 k.toNat) := ord_can h1.v.lev h1.dis (fun i hi => h1.v.low i hi) (by omega) h6 h5
     obtain ⟨o1, o2, o3, o4, o5, o6⟩ := ord_ok h1.v.lev h1.dis (f := 100) (root := k.toNat) (by rw [h6]; omega) h5
     have he : ord s.1 100 k.toNat = redN chR (rchsN b l) := hcan.uniq e5 (by omega) fun ins hli hq => by
      rw [hM ins hli hq, ← h4 ins hli hq, o5.2 ins (by rw [o5.1, h6, hli]) hq, toNat_cast h2]
     dsimp only
     rw [he]
  ·rw [if_neg (by decide), if_pos hl, if_neg (by decide), if_pos hl]
end Go.Proofs.YtojnnfihpiegoaaDoor
