/-
  cellularref14.row. No condition but bounds, and that the list holds what f says.
-/
import Derived.Test.YtmlhkbgifnifdaaDoorZRowM
import Derived.Test.YtmlhkbgifnifdaaDoorZG21
namespace Go.Proofs.YtmlhkbgifnifdaaDoor
open Go.RowKit Go.Maps
set_option maxRecDepth 100000
set_option linter.unusedVariables false
set_option linter.unusedSimpArgs false

/-- a tree in new memory -/
def RetAN (t : PT) (w : World) (e : Ending) (w' : World) : Prop := ∃ A c B d os, e = .returned (.agg #[.int .i64 t.st, .slice A t.ps.length c, .slice B os.length d]) ∧ Pts w' A t.ps ∧ NewA w.heap.size A ∧ OwnNA w' w.heap.size (.slice B os.length d) os ∧ os.map Hd.nd = t.ns ∧ Below w.heap.size w w'
theorem row_ps {q : Nat} {f : Nat → Nat → Nat → Int} (hq : 2 ≤ q) (hq8 : q ≤ 8) (hf : ∀ x y z, x < q → y < q → z < q → 0 ≤ f x y z ∧ f x y z < (q : Int)) :
    (redT ⟨(q : Int), rowP, rowN q f⟩).st = q ∧ (redT ⟨(q : Int), rowP, rowN q f⟩).ps = rowP := by
  obtain ⟨r1, r2, r3, r4⟩ := rowN_ok hf
  have hlen : (rowN q f).length - 1 = q * (q + 1) := by omega
  have hsz : q * (q + 1) ≤ 8 * 9 := Nat.mul_le_mul hq8 (by omega)
  have hlv : (ndAt (rowN q f) ((rowN q f).length - 1)).1 = 3 := by
    have := r4.lv
    rw [Int.toNat_natCast] at this
    rw [hlen]; exact this
  have hr : PT.right ⟨(q : Int), rowP, rowN q f⟩ = true :=
    rightN_of (st := (q : Int)) (ps := rowP) (ns := rowN q f) (by omega) (by omega) (by decide) (by omega) (by omega) hlv (by rw [Int.toNat_natCast]; exact r1) r2
  unfold redT
  rw [if_pos hr]
  exact ⟨rfl, rfl⟩
theorem mul_b {a : Int} {x : Nat} (h : 0 ≤ a ∧ a ≤ 100) (hx : x ≤ 8) : 0 ≤ a * (x : Int) ∧ a * (x : Int) ≤ 800 := by
  have h1 : a * (x : Int) ≤ 100 * 8 := Int.mul_le_mul h.2 (by omega) (by omega) (by omega)
  exact ⟨Int.mul_nonneg h.1 (by omega), by omega⟩
theorem mid_len {q : Nat} {f : Nat → Nat → Nat → Int} {ns : List Nd} {x : Nat} : ∀ y, (midTo q f ns x y).1.length = ns.length + y ∧ (midTo q f ns x y).2.length = y
  | 0 => ⟨rfl, rfl⟩
  | y + 1 => by
    obtain ⟨h1, h2⟩ := mid_len (q := q) (f := f) (ns := ns) (x := x) y
    exact ⟨by show ((midTo q f ns x y).1 ++ _).length = _; rw [List.length_append, h1]; rfl, by show ((midTo q f ns x y).2 ++ _).length = _; rw [List.length_append, h2]; rfl⟩
theorem root_len {q : Nat} {f : Nat → Nat → Nat → Int} : ∀ x, (rootTo q f x).1.length = x * (q + 1) ∧ (rootTo q f x).2.length = x
  | 0 => ⟨by simp [rootTo], rfl⟩
  | x + 1 => by
    obtain ⟨h1, h2⟩ := root_len (q := q) (f := f) x
    obtain ⟨m1, m2⟩ := mid_len (q := q) (f := f) (ns := (rootTo q f x).1) (x := x) q
    exact ⟨by show ((midTo q f (rootTo q f x).1 x q).1 ++ _).length = _; rw [List.length_append, m1, h1, Nat.succ_mul, List.length_singleton]; omega, by show ((rootTo q f x).2 ++ _).length = _; rw [List.length_append, h2]; rfl⟩
theorem leaf_take {q : Nat} {f : Nat → Nat → Nat → Int} {x y z : Nat} (h : z < q) : (leafL q f x y).take (z + 1) = (leafL q f x y).take z ++ [f x y z] := by
  have hl : (leafL q f x y).length = q := by simp [leafL]
  rw [List.take_succ_eq_append_getElem (by rw [hl]; exact h)]
  congr 2
  unfold leafL
  simp
structure RrwJ (V : World) (W0 : World) (gX : Nat) (lv : Int) (acc : List Int) (xv : Value) (z : Int) (lv0 : Value) (a : Int) (x : Nat) (ax : Int) (b : Int) (y : Nat) (b2y : Int) (s1 : Int) (c : Int) (zn : Nat) (cz : Int) (ixn : Nat) (lb : Nat) (lo : Nat) (b0 b1 b2 b3 b4 b5 b6 b7 b8 b9 b10 b11 b12 b13 b14 b15 b16 b17 b18 b19 : Bool) (v37 v38 v39 v40 v41 v42 v43 v44 v45 v46 v47 v48 v49 v50 v51 v52 v53 v54 v55 : Value) (w : World) : Prop where
  h0 : b0 = true → v37 = .pointer (some ⟨gX, 1, none⟩)
  h1 : b1 = true → v38 = xv
  h2 : b2 = true → v39 = lv0
  h3 : b3 = true → v40 = .int .i64 a
  h4 : b4 = true → v41 = .int .i64 (x : Int)
  h5 : b5 = true → v42 = .int .i64 ax
  h6 : b6 = true → v43 = .int .i64 b
  h7 : b7 = true → v44 = .int .i64 (y : Int)
  h8 : b8 = true → v45 = .int .i64 b2y
  h9 : b9 = true → v46 = .int .i64 s1
  h10 : b10 = true → v47 = .int .i64 c
  h11 : b11 = true → v48 = .int .i64 (zn : Int)
  h12 : b12 = true → v49 = .int .i64 cz
  h13 : b13 = true → v50 = .int .i64 (ixn : Int)
  h14 : b14 = true → v51 = .pointer (some ⟨lb, lo + ixn, none⟩)
  h15 : b15 = true → v52 = .int .i64 z
  h18 : b18 = true → v55 = .pointer (some ⟨gX, 1, none⟩)
  hk : b17 = false → ∀ p : Addr, p.block < V.heap.size → w.cell? p = V.cell? p
  wa : b16 = false → w = V.drew
  wb : b16 = true → b17 = false → v53 = .slice (some ⟨V.heap.size, 0, none⟩) 1 1 ∧ w = V.drew.alloc (.cells #[.int .i64 z] 3)
  wc : b17 = true → b19 = false → ∃ X c, v54 = .slice X (acc.length + 1) c ∧ OwnIA w W0.heap.size (.slice X (acc.length + 1) c) (acc ++ [z]) ∧ Kept (fun g => xv.ownBlock = some g) V w
  wd : b19 = true → ∃ xv2, NxL gX W0 lv (acc ++ [z]) xv2 w
  ord2 : b19 = true → b17 = true ∧ b18 = true
  o1 : b1 = true → b0 = true
  o5 : b5 = true → b3 = true ∧ b4 = true
  o8 : b8 = true → b6 = true ∧ b7 = true
  o9 : b9 = true → b5 = true ∧ b8 = true
  o12 : b12 = true → b10 = true ∧ b11 = true
  o13 : b13 = true → b9 = true ∧ b12 = true
  o14 : b14 = true → b2 = true ∧ b13 = true
  o15 : b15 = true → b14 = true
  o16 : b16 = true → b15 = true
  o17 : b17 = true → b1 = true ∧ b16 = true

set_option maxHeartbeats 32000000 in
theorem rrow_any' (q : Nat) (lA : Option Addr) (lc : Nat) (l : List Int) (a b c : Int) (f : Nat → Nat → Nat → Int) (w : World) (hl : Ints w lA l) (hq1 : 2 ≤ q) (hq8 : q ≤ 8) (ha : 0 ≤ a ∧ a ≤ 100) (hb : 0 ≤ b ∧ b ≤ 100) (hc : 0 ≤ c ∧ c ≤ 100)
    (hfr : ∀ x y z, x < q → y < q → z < q → 0 ≤ f x y z ∧ f x y z < (q : Int))
    (hf : ∀ x y z : Nat, x < q → y < q → z < q → ∃ h : (a * x + b * y + c * z).toNat < l.length, l[(a * x + b * y + c * z).toNat]'h = f x y z) :
    Calls Tryd.prog 44 #[.int .i64 (q : Int), .slice lA l.length lc, .int .i64 a, .int .i64 b, .int .i64 c] w (RetAN (redT ⟨(q : Int), rowP, rowN q f⟩) w) := by
  obtain ⟨w0, hw0⟩ : ∃ w0, w0 = w.alloc (.cells #[.int .i64 0, .slice none 0 0, .slice none 0 0] 31) := ⟨_, rfl⟩
  have hb0 : Below w.heap.size w w0 := by rw [hw0]; exact below_new _ _
  have q0 : Blk w0 w.heap.size 31 #[.int .i64 0, .slice none 0 0, .slice none 0 0] := by rw [hw0]; exact Blk.new _ _ _
  have hlen := hl.le
  have HB0 := Lib.hid hb0
  have HQ0 := Lib.hid q0
  have HW0 := Lib.hid hw0
  have HROW := Lib.hid (rrow_any w0)
  have HLI := Lib.hid hl
  have HQ := Lib.hid (And.intro hq1 hq8)
  have HABC := Lib.hid (And.intro ha (And.intro hb hc))
  have HF := Lib.hid hf
  have HFR := Lib.hid hfr
  clear hb0 q0 hw0 hl hq1 hq8 ha hb hc hf hfr
  go_enter Tryd.func44, Tryd.ntmps44
  go_upto_region 1 with fail
  rw [← HW0.out]
  go_wp2_with (go_at_call 24; refine HROW.out.mono ?_; intro e w1 hx9; obtain ⟨rA, rc, rfl, hpr, hnr, hbr⟩ := hx9; refine Hid.out ?_)
  refine Lib.hid ?_
  obtain ⟨w2, hw2⟩ : ∃ w2, w2 = w1.alloc (.cells #[.int .i64 (q : Int), .slice rA rowP.length rc, .slice none 0 0] 31) := ⟨_, rfl⟩
  obtain ⟨p, hp⟩ : ∃ p, p = w1.heap.size := ⟨_, rfl⟩
  have hb2 : Below w1.heap.size w1 w2 := by rw [hw2]; exact below_new _ _
  have hRW : RW w1.heap.size p (.int .i64 (q : Int)) (.slice rA rowP.length rc) (.slice none 0 0) [] [] (.slice none 0 0) [] (.slice none 0 0) [] w2 :=
    ⟨by rw [hw2, hp]; exact Blk.new _ _ _, OwnN.nil _ _ _ _, rfl, OwnI.nil _ _ _, OwnI.nil _ _ _, fun x hx => absurd hx (by simp), fun x hx => absurd hx (by simp), fun g e => by simp [Value.ownBlock] at e⟩
  have HRW := Lib.hid hRW
  have HB1 : Hid (Below w.heap.size w w1) := Lib.hid (HB0.out.trans (hbr.mono HB0.out.size))
  have HB2 : Hid (Below w1.heap.size w1 w2) := Lib.hid hb2
  have HPR := Lib.hid (And.intro hpr hnr)
  have HQ1 := Lib.hid (HQ0.out.below hbr HQ0.out.lt)
  have HP := Lib.hid hp
  have HW2 := Lib.hid hw2
  have HS1 : Hid (w.heap.size < w1.heap.size) := Lib.hid (HQ0.out.below hbr HQ0.out.lt).lt
  have HLW := Lib.hid (HLI.out.ext HB1.out)
  clear hbr hpr hnr hb2 hRW hp hw2 HROW
  go_upto_region 2 with fail
  rw [← HW2.out, ← HP.out]
  go_wp2
  go_loopw [12, 13] (fun rv iv wr => ∃ (x : Nat) (nv : Value) (os : List Hd), x ≤ q ∧ iv = .int .i64 x ∧ Hid (RW w1.heap.size p (.int .i64 (q : Int)) (.slice rA rowP.length rc) nv os (rootTo q f x).1 rv (rootTo q f x).2 (.slice none 0 0) [] wr) ∧ Hid (Below w1.heap.size w1 wr)) (fun _ iv _ => q - (intOf iv).toNat)
  case atStart => exact ⟨0, _, [], Nat.zero_le _, rfl, HRW, HB2⟩
  case round =>
    clear HRW
    obtain ⟨x, nv, os, hxq, rfl, HR, HBR⟩ := hrel
    have hwx : wrap64 ((x : Int) + 1) = (x : Int) + 1 := by have := HQ.out; unfold wrap64; omega
    by_cases hxl : x < q
    · have HXL := Lib.hid hxl
      have hdx : decide ((x : Int) < (q : Int)) = true := decide_eq_true (by omega)
      obtain ⟨wo, rfl⟩ : ∃ wo : World, wo = wr := ⟨_, rfl⟩
      clear hxq hxl
      go_wp2
      rw [show decide (x < q) = true from decide_eq_true HXL.out]
      go_loopw [14, 15] (fun kv iv wr => ∃ (y : Nat) (nv : Value) (os : List Hd), y ≤ q ∧ iv = .int .i64 y ∧ Hid (RW w1.heap.size p (.int .i64 (q : Int)) (.slice rA rowP.length rc) nv os (midTo q f (rootTo q f x).1 x y).1 u12 (rootTo q f x).2 kv (midTo q f (rootTo q f x).1 x y).2 wr) ∧ Hid (Below w1.heap.size w1 wr)) (fun _ iv _ => q - (intOf iv).toNat)
      case atStart => exact ⟨0, _, os, Nat.zero_le _, rfl, HR, HBR⟩
      case round =>
        clear HR HBR
        obtain ⟨y, nv, os, hyq, rfl, HR, HBR⟩ := hrel
        have hwy : wrap64 ((y : Int) + 1) = (y : Int) + 1 := by have := HQ.out; unfold wrap64; omega
        by_cases hyl : y < q
        · have HYL := Lib.hid hyl
          have hdy : decide ((y : Int) < (q : Int)) = true := decide_eq_true (by omega)
          obtain ⟨Wi, rfl⟩ : ∃ Wi : World, Wi = wr := ⟨_, rfl⟩
          have HX0 := Lib.hid (NxL.new Wi 1)
          obtain ⟨wx, hwx2⟩ : ∃ wx, wx = Wi.alloc (.cells #[.int .i64 1, .slice none 0 0] 59) := ⟨_, rfl⟩
          obtain ⟨gX, hgX⟩ : ∃ gX, gX = Wi.heap.size := ⟨_, rfl⟩
          rw [← hwx2, ← hgX] at HX0
          have HWX := Lib.hid (And.intro hwx2 hgX)
          clear hyq hyl hwx2 hgX
          go_upto_region 11 with fail
          rw [← HWX.out.1, ← HWX.out.2]
          go_wp2
          rw [show decide (y < q) = true from decide_eq_true HYL.out]
          go_loopw [17] (fun iv wj => ∃ (z : Nat) (xv : Value), z ≤ q ∧ iv = .int .i64 z ∧ Hid (NxL gX Wi 1 ((leafL q f x y).take z) xv wj)) (fun iv _ => q - (intOf iv).toNat)
          case atStart => exact ⟨0, _, Nat.zero_le _, rfl, HX0⟩
          case round =>
            clear HX0
            obtain ⟨z, xv, hzq, rfl, HNX⟩ := hrel
            have hwz : wrap64 ((z : Int) + 1) = (z : Int) + 1 := by have := HQ.out; unfold wrap64; omega
            by_cases hzl : z < q
            · have HZL := Lib.hid hzl
              have hdz : decide ((z : Int) < (q : Int)) = true := decide_eq_true (by omega)
              clear hzq hzl
              go_upto_region 14 with fail
              obtain ⟨hix, hlv⟩ := HF.out x y z HXL.out HYL.out HZL.out
              obtain ⟨ixn, hixn⟩ : ∃ ixn, ixn = (a * (x : Int) + b * (y : Int) + c * (z : Int)).toNat := ⟨_, rfl⟩
              have hix' : ixn < l.length := by rw [hixn]; exact hix
              have hlv' : l[ixn]'hix' = f x y z := by subst hixn; exact hlv
              clear hlv hix
              have hbw : Below w.heap.size w wr := HB1.out.trans ((HBR.out.trans (HNX.out.below.mono HBR.out.size)).mono HB1.out.size)
              obtain ⟨lb, lo, eA, hlb, hlc⟩ := (HLI.out.ext hbw).at_ hix'
              rw [hlv'] at hlc
              subst eA
              obtain ⟨acc, hacc⟩ : ∃ acc, acc = (leafL q f x y).take z := ⟨_, rfl⟩
              obtain ⟨zv, hzv⟩ : ∃ zv, zv = f x y z := ⟨_, rfl⟩
              have hst := leaf_take (q := q) (f := f) (x := x) (y := y) HZL.out
              rw [← hacc, ← hzv] at hst
              rw [← hzv] at hlc
              rw [← hacc] at HNX
              have hal : acc.length < 1000000000000 := by rw [hacc, List.length_take]; have := HQ.out; omega
              obtain ⟨xA, xc, exv, -, -⟩ := HNX.out.R.ints
              subst exv
              have HAL := Lib.hid hal
              have HSN2 := Lib.hid hst
              have HGL : Hid (gX < wr.heap.size ∧ wr.cell? ⟨gX, 1, none⟩ = some (.slice xA acc.length xc)) := Lib.hid ⟨HNX.out.G.lt, HNX.out.G.cell_ 1 _ rfl⟩
              have HLC : Hid (lb < wr.heap.size ∧ wr.cell? ⟨lb, lo + ixn, none⟩ = some (.int .i64 zv)) := Lib.hid ⟨hlb, hlc⟩
              obtain ⟨ax, hax⟩ : ∃ ax, ax = a * (x : Int) := ⟨_, rfl⟩
              obtain ⟨b2y, hby⟩ : ∃ b2y, b2y = b * (y : Int) := ⟨_, rfl⟩
              obtain ⟨cz, hcz⟩ : ∃ cz, cz = c * (z : Int) := ⟨_, rfl⟩
              obtain ⟨s1, hs1⟩ : ∃ s1, s1 = ax + b2y := ⟨_, rfl⟩
              rw [← hax, ← hby, ← hcz] at hixn
              have n1 : 0 ≤ ax ∧ ax ≤ 800 := by rw [hax]; exact mul_b HABC.out.1 (by have := HXL.out; have := HQ.out; omega)
              have n2 : 0 ≤ b2y ∧ b2y ≤ 800 := by rw [hby]; exact mul_b HABC.out.2.1 (by have := HYL.out; have := HQ.out; omega)
              have n3 : 0 ≤ cz ∧ cz ≤ 800 := by rw [hcz]; exact mul_b HABC.out.2.2 (by have := HZL.out; have := HQ.out; omega)
              have HMA : Hid (wrap64 (a * (x : Int)) = ax ∧ wrap64 (b * (y : Int)) = b2y ∧ wrap64 (ax + b2y) = s1 ∧ wrap64 (c * (z : Int)) = cz ∧ wrap64 (s1 + cz) = (ixn : Int) ∧ ixn < l.length) := Lib.hid (by
                rw [← hax, ← hby, ← hcz]
                refine ⟨?_, ?_, ?_, ?_, ?_, hix'⟩ <;> unfold wrap64 <;> omega)
              clear hacc hzv hst hal hlb hlc hlv' hix' hixn hbw hax hby hcz hs1 n1 n2 n3
              rw [show decide (z < q) = true from decide_eq_true HZL.out]
              refine wp_region_J (by kernel_rfl) (fun listed act w' => ∃ b0 b1 b2 b3 b4 b5 b6 b7 b8 b9 b10 b11 b12 b13 b14 b15 b16 b17 b18 b19 v37 v38 v39 v40 v41 v42 v43 v44 v45 v46 v47 v48 v49 v50 v51 v52 v53 v54 v55, listed = #[b0, b1, b2, b3, b4, b5, b6, b7, b8, b9, b10, b11, b12, b13, b14, b15, b16, b17, b18, b19] ∧ act = Act.mk #[.int .i64 (q : Int), .slice (some ⟨lb, lo, none⟩) l.length lc, .int .i64 a, .int .i64 b, .int .i64 c, undef, undef, undef, undef, undef, .pointer (some ⟨w.heap.size, 0, none⟩), .pointer (some ⟨p, 0, none⟩), u12, .int .i64 x, u14, .int .i64 y, .pointer (some ⟨gX, 0, none⟩), .int .i64 z, .int .i64 (q : Int), .slice rA rowP.length rc, .agg #[.int .i64 q, .slice rA rowP.length rc, .slice none 0 0], .int .i64 x, .int .i64 (q : Int), .bool true, u24, u25, .int .i64 y, .int .i64 (q : Int), .bool true, u29, u30, .agg #[.int .i64 1, .slice none 0 0], .int .i64 z, .int .i64 (q : Int), .bool true, u35, u36, v37, v38, v39, v40, v41, v42, v43, v44, v45, v46, v47, v48, v49, v50, v51, v52, v53, v54, v55, u56, u57, u58, u59, u60, u61, u62, u63, u64, u65, u66, u67, u68, u69, u70, u71, u72, u73, u74, u75, u76, u77, u78, u79, u80, undef, undef, undef, undef, undef, undef, undef, undef, undef] [] ∧ RrwJ wr Wi gX 1 acc (.slice xA acc.length xc) zv (.slice (some ⟨lb, lo, none⟩) l.length lc) a x ax b y b2y s1 c z cz ixn lb lo b0 b1 b2 b3 b4 b5 b6 b7 b8 b9 b10 b11 b12 b13 b14 b15 b16 b17 b18 b19 v37 v38 v39 v40 v41 v42 v43 v44 v45 v46 v47 v48 v49 v50 v51 v52 v53 v54 v55 w') ?_ ?_ ?_
              · exact ⟨_, _, _, _, _, _, _, _, _, _, _, _, _, _, _, _, _, _, _, _, _, _, _, _, _, _, _, _, _, _, _, _, _, _, _, _, _, _, _, rfl, rfl, ⟨(by simp), (by simp), (by simp), (by simp), (by simp), (by simp), (by simp), (by simp), (by simp), (by simp), (by simp), (by simp), (by simp), (by simp), (by simp), (by simp), (by simp), (fun _ _ _ => rfl), (fun _ => rfl), (by simp), (by simp), (by simp), (by simp), (by simp), (by simp), (by simp), (by simp), (by simp), (by simp), (by simp), (by simp), (by simp), (by simp)⟩⟩
              · rintro i listed act w' hi ⟨b0, b1, b2, b3, b4, b5, b6, b7, b8, b9, b10, b11, b12, b13, b14, b15, b16, b17, b18, b19, v37, v38, v39, v40, v41, v42, v43, v44, v45, v46, v47, v48, v49, v50, v51, v52, v53, v54, v55, rfl, rfl, H⟩
                have hi16 : i < 20 := by
                  obtain ⟨-, o, ho, -⟩ := mem_ready.1 hi
                  exact (Array.getElem?_eq_some_iff.1 ho).1
                obtain rfl | rfl | rfl | rfl | rfl | rfl | rfl | rfl | rfl | rfl | rfl | rfl | rfl | rfl | rfl | rfl | rfl | rfl | rfl | rfl : i = 0 ∨ i = 1 ∨ i = 2 ∨ i = 3 ∨ i = 4 ∨ i = 5 ∨ i = 6 ∨ i = 7 ∨ i = 8 ∨ i = 9 ∨ i = 10 ∨ i = 11 ∨ i = 12 ∨ i = 13 ∨ i = 14 ∨ i = 15 ∨ i = 16 ∨ i = 17 ∨ i = 18 ∨ i = 19 := by omega
                all_goals simp [mem_ready, Region.binds] at hi
                · refine wpOp_hidden rfl fun K hK => ?_
                  go_wp2
                  refine OnlyN.mk (hK.out _ _ ⟨true, _, _, _, _, _, _, _, _, _, _, _, _, _, _, _, _, _, _, _, .pointer (some ⟨gX, 1, none⟩), _, _, _, _, _, _, _, _, _, _, _, _, _, _, _, _, _, _, rfl, rfl, ⟨fun _ => rfl, H.h1, H.h2, H.h3, H.h4, H.h5, H.h6, H.h7, H.h8, H.h9, H.h10, H.h11, H.h12, H.h13, H.h14, H.h15, H.h18, H.hk, H.wa, H.wb, H.wc, H.wd, H.ord2, fun h => rfl, H.o5, H.o8, H.o9, H.o12, H.o13, H.o14, H.o15, H.o16, H.o17⟩⟩)
                · have bAf : b17 = false := by
                    cases hb : b17 with
                    | false => rfl
                    | true => exact absurd (H.o17 hb).1 (by simp [hi])
                  obtain rfl := H.h0 (by simp [hi])
                  have cc := (H.hk bAf ⟨gX, 1, none⟩ HGL.out.1).trans HGL.out.2
                  clear bAf
                  refine wpOp_hidden rfl fun K hK => ?_
                  go_wp2
                  refine OnlyN.mk (hK.out _ _ ⟨_, true, _, _, _, _, _, _, _, _, _, _, _, _, _, _, _, _, _, _, _, (.slice xA acc.length xc), _, _, _, _, _, _, _, _, _, _, _, _, _, _, _, _, _, rfl, rfl, ⟨H.h0, fun _ => rfl, H.h2, H.h3, H.h4, H.h5, H.h6, H.h7, H.h8, H.h9, H.h10, H.h11, H.h12, H.h13, H.h14, H.h15, H.h18, H.hk, H.wa, H.wb, H.wc, H.wd, H.ord2, fun _ => (by simp [hi]), H.o5, H.o8, H.o9, H.o12, H.o13, H.o14, H.o15, H.o16, fun h => ⟨rfl, (H.o17 h).2⟩⟩⟩)
                · refine wpOp_hidden rfl fun K hK => ?_
                  go_wp2
                  refine OnlyN.mk (hK.out _ _ ⟨_, _, true, _, _, _, _, _, _, _, _, _, _, _, _, _, _, _, _, _, _, _, .slice (some ⟨lb, lo, none⟩) l.length lc, _, _, _, _, _, _, _, _, _, _, _, _, _, _, _, _, rfl, rfl, ⟨H.h0, H.h1, fun _ => rfl, H.h3, H.h4, H.h5, H.h6, H.h7, H.h8, H.h9, H.h10, H.h11, H.h12, H.h13, H.h14, H.h15, H.h18, H.hk, H.wa, H.wb, H.wc, H.wd, H.ord2, H.o1, H.o5, H.o8, H.o9, H.o12, H.o13, fun h => ⟨rfl, (H.o14 h).2⟩, H.o15, H.o16, H.o17⟩⟩)
                · refine wpOp_hidden rfl fun K hK => ?_
                  go_wp2
                  refine OnlyN.mk (hK.out _ _ ⟨_, _, _, true, _, _, _, _, _, _, _, _, _, _, _, _, _, _, _, _, _, _, _, .int .i64 a, _, _, _, _, _, _, _, _, _, _, _, _, _, _, _, rfl, rfl, ⟨H.h0, H.h1, H.h2, fun _ => rfl, H.h4, H.h5, H.h6, H.h7, H.h8, H.h9, H.h10, H.h11, H.h12, H.h13, H.h14, H.h15, H.h18, H.hk, H.wa, H.wb, H.wc, H.wd, H.ord2, H.o1, fun h => ⟨rfl, (H.o5 h).2⟩, H.o8, H.o9, H.o12, H.o13, H.o14, H.o15, H.o16, H.o17⟩⟩)
                · refine wpOp_hidden rfl fun K hK => ?_
                  go_wp2
                  refine OnlyN.mk (hK.out _ _ ⟨_, _, _, _, true, _, _, _, _, _, _, _, _, _, _, _, _, _, _, _, _, _, _, _, .int .i64 (x : Int), _, _, _, _, _, _, _, _, _, _, _, _, _, _, rfl, rfl, ⟨H.h0, H.h1, H.h2, H.h3, fun _ => rfl, H.h5, H.h6, H.h7, H.h8, H.h9, H.h10, H.h11, H.h12, H.h13, H.h14, H.h15, H.h18, H.hk, H.wa, H.wb, H.wc, H.wd, H.ord2, H.o1, fun h => ⟨(H.o5 h).1, rfl⟩, H.o8, H.o9, H.o12, H.o13, H.o14, H.o15, H.o16, H.o17⟩⟩)
                · obtain rfl := H.h3 (by simp [hi])
                  obtain rfl := H.h4 (by simp [hi])
                  have hma := HMA.out.1
                  refine wpOp_hidden rfl fun K hK => ?_
                  go_wp2
                  refine OnlyN.mk (hK.out _ _ ⟨_, _, _, _, _, true, _, _, _, _, _, _, _, _, _, _, _, _, _, _, _, _, _, _, _, .int .i64 ax, _, _, _, _, _, _, _, _, _, _, _, _, _, rfl, rfl, ⟨H.h0, H.h1, H.h2, H.h3, H.h4, fun _ => rfl, H.h6, H.h7, H.h8, H.h9, H.h10, H.h11, H.h12, H.h13, H.h14, H.h15, H.h18, H.hk, H.wa, H.wb, H.wc, H.wd, H.ord2, H.o1, fun _ => (by simp [hi]), H.o8, fun h => ⟨rfl, (H.o9 h).2⟩, H.o12, H.o13, H.o14, H.o15, H.o16, H.o17⟩⟩)
                · refine wpOp_hidden rfl fun K hK => ?_
                  go_wp2
                  refine OnlyN.mk (hK.out _ _ ⟨_, _, _, _, _, _, true, _, _, _, _, _, _, _, _, _, _, _, _, _, _, _, _, _, _, _, .int .i64 b, _, _, _, _, _, _, _, _, _, _, _, _, rfl, rfl, ⟨H.h0, H.h1, H.h2, H.h3, H.h4, H.h5, fun _ => rfl, H.h7, H.h8, H.h9, H.h10, H.h11, H.h12, H.h13, H.h14, H.h15, H.h18, H.hk, H.wa, H.wb, H.wc, H.wd, H.ord2, H.o1, H.o5, fun h => ⟨rfl, (H.o8 h).2⟩, H.o9, H.o12, H.o13, H.o14, H.o15, H.o16, H.o17⟩⟩)
                · refine wpOp_hidden rfl fun K hK => ?_
                  go_wp2
                  refine OnlyN.mk (hK.out _ _ ⟨_, _, _, _, _, _, _, true, _, _, _, _, _, _, _, _, _, _, _, _, _, _, _, _, _, _, _, .int .i64 (y : Int), _, _, _, _, _, _, _, _, _, _, _, rfl, rfl, ⟨H.h0, H.h1, H.h2, H.h3, H.h4, H.h5, H.h6, fun _ => rfl, H.h8, H.h9, H.h10, H.h11, H.h12, H.h13, H.h14, H.h15, H.h18, H.hk, H.wa, H.wb, H.wc, H.wd, H.ord2, H.o1, H.o5, fun h => ⟨(H.o8 h).1, rfl⟩, H.o9, H.o12, H.o13, H.o14, H.o15, H.o16, H.o17⟩⟩)
                · obtain rfl := H.h6 (by simp [hi])
                  obtain rfl := H.h7 (by simp [hi])
                  have hma := HMA.out.2.1
                  refine wpOp_hidden rfl fun K hK => ?_
                  go_wp2
                  refine OnlyN.mk (hK.out _ _ ⟨_, _, _, _, _, _, _, _, true, _, _, _, _, _, _, _, _, _, _, _, _, _, _, _, _, _, _, _, .int .i64 b2y, _, _, _, _, _, _, _, _, _, _, rfl, rfl, ⟨H.h0, H.h1, H.h2, H.h3, H.h4, H.h5, H.h6, H.h7, fun _ => rfl, H.h9, H.h10, H.h11, H.h12, H.h13, H.h14, H.h15, H.h18, H.hk, H.wa, H.wb, H.wc, H.wd, H.ord2, H.o1, H.o5, fun _ => (by simp [hi]), fun h => ⟨(H.o9 h).1, rfl⟩, H.o12, H.o13, H.o14, H.o15, H.o16, H.o17⟩⟩)
                · obtain rfl := H.h5 (by simp [hi])
                  obtain rfl := H.h8 (by simp [hi])
                  have hma := HMA.out.2.2.1
                  refine wpOp_hidden rfl fun K hK => ?_
                  go_wp2
                  refine OnlyN.mk (hK.out _ _ ⟨_, _, _, _, _, _, _, _, _, true, _, _, _, _, _, _, _, _, _, _, _, _, _, _, _, _, _, _, _, .int .i64 s1, _, _, _, _, _, _, _, _, _, rfl, rfl, ⟨H.h0, H.h1, H.h2, H.h3, H.h4, H.h5, H.h6, H.h7, H.h8, fun _ => rfl, H.h10, H.h11, H.h12, H.h13, H.h14, H.h15, H.h18, H.hk, H.wa, H.wb, H.wc, H.wd, H.ord2, H.o1, H.o5, H.o8, fun _ => (by simp [hi]), H.o12, fun h => ⟨rfl, (H.o13 h).2⟩, H.o14, H.o15, H.o16, H.o17⟩⟩)
                · refine wpOp_hidden rfl fun K hK => ?_
                  go_wp2
                  refine OnlyN.mk (hK.out _ _ ⟨_, _, _, _, _, _, _, _, _, _, true, _, _, _, _, _, _, _, _, _, _, _, _, _, _, _, _, _, _, _, .int .i64 c, _, _, _, _, _, _, _, _, rfl, rfl, ⟨H.h0, H.h1, H.h2, H.h3, H.h4, H.h5, H.h6, H.h7, H.h8, H.h9, fun _ => rfl, H.h11, H.h12, H.h13, H.h14, H.h15, H.h18, H.hk, H.wa, H.wb, H.wc, H.wd, H.ord2, H.o1, H.o5, H.o8, H.o9, fun h => ⟨rfl, (H.o12 h).2⟩, H.o13, H.o14, H.o15, H.o16, H.o17⟩⟩)
                · refine wpOp_hidden rfl fun K hK => ?_
                  go_wp2
                  refine OnlyN.mk (hK.out _ _ ⟨_, _, _, _, _, _, _, _, _, _, _, true, _, _, _, _, _, _, _, _, _, _, _, _, _, _, _, _, _, _, _, .int .i64 (z : Int), _, _, _, _, _, _, _, rfl, rfl, ⟨H.h0, H.h1, H.h2, H.h3, H.h4, H.h5, H.h6, H.h7, H.h8, H.h9, H.h10, fun _ => rfl, H.h12, H.h13, H.h14, H.h15, H.h18, H.hk, H.wa, H.wb, H.wc, H.wd, H.ord2, H.o1, H.o5, H.o8, H.o9, fun h => ⟨(H.o12 h).1, rfl⟩, H.o13, H.o14, H.o15, H.o16, H.o17⟩⟩)
                · obtain rfl := H.h10 (by simp [hi])
                  obtain rfl := H.h11 (by simp [hi])
                  have hma := HMA.out.2.2.2.1
                  refine wpOp_hidden rfl fun K hK => ?_
                  go_wp2
                  refine OnlyN.mk (hK.out _ _ ⟨_, _, _, _, _, _, _, _, _, _, _, _, true, _, _, _, _, _, _, _, _, _, _, _, _, _, _, _, _, _, _, _, .int .i64 cz, _, _, _, _, _, _, rfl, rfl, ⟨H.h0, H.h1, H.h2, H.h3, H.h4, H.h5, H.h6, H.h7, H.h8, H.h9, H.h10, H.h11, fun _ => rfl, H.h13, H.h14, H.h15, H.h18, H.hk, H.wa, H.wb, H.wc, H.wd, H.ord2, H.o1, H.o5, H.o8, H.o9, fun _ => (by simp [hi]), fun h => ⟨(H.o13 h).1, rfl⟩, H.o14, H.o15, H.o16, H.o17⟩⟩)
                · obtain rfl := H.h9 (by simp [hi])
                  obtain rfl := H.h12 (by simp [hi])
                  have hma := HMA.out.2.2.2.2.1
                  refine wpOp_hidden rfl fun K hK => ?_
                  go_wp2
                  refine OnlyN.mk (hK.out _ _ ⟨_, _, _, _, _, _, _, _, _, _, _, _, _, true, _, _, _, _, _, _, _, _, _, _, _, _, _, _, _, _, _, _, _, .int .i64 (ixn : Int), _, _, _, _, _, rfl, rfl, ⟨H.h0, H.h1, H.h2, H.h3, H.h4, H.h5, H.h6, H.h7, H.h8, H.h9, H.h10, H.h11, H.h12, fun _ => rfl, H.h14, H.h15, H.h18, H.hk, H.wa, H.wb, H.wc, H.wd, H.ord2, H.o1, H.o5, H.o8, H.o9, H.o12, fun _ => (by simp [hi]), fun h => ⟨(H.o14 h).1, rfl⟩, H.o15, H.o16, H.o17⟩⟩)
                · obtain rfl := H.h2 (by simp [hi])
                  obtain rfl := H.h13 (by simp [hi])
                  have hma := HMA.out.2.2.2.2.2
                  refine wpOp_hidden rfl fun K hK => ?_
                  go_wp2
                  refine OnlyN.mk (hK.out _ _ ⟨_, _, _, _, _, _, _, _, _, _, _, _, _, _, true, _, _, _, _, _, _, _, _, _, _, _, _, _, _, _, _, _, _, _, .pointer (some ⟨lb, lo + ixn, none⟩), _, _, _, _, rfl, rfl, ⟨H.h0, H.h1, H.h2, H.h3, H.h4, H.h5, H.h6, H.h7, H.h8, H.h9, H.h10, H.h11, H.h12, H.h13, fun _ => rfl, H.h15, H.h18, H.hk, H.wa, H.wb, H.wc, H.wd, H.ord2, H.o1, H.o5, H.o8, H.o9, H.o12, H.o13, fun _ => (by simp [hi]), fun h => rfl, H.o16, H.o17⟩⟩)
                · have bAf : b17 = false := by
                    cases hb : b17 with
                    | false => rfl
                    | true => exact absurd (H.o16 (H.o17 hb).2) (by simp [hi])
                  obtain rfl := H.h14 (by simp [hi])
                  have cc := (H.hk bAf ⟨lb, lo + ixn, none⟩ HLC.out.1).trans HLC.out.2
                  clear bAf
                  refine wpOp_hidden rfl fun K hK => ?_
                  go_wp2
                  refine OnlyN.mk (hK.out _ _ ⟨_, _, _, _, _, _, _, _, _, _, _, _, _, _, _, true, _, _, _, _, _, _, _, _, _, _, _, _, _, _, _, _, _, _, _, .int .i64 zv, _, _, _, rfl, rfl, ⟨H.h0, H.h1, H.h2, H.h3, H.h4, H.h5, H.h6, H.h7, H.h8, H.h9, H.h10, H.h11, H.h12, H.h13, H.h14, fun _ => rfl, H.h18, H.hk, H.wa, H.wb, H.wc, H.wd, H.ord2, H.o1, H.o5, H.o8, H.o9, H.o12, H.o13, H.o14, fun _ => (by simp [hi]), fun h => rfl, H.o17⟩⟩)
                · have bAf : b17 = false := by
                    cases hb : b17 with
                    | false => rfl
                    | true => exact absurd (H.o17 hb).2 (by simp [hi])
                  obtain rfl := H.h15 (by simp [hi])
                  have hw := H.wa (by simp [hi])
                  have hA := bAf
                  subst hw
                  clear bAf
                  refine wpOp_hidden rfl fun K hK => ?_
                  go_wp2
                  refine OnlyN.mk (hK.out _ _ ⟨_, _, _, _, _, _, _, _, _, _, _, _, _, _, _, _, true, _, _, _, _, _, _, _, _, _, _, _, _, _, _, _, _, _, _, _, .slice (some ⟨wr.heap.size, 0, none⟩) 1 1, _, _, rfl, rfl, ⟨H.h0, H.h1, H.h2, H.h3, H.h4, H.h5, H.h6, H.h7, H.h8, H.h9, H.h10, H.h11, H.h12, H.h13, H.h14, H.h15, H.h18, fun _ p hp => World.cell?_alloc_lt wr _ p hp, fun h => (by cases h), fun _ _ => ⟨rfl, rfl⟩, fun h => absurd h (by rw [hA]; decide), fun h => absurd (H.ord2 h).1 (by rw [hA]; decide), H.ord2, H.o1, H.o5, H.o8, H.o9, H.o12, H.o13, H.o14, H.o15, fun _ => (by simp [hi]), fun h => ⟨(H.o17 h).1, rfl⟩⟩⟩)
                · obtain rfl := H.h1 (by simp [hi])
                  obtain ⟨hv, hw⟩ := H.wb (by simp [hi]) (by simp [hi])
                  obtain ⟨Vd, hVd⟩ : ∃ Vd, Vd = World.drew wr := ⟨_, rfl⟩
                  have hsz : wr.heap.size = Vd.heap.size := by rw [hVd]; rfl
                  rw [← hVd] at hw
                  rw [hsz] at hv
                  subst hw
                  subst hv
                  have hown : OwnIA Vd Wi.heap.size (.slice xA acc.length xc) acc := by rw [hVd]; exact HNX.out.R
                  have hal := HAL.out
                  have hws : Wi.heap.size ≤ Vd.heap.size := by rw [← hsz]; exact HNX.out.below.size
                  have HVD := Lib.hid hVd
                  clear hVd hsz
                  refine wpOp_hidden rfl fun K hK => ?_
                  refine wpList_pushIk rfl _ _ _ rfl Wi.heap.size 3 Tryd.underlying23 Tryd.infoInt _ _ rfl hown _ rfl hal hws ?_
                  intro xv' w6 ho6 hk6 hm6
                  obtain ⟨xA', xc', hxv', -, -⟩ := ho6.ints
                  rw [List.length_append, List.length_singleton] at hxv'
                  subst hxv'
                  have HO6 := Lib.hid ho6
                  have HK6 : Hid (Kept (fun g => Value.ownBlock (.slice xA acc.length xc) = some g) wr w6) := Lib.hid (Kept.trans (by rw [HVD.out]; exact (Kept.refl _ wr).drew) hk6)
                  clear ho6 hk6 hm6 hown hal hws
                  go_wp2
                  refine OnlyN.mk (hK.out _ _ ⟨_, _, _, _, _, _, _, _, _, _, _, _, _, _, _, _, _, true, _, _, _, _, _, _, _, _, _, _, _, _, _, _, _, _, _, _, _, .slice xA' (acc.length + 1) xc', _, rfl, rfl, ⟨H.h0, H.h1, H.h2, H.h3, H.h4, H.h5, H.h6, H.h7, H.h8, H.h9, H.h10, H.h11, H.h12, H.h13, H.h14, H.h15, H.h18, fun h => (by cases h), fun h => absurd h (by simp [hi]), fun _ h => (by cases h), fun _ _ => ⟨_, _, rfl, HO6.out, HK6.out⟩, fun h => absurd (H.ord2 h).1 (by simp [hi]), fun h => ⟨rfl, (H.ord2 h).2⟩, H.o1, H.o5, H.o8, H.o9, H.o12, H.o13, H.o14, H.o15, H.o16, fun _ => (by simp [hi])⟩⟩)
                · refine wpOp_hidden rfl fun K hK => ?_
                  go_wp2
                  refine OnlyN.mk (hK.out _ _ ⟨_, _, _, _, _, _, _, _, _, _, _, _, _, _, _, _, _, _, true, _, _, _, _, _, _, _, _, _, _, _, _, _, _, _, _, _, _, _, .pointer (some ⟨gX, 1, none⟩), rfl, rfl, ⟨H.h0, H.h1, H.h2, H.h3, H.h4, H.h5, H.h6, H.h7, H.h8, H.h9, H.h10, H.h11, H.h12, H.h13, H.h14, H.h15, fun _ => rfl, H.hk, H.wa, H.wb, H.wc, H.wd, fun h => ⟨(H.ord2 h).1, rfl⟩, H.o1, H.o5, H.o8, H.o9, H.o12, H.o13, H.o14, H.o15, H.o16, H.o17⟩⟩)
                · obtain rfl := H.h18 (by simp [hi])
                  obtain ⟨xA', xc', hv, ho6, hk6⟩ := H.wc (by simp [hi]) (by simp [hi])
                  subst hv
                  have hG6 := hk6.blk HNX.out.G (own_blk_ne' HNX.out.R HNX.out.G (by decide))
                  have cx6 := hG6.cell_ 1 (.slice xA acc.length xc) rfl
                  have fx6 := hG6.frozen 1
                  have HN6 := Lib.hid (HNX.out.push ho6 hk6)
                  clear ho6 hk6 hG6
                  refine wpOp_hidden rfl fun K hK => ?_
                  go_wp2
                  refine OnlyN.mk (hK.out _ _ ⟨_, _, _, _, _, _, _, _, _, _, _, _, _, _, _, _, _, _, _, true, _, _, _, _, _, _, _, _, _, _, _, _, _, _, _, _, _, _, _, rfl, rfl, ⟨H.h0, H.h1, H.h2, H.h3, H.h4, H.h5, H.h6, H.h7, H.h8, H.h9, H.h10, H.h11, H.h12, H.h13, H.h14, H.h15, H.h18, fun h => absurd h (by simp [hi]), fun h => absurd h (by simp [hi]), fun _ h => absurd h (by simp [hi]), fun _ h => (by cases h), fun _ => ⟨_, HN6.out⟩, fun _ => (by simp [hi]), H.o1, H.o5, H.o8, H.o9, H.o12, H.o13, H.o14, H.o15, H.o16, H.o17⟩⟩)
              · rintro listed act w' hr ⟨b0, b1, b2, b3, b4, b5, b6, b7, b8, b9, b10, b11, b12, b13, b14, b15, b16, b17, b18, b19, v37, v38, v39, v40, v41, v42, v43, v44, v45, v46, v47, v48, v49, v50, v51, v52, v53, v54, v55, rfl, rfl, H⟩
                have hn := List.eq_nil_iff_forall_not_mem.1 hr
                have r0 := hn 0
                simp [mem_ready, Region.binds] at r0
                subst r0
                have r1 := hn 1
                simp [mem_ready, Region.binds] at r1
                subst r1
                have r2 := hn 2
                simp [mem_ready, Region.binds] at r2
                subst r2
                have r3 := hn 3
                simp [mem_ready, Region.binds] at r3
                subst r3
                have r4 := hn 4
                simp [mem_ready, Region.binds] at r4
                subst r4
                have r5 := hn 5
                simp [mem_ready, Region.binds] at r5
                subst r5
                have r6 := hn 6
                simp [mem_ready, Region.binds] at r6
                subst r6
                have r7 := hn 7
                simp [mem_ready, Region.binds] at r7
                subst r7
                have r8 := hn 8
                simp [mem_ready, Region.binds] at r8
                subst r8
                have r9 := hn 9
                simp [mem_ready, Region.binds] at r9
                subst r9
                have r10 := hn 10
                simp [mem_ready, Region.binds] at r10
                subst r10
                have r11 := hn 11
                simp [mem_ready, Region.binds] at r11
                subst r11
                have r12 := hn 12
                simp [mem_ready, Region.binds] at r12
                subst r12
                have r13 := hn 13
                simp [mem_ready, Region.binds] at r13
                subst r13
                have r14 := hn 14
                simp [mem_ready, Region.binds] at r14
                subst r14
                have r15 := hn 15
                simp [mem_ready, Region.binds] at r15
                subst r15
                have r16 := hn 16
                simp [mem_ready, Region.binds] at r16
                subst r16
                have r17 := hn 17
                simp [mem_ready, Region.binds] at r17
                subst r17
                have r18 := hn 18
                simp [mem_ready, Region.binds] at r18
                subst r18
                have r19 := hn 19
                simp [mem_ready, Region.binds] at r19
                subst r19
                try dsimp only
                obtain ⟨xv2, hn2⟩ := H.wd rfl
                rw [← HSN2.out] at hn2
                have HN7 := Lib.hid hn2
                clear H hr hn hn2
                go_wp2
                go_roundw
                case rel => exact ⟨z + 1, xv2, HZL.out, (by first | rfl | (rw [hwz]; rfl)), HN7⟩
                case measure => (try rw [hwz]); exact meas_step HZL.out
            · obtain rfl : q = z := Nat.le_antisymm (Nat.le_of_not_lt hzl) hzq
              have hlt : (leafL q f x y).take q = leafL q f x y := List.take_of_length_le (by simp [leafL])
              rw [hlt] at HNX
              obtain ⟨ns, hns⟩ : ∃ ns, ns = (midTo q f (rootTo q f x).1 x y).1 := ⟨_, rfl⟩
              obtain ⟨ks, hks⟩ : ∃ ks, ks = (midTo q f (rootTo q f x).1 x y).2 := ⟨_, rfl⟩
              rw [← hns, ← hks] at HR
              have HMID : Hid (midTo q f (rootTo q f x).1 x (y + 1) = (ns ++ [(1, leafL q f x y)], ks ++ [(ns.length : Int)])) := Lib.hid (by rw [hns, hks]; rfl)
              have hsz := (mid_len (q := q) (f := f) (ns := (rootTo q f x).1) (x := x) y)
              rw [(root_len x).1, ← hns, ← hks] at hsz
              have hx8 : x * (q + 1) ≤ 8 * 9 := Nat.mul_le_mul (by have := HXL.out; have := HQ.out; omega) (by have := HQ.out; omega)
              have hosl : os.length = ns.length := by rw [← HR.out.eq, List.length_map]
              have hos : os.length < 1000000000000 := by have := HYL.out; have := HQ.out; omega
              have hksl : ks.length < 1000000000000 := by have := HYL.out; have := HQ.out; omega
              have hRw := HR.out.ext HNX.out.below
              obtain ⟨nA, nc, env, -, -⟩ := hRw.own.nds
              subst env
              obtain ⟨xA, xc, exv, -, -⟩ := HNX.out.R.ints
              subst exv
              have HN : Hid (os.length = ns.length) := Lib.hid hosl
              have hc2 := hRw.blk.cell_ 2 _ rfl
              have hown := hRw.kr
              have hws : w1.heap.size ≤ wr.heap.size := Nat.le_trans HBR.out.size HNX.out.below.size
              have HRw := Lib.hid hRw
              have HOS := Lib.hid hos
              have hos9 : os.length ≤ 9223372036854775807 := by omega
              clear hlt hns hks hsz hx8 hosl hRw hzq hzl hos
              go_wp2_with (at_builtin; refine wpList_pushIk rfl _ _ _ rfl w1.heap.size 3 Tryd.underlying23 Tryd.infoInt _ _ rfl hown _ rfl hksl hws ?_)
              intro kv' w5 ho5 hk5 hn5
              have HR5 := Lib.hid (HRw.out.pushK ho5 hk5 hn5)
              have G5 := hk5.blk HNX.out.G (own_blk_ne' HRw.out.kr HNX.out.G (by decide))
              have R5 : OwnIA w5 w1.heap.size (.slice xA (leafL q f x y).length xc) (leafL q f x y) := hk5.own (own_down HNX.out.R HBR.out.size) (fun g e1 e2 => by have h1 := (own_lt' HNX.out.R e1).2; have h2 := (own_lt' HR.out.kr e2).1; omega)
              have HG5 := Lib.hid G5
              have HRR5 := Lib.hid R5
              have hown7 := HR5.out.own
              have hos := HOS.out
              have hws5 : w1.heap.size ≤ w5.heap.size := Nat.le_trans hws hk5.below.size
              have hp2 := HR5.out.blk.cell_ 2 _ rfl
              have hpf := HR5.out.blk.frozen 2
              have hg0 := G5.cell_ 0 _ rfl
              have hg1 := G5.cell_ 1 _ rfl
              have HWR5 : Hid (Below w1.heap.size w1 w5) := Lib.hid ((HBR.out.trans (HNX.out.below.mono HBR.out.size)).trans (hk5.to_below hws (fun g hg e => by have h1 := (own_lt' HRw.out.kr e).2; omega)))
              have HXX : Hid ((∀ g, u12.ownBlock = some g → (Value.slice xA (leafL q f x y).length xc).ownBlock ≠ some g) ∧ (∀ g, kv'.ownBlock = some g → (Value.slice xA (leafL q f x y).length xc).ownBlock ≠ some g)) := Lib.hid ⟨fun g e1 e2 => by have h1 := (own_lt' HNX.out.R e2).2; have h2 := (own_lt' HR.out.rr e1).1; omega, fun g e1 e2 => by
                have h1 := (own_lt' HNX.out.R e2)
                rcases hn5 with hn | ⟨g', hg, hs⟩
                · rw [hn] at e1; have h2 := (own_lt' HR.out.kr e1).1; omega
                · rw [hg] at e1; injection e1 with e1; omega⟩
              clear hown ho5 hk5 hn5 G5 hksl hws hc2
              go_wp2_with (at_builtin; refine wpList_pushN rfl _ _ _ rfl w1.heap.size 59 3 (by decide) Tryd.underlying29 Tryd.infoNode _ _ rfl hown7 _ _ _ _ R5 rfl hos hws5 ?_)
              intro nv' w7 ho7 hk7 hn7
              obtain ⟨nA7, nc7, env7, -, -⟩ := ho7.nds
              rw [List.length_append, List.length_singleton] at env7
              subst env7
              have b7 := hk7.blk HR5.out.blk (own_blk_ne' HR5.out.own.1 HR5.out.blk (by decide))
              have hp2' := b7.cell_ 2 _ rfl
              have hpf' := b7.frozen 2
              have hRN := HR5.out.node (x := ⟨1, xA, xc, leafL q f x y⟩) HRR5.out ho7 hk7 HXX.out.1 HXX.out.2
              have HW7 : Hid (Below w1.heap.size w1 (w7.setCell ⟨p, 2, none⟩ (.slice nA7 (os.length + 1) nc7))) := Lib.hid ((HWR5.out.trans (hk7.to_below hws5 (fun g hg e => by have h1 := (own_lt' HR5.out.own.1 e).2; omega))).setCell (p := ⟨p, 2, none⟩) (by rw [HP.out]; exact Nat.le_refl _) _)
              have HRN := Lib.hid hRN
              clear hown7 hos hws5 hp2 hpf hg0 hg1 R5 ho7 hk7 hn7 b7 hRN
              go_wp2
              go_roundw
              case rel => exact ⟨y + 1, _, _, HYL.out, (by first | rfl | (rw [hwy]; rfl)), Lib.hid (by rw [HMID.out, ← HN.out]; exact HRN.out), HW7⟩
              case measure => (try rw [hwy]); exact meas_step HYL.out
        · obtain rfl : q = y := Nat.le_antisymm (Nat.le_of_not_lt hyl) hyq
          obtain ⟨ns, hns⟩ : ∃ ns, ns = (midTo q f (rootTo q f x).1 x q).1 := ⟨_, rfl⟩
          obtain ⟨ks, hks⟩ : ∃ ks, ks = (midTo q f (rootTo q f x).1 x q).2 := ⟨_, rfl⟩
          obtain ⟨rs, hrs⟩ : ∃ rs, rs = (rootTo q f x).2 := ⟨_, rfl⟩
          rw [← hns, ← hks, ← hrs] at HR
          have HMID : Hid (rootTo q f (x + 1) = (ns ++ [(2, ks)], rs ++ [(ns.length : Int)])) := Lib.hid (by rw [hns, hks, hrs]; rfl)
          have hsz := (mid_len (q := q) (f := f) (ns := (rootTo q f x).1) (x := x) q)
          rw [(root_len x).1, ← hns, ← hks] at hsz
          have hrl := (root_len (q := q) (f := f) x).2
          rw [← hrs] at hrl
          have hx8 : x * (q + 1) ≤ 8 * 9 := Nat.mul_le_mul (by have := HXL.out; have := HQ.out; omega) (by have := HQ.out; omega)
          have hosl : os.length = ns.length := by rw [← HR.out.eq, List.length_map]
          have hos : os.length < 1000000000000 := by have := HQ.out; omega
          have hrsl : rs.length < 1000000000000 := by have := HXL.out; have := HQ.out; omega
          obtain ⟨nA, nc, env, -, -⟩ := HR.out.own.nds
          subst env
          obtain ⟨kA, kc, ekv, -, -⟩ := HR.out.kr.ints
          subst ekv
          have HN : Hid (os.length = ns.length) := Lib.hid hosl
          have hc2 := HR.out.blk.cell_ 2 _ rfl
          have hown := HR.out.rr
          have hws : w1.heap.size ≤ wr.heap.size := HBR.out.size
          have HOS := Lib.hid hos
          have hos9 : os.length ≤ 9223372036854775807 := by omega
          clear hns hks hrs hsz hrl hx8 hosl hyq hyl hos
          go_wp2_with (at_builtin; refine wpList_pushIk rfl _ _ _ rfl w1.heap.size 3 Tryd.underlying23 Tryd.infoInt _ _ rfl hown _ rfl hrsl hws ?_)
          intro rv' w5 ho5 hk5 hn5
          have HR5 := Lib.hid (HR.out.swap.pushK ho5 hk5 hn5).swap
          have hown7 := HR5.out.own
          have R5 := HR5.out.kr
          have hos := HOS.out
          have hws5 : w1.heap.size ≤ w5.heap.size := Nat.le_trans hws hk5.below.size
          have hp2 := HR5.out.blk.cell_ 2 _ rfl
          have hpf := HR5.out.blk.frozen 2
          have HWR5 : Hid (Below w1.heap.size w1 w5) := Lib.hid (HBR.out.trans (hk5.to_below hws (fun g hg e => by have h1 := (own_lt' HR.out.rr e).2; omega)))
          clear hown ho5 hk5 hn5 hrsl hws hc2
          go_wp2_with (at_builtin; refine wpList_pushN rfl _ _ _ rfl w1.heap.size 59 3 (by decide) Tryd.underlying29 Tryd.infoNode _ _ rfl hown7 _ _ _ _ R5 rfl hos hws5 ?_)
          intro nv' w7 ho7 hk7 hn7
          obtain ⟨nA7, nc7, env7, -, -⟩ := ho7.nds
          rw [List.length_append, List.length_singleton] at env7
          subst env7
          have b7 := hk7.blk HR5.out.blk (own_blk_ne' HR5.out.own.1 HR5.out.blk (by decide))
          have hp2' := b7.cell_ 2 _ rfl
          have hpf' := b7.frozen 2
          have hRN := HR5.out.dropK.node (x := ⟨2, kA, kc, ks⟩) HR5.out.kr ho7 hk7 HR5.out.rk (fun g e => by simp [Value.ownBlock] at e)
          have HW7 : Hid (Below w1.heap.size w1 (w7.setCell ⟨p, 2, none⟩ (.slice nA7 (os.length + 1) nc7))) := Lib.hid ((HWR5.out.trans (hk7.to_below hws5 (fun g hg e => by have h1 := (own_lt' HR5.out.own.1 e).2; omega))).setCell (p := ⟨p, 2, none⟩) (by rw [HP.out]; exact Nat.le_refl _) _)
          have HRN := Lib.hid hRN
          clear hown7 hos hws5 hp2 hpf R5 ho7 hk7 hn7 b7 hRN
          go_wp2
          go_roundw
          case rel => exact ⟨x + 1, _, _, HXL.out, (by first | rfl | (rw [hwx]; rfl)), Lib.hid (by rw [HMID.out, ← HN.out]; exact HRN.out), HW7⟩
          case measure => (try rw [hwx]); exact meas_step HXL.out
    · obtain rfl : q = x := Nat.le_antisymm (Nat.le_of_not_lt hxl) hxq
      obtain ⟨ns, hns⟩ : ∃ ns, ns = (rootTo q f q).1 := ⟨_, rfl⟩
      obtain ⟨rs, hrs⟩ : ∃ rs, rs = (rootTo q f q).2 := ⟨_, rfl⟩
      rw [← hns, ← hrs] at HR
      have HROWN : Hid (rowN q f = ns ++ [(3, rs)]) := Lib.hid (by rw [hns, hrs]; rfl)
      have hrl := (root_len (q := q) (f := f) q)
      rw [← hrs, ← hns] at hrl
      have hx8 : q * (q + 1) ≤ 8 * 9 := Nat.mul_le_mul HQ.out.2 (by have := HQ.out; omega)
      have hosl : os.length = ns.length := by rw [← HR.out.eq, List.length_map]
      have hos : os.length < 1000000000000 := by omega
      obtain ⟨nA, nc, env, -, -⟩ := HR.out.own.nds
      subst env
      obtain ⟨kA, kc, ekv, -, -⟩ := HR.out.rr.ints
      subst ekv
      have hp2 := HR.out.blk.cell_ 2 _ rfl
      have hpf := HR.out.blk.frozen 2
      have hown7 := HR.out.own
      have R5 := HR.out.rr
      have hws5 : w1.heap.size ≤ wr.heap.size := HBR.out.size
      have hos9 : os.length ≤ 9223372036854775807 := by omega
      clear hns hrs hrl hx8 hosl hxq hxl
      go_wp2_with (at_builtin; refine wpList_pushN rfl _ _ _ rfl w1.heap.size 59 3 (by decide) Tryd.underlying29 Tryd.infoNode _ _ rfl hown7 _ _ _ _ R5 rfl hos hws5 ?_)
      intro nv' w7 ho7 hk7 hn7
      obtain ⟨nA7, nc7, env7, -, -⟩ := ho7.nds
      rw [List.length_append, List.length_singleton] at env7
      subst env7
      have b7 := hk7.blk HR.out.blk (own_blk_ne' HR.out.own.1 HR.out.blk (by decide))
      have hp2' := b7.cell_ 2 _ rfl
      have hpf' := b7.frozen 2
      have hRN := HR.out.dropR.node (x := ⟨3, kA, kc, rs⟩) HR.out.rr ho7 hk7 (fun g e => by simp [Value.ownBlock] at e) (fun g e => by simp [Value.ownBlock] at e)
      obtain ⟨w8, hw8⟩ : ∃ w8, w8 = w7.setCell ⟨p, 2, none⟩ (.slice nA7 (os.length + 1) nc7) := ⟨_, rfl⟩
      have hb8 : Below w1.heap.size w1 w8 := by rw [hw8]; exact (HBR.out.trans (hk7.to_below hws5 (fun g hg e => by have h1 := (own_lt' HR.out.own.1 e).2; omega))).setCell (p := ⟨p, 2, none⟩) (by rw [HP.out]; exact Nat.le_refl _) _
      rw [← hw8] at hRN
      have hred := rreduce_own (q : Int) rA rc rowP nA7 nc7 (os ++ [⟨3, kA, kc, rs⟩]) w8 (HPR.out.1.ext hb8) (OwnN.reads hRN.own)
      rw [List.length_append, List.length_singleton] at hred
      have hts := row_ps (q := q) (f := f) HQ.out.1 HQ.out.2 HFR.out
      rw [hRN.eq, show ns ++ [Hd.nd ⟨3, kA, kc, rs⟩] = rowN q f from HROWN.out.symm] at hred
      obtain ⟨t, ht⟩ : ∃ t, t = redT ⟨(q : Int), rowP, rowN q f⟩ := ⟨_, rfl⟩
      rw [← ht] at hred hts
      have HTEQ := Lib.hid ht
      have HTS := Lib.hid hts
      have HRED := Lib.hid hred
      clear ht hts
      have c0 := hRN.blk.cell_ 0 _ rfl
      have c1 := hRN.blk.cell_ 1 _ rfl
      have c2 := hRN.blk.cell_ 2 _ rfl
      have HB8 := Lib.hid hb8
      have HW8 := Lib.hid hw8
      clear hown7 hos hws5 hp2 hpf R5 ho7 hk7 hn7 b7 hRN hw8 hb8 hred
      go_upto_region 20 with fail
      rw [← HW8.out]
      clear hp2' hpf'
      go_wp2_with (go_at_call 66; refine HRED.out.mono ?_; intro e w9 hx; obtain ⟨A9, c9, nv9, os9, rfl, hA9, hp9, ho9, he9, hb9⟩ := hx; refine Hid.out ?_)
      refine Lib.hid ?_
      obtain ⟨B9, d9, env9, hn9, -⟩ := ho9.nds
      subst env9
      have hb19 : Below w1.heap.size w1 w9 := HB8.out.trans (hb9.mono HB8.out.size)
      have HQ9 := Lib.hid (HQ1.out.below hb19 HS1.out)
      have d0 := HQ9.out.cell_ 0 (.int .i64 0) rfl
      have d1 := HQ9.out.cell_ 1 (.slice none 0 0) rfl
      have d2 := HQ9.out.cell_ 2 (.slice none 0 0) rfl
      have g0 := HQ9.out.frozen 0
      have g1 := HQ9.out.frozen 1
      have g2 := HQ9.out.frozen 2
      have HB9 := Lib.hid (HB1.out.trans (hb19.mono HB1.out.size))
      have hA : A9 = rA := by
        rcases hA9 with h | h
        · exact h
        · rw [HTS.out.2] at h; exact absurd h (by decide)
      have hnew : NewA w0.heap.size A9 := by rw [hA]; exact HPR.out.2
      have hw0s : w.heap.size < w0.heap.size := HQ0.out.lt
      have HPT := Lib.hid (And.intro hp9 (And.intro hnew hw0s))
      have HOW := Lib.hid (And.intro ho9 he9)
      have hps3 : t.ps.length ≤ 9223372036854775807 := hp9.le
      have hos9 : os9.length ≤ 9223372036854775807 := hn9.le
      have HS8 : Hid (w.heap.size < w8.heap.size) := Lib.hid (Nat.lt_of_lt_of_le HS1.out HB8.out.size)
      clear c0 c1 c2 hA9 hp9 ho9 he9 hn9 hb9 hb19 hA hnew hw0s HRED
      go_wp2
      have hq : Blk (((w9.setCell ⟨w.heap.size, 0, none⟩ (.int .i64 t.st)).setCell ⟨w.heap.size, 1, none⟩ (.slice A9 t.ps.length c9)).setCell ⟨w.heap.size, 2, none⟩ (.slice B9 os9.length d9)) w.heap.size 31 #[.int .i64 t.st, .slice A9 t.ps.length c9, .slice B9 os9.length d9] := ((HQ9.out.set_ 0 (.int .i64 t.st)).set_ 1 (.slice A9 t.ps.length c9)).set_ 2 (.slice B9 os9.length d9)
      have hk3 : Kept (fun g => g = w.heap.size) w9 (((w9.setCell ⟨w.heap.size, 0, none⟩ (.int .i64 t.st)).setCell ⟨w.heap.size, 1, none⟩ (.slice A9 t.ps.length c9)).setCell ⟨w.heap.size, 2, none⟩ (.slice B9 os9.length d9)) := (((Kept.refl (fun g => g = w.heap.size) w9).setCell (p := ⟨w.heap.size, 0, none⟩) (Or.inl rfl) _).setCell (p := ⟨w.heap.size, 1, none⟩) (Or.inl rfl) _).setCell (p := ⟨w.heap.size, 2, none⟩) (Or.inl rfl) _
      have hs8 := HS8.out
      have hsw : w.heap.size ≤ w8.heap.size := Nat.le_of_lt hs8
      have hno := HOW.out.1.kept hk3 (fun g e1 e2 => by have h1 := (own_lt' HOW.out.1.1 e1).2; omega) (fun y hy g e1 e2 => by have h1 := (own_lt' (HOW.out.1.2 y hy) e1).2; omega)
      have hpo := ((HPT.out.1.set_new (p := ⟨w.heap.size, 0, none⟩) HPT.out.2.1 HPT.out.2.2 (.int .i64 t.st)).set_new (p := ⟨w.heap.size, 1, none⟩) HPT.out.2.1 HPT.out.2.2 (.slice A9 t.ps.length c9)).set_new (p := ⟨w.heap.size, 2, none⟩) HPT.out.2.1 HPT.out.2.2 (.slice B9 os9.length d9)
      have hbf := ((HB9.out.setCell (p := ⟨w.heap.size, 0, none⟩) (Nat.le_refl _) (.int .i64 t.st)).setCell (p := ⟨w.heap.size, 1, none⟩) (Nat.le_refl _) (.slice A9 t.ps.length c9)).setCell (p := ⟨w.heap.size, 2, none⟩) (Nat.le_refl _) (.slice B9 os9.length d9)
      rw [← HTEQ.out]
      exact bodyPost_ret (results_cell_row Tryd.results44 _ _ w.heap.size 31 #[.int .i64 t.st, .slice A9 t.ps.length c9, .slice B9 os9.length d9] (0, 0) _ rfl hq Tryd.underlying31 rfl Tryd.sizeTree) rfl
        ⟨A9, c9, B9, d9, os9, rfl, hpo, HPT.out.2.1.mono HB0.out.size, ⟨own_down hno.1 (Nat.le_of_lt hs8), fun y hy => (hno.2 y hy).down (Nat.le_of_lt hs8)⟩, HOW.out.2, hbf⟩
end Go.Proofs.YtmlhkbgifnifdaaDoor
