/-
  cellularref13.expand. No condition but that the tree is valid, and bounds.
-/
import Derived.Test.YtojnnfihpiegoaaDoorZCr
import Derived.Test.YtojnnfihpiegoaaDoorZCq
import Derived.Test.YtojnnfihpiegoaaDoorZRFix
namespace Go.Proofs.YtojnnfihpiegoaaDoor
open Go.RowKit Go.Maps
set_option maxRecDepth 100000
set_option linter.unusedVariables false
set_option linter.unusedSimpArgs false

def RxPost (W0 : World) (B L : Nat) (od : List Nat) (q n : Nat) (kv ov : Value) (ts : List TrH) (os : List Hd) (fh : TrH) (w : World) (e : Ending) (w' : World) : Prop :=
 ∃ kv2 ov2 ts2 os2, e = .returned (.tuple #[.int .i64 (expE L od q n fh.pt (ts.map TrH.pt, os.map Hd.nd)).1, kv2, ov2]) ∧ XpC W0 B w kv ov ts os fh kv2 ov2 ts2 os2 w' ∧ (ts2.map TrH.pt, os2.map Hd.nd) = (expE L od q n fh.pt (ts.map TrH.pt, os.map Hd.nd)).2
theorem lookE_yes {lv : Int} {f : PT} {s : XS} {n k : Nat} (h : k < n) (hh : hitE lv f s k = true) : lookE lv f s (n - k) k = some k := by
 obtain ⟨m, hm⟩ : ∃ m, n - k = m + 1 := ⟨n - k - 1, by omega⟩
 rw [hm]
 unfold lookE
 rw [if_pos hh]
theorem lookE_no {lv : Int} {f : PT} {s : XS} {n k : Nat} (h : k < n) (hh : hitE lv f s k = false) : lookE lv f s (n - k) k = lookE lv f s (n - (k + 1)) (k + 1) := by
 obtain ⟨m, hm⟩ : ∃ m, n - k = m + 1 := ⟨n - k - 1, by omega⟩
 rw [hm, show n - (k + 1) = m by omega]
 show (if hitE lv f s k = true then some k else lookE lv f s m (k + 1)) = _
 rw [if_neg (by rw [hh]; decide)]
theorem zeros_ints {L : Nat} : (List.replicate L (0 : Nat)).map (fun (p : Nat) => (p : Int)) = List.replicate L (0 : Int) := by rw [List.map_replicate]; rfl
/-- the tree that Fix hands back -/
structure FxP (fhA : Option Addr) (gE : PT) (W : World) (gh : TrH) (w : World) : Prop where
 eq : gh.pt = gE
 hA : gh.hA = fhA
 nds : OwnNA w W.heap.size (.slice gh.nA gh.hs.length gh.nc) gh.hs
def vTr (gh : TrH) : Value := .agg #[.int .i64 gh.st, .slice gh.hA gh.ps.length gh.hc, .slice gh.nA gh.hs.length gh.nc]
theorem FxP.ext {fhA : Option Addr} {gE : PT} {W : World} {gh : TrH} {w w' : World} (h : FxP fhA gE W gh w) (hb : Below w.heap.size w w') : FxP fhA gE W gh w' := ⟨h.eq, h.hA, h.nds.ext hb⟩
theorem FxP.kept {fhA : Option Addr} {gE : PT} {W : World} {gh : TrH} {w w' : World} {g : Nat} {cs : Array Value} (h : FxP fhA gE W gh w) (hk : Kept (fun x => x = g) w w') (hb : Blk w g 25 cs) : FxP fhA gE W gh w' :=
 ⟨h.eq, h.hA, h.nds.kept hk (fun x e1 e2 => by subst e2; exact own_blk_ne' h.nds.1 hb (by decide) e1) (fun y hy x e1 e2 => by subst e2; exact own_blk_ne' (h.nds.2 y hy) hb (by decide) e1)⟩
theorem fx_of {fhA : Option Addr} {te : PT × Int} {W w w' : World} {e : Ending} (h : RetTEO fhA te w e w') (hn : te.1.ps ≠ []) (h2 : te.2 = 0) (hW : W.heap.size ≤ w.heap.size) : ∃ gh, e = .returned (.tuple #[vTr gh, .int .i64 0]) ∧ FxP fhA te.1 W gh w' ∧ Below w.heap.size w w' := by
 obtain ⟨A', c, nv, os, rfl, h3, h4, h5, h6, h7⟩ := h
 obtain ⟨nA, nc, rfl, -, -⟩ := h5.nds
 have hA : A' = fhA := h3.resolve_right hn
 refine ⟨⟨te.1.st, A', te.1.ps, c, nA, os, nc⟩, by rw [h2]; rfl, ⟨?_, hA, ⟨own_down h5.1 hW, fun x hx => (h5.2 x hx).down hW⟩⟩, h7⟩
 show (⟨te.1.st, te.1.ps, os.map Hd.nd⟩ : PT) = te.1
 rw [h6]
def kE (L : Nat) (od : List Nat) (q n : Nat) (f : PT) (s : XS) (m : Nat) : List Int × XS := kidsE (expE L od q n) (fixE L od (n + 1) f) m s
structure RxA (W : World) (v : Int) (L : Nat) (kv : Value) (ov : Value) (agF : Value) (oA : Option Addr) (oc : Nat) (b0 b1 b2 b3 b4 b5 b6 b7 b8 b9 : Bool) (v24 v25 v26 v27 v28 v29 v30 v10 v11 v12 : Value) (w : World) : Prop where
 h0 : b0 = true → v24 = agF
 h1 : b1 = true → v25 = .slice oA L oc
 h2 : b2 = true → v26 = .int .i64 L
 h4 : b4 = true → v28 = .int .i64 v
 h5 : b5 = true → v29 = kv
 h6 : b6 = true → v30 = ov
 h7 : b7 = true → v10 = .int .i64 v
 h8 : b8 = true → v11 = kv
 h9 : b9 = true → v12 = ov
 below : Below W.heap.size W w
 h3 : b3 = true → ∃ g, v27 = .slice (some ⟨g, 0, none⟩) L L ∧ Ints w (some ⟨g, 0, none⟩) (List.replicate L (0 : Int))
structure RxB (W : World) (agF : Value) (oc : Nat) (L : Nat) (iN : Nat) (m : Nat) (ob : Nat) (oo : Nat) (p : Nat) (fhA : Option Addr) (gE : PT) (b0 b1 b2 b3 b4 b5 b6 b7 b8 b9 b10 b11 b12 : Bool) (v68 v69 v70 v71 v72 v73 v74 v67 v75 v76 v17 v18 : Value) (w : World) : Prop where
 h0 : b0 = true → v68 = agF
 h1 : b1 = true → v69 = .slice (some ⟨ob, oo, none⟩) L oc
 h2 : b2 = true → v70 = .int .i64 iN
 h3 : b3 = true → v71 = .pointer (some ⟨ob, oo + iN, none⟩)
 h4 : b4 = true → v72 = .int .i64 p
 h5 : b5 = true → v73 = .int .i64 m
 h9 : b9 = true → v76 = .int .i64 0
 h12 : b12 = true → v18 = .int .i64 0
 below : Below W.heap.size W w
 h6 : b6 = true → ∃ gh, v74 = .tuple #[vTr gh, .int .i64 0] ∧ FxP fhA gE W gh w
 h7 : b7 = true → ∃ gh, v67 = .tuple #[vTr gh, .int .i64 0] ∧ FxP fhA gE W gh w
 h8 : b8 = true → ∃ gh, v75 = vTr gh ∧ FxP fhA gE W gh w
 h10 : b10 = true → b11 = false → ∃ g, v17 = .pointer (some ⟨g, 0, none⟩) ∧ Blk w g 25 #[.int .i64 0, .slice none 0 0, .slice none 0 0] ∧ W.heap.size ≤ g
 h11 : b11 = true → ∃ g gh, v17 = .pointer (some ⟨g, 0, none⟩) ∧ Blk w g 25 #[.int .i64 gh.st, .slice gh.hA gh.ps.length gh.hc, .slice gh.nA gh.hs.length gh.nc] ∧ FxP fhA gE W gh w
 o11 : b11 = true → b10 = true
section
variable {W : World} {agF : Value} {oc : Nat} {L : Nat} {iN : Nat} {m : Nat} {ob : Nat} {oo : Nat} {p : Nat} {fhA : Option Addr} {gE : PT} {b0 b1 b2 b3 b4 b5 b6 b7 b8 b9 b10 b11 b12 : Bool} {v68 v69 v70 v71 v72 v73 v74 v67 v75 v76 v17 v18 : Value} {w w' : World}
theorem RxB.world (H : RxB W agF oc L iN m ob oo p fhA gE b0 b1 b2 b3 b4 b5 b6 b7 b8 b9 b10 b11 b12 v68 v69 v70 v71 v72 v73 v74 v67 v75 v76 v17 v18 w) (hb : Below w.heap.size w w') : RxB W agF oc L iN m ob oo p fhA gE b0 b1 b2 b3 b4 b5 b6 b7 b8 b9 b10 b11 b12 v68 v69 v70 v71 v72 v73 v74 v67 v75 v76 v17 v18 w' :=
 ⟨H.h0, H.h1, H.h2, H.h3, H.h4, H.h5, H.h9, H.h12, H.below.trans (hb.mono H.below.size), fun h => (by obtain ⟨gh, x1, x2⟩ := H.h6 h; exact ⟨gh, x1, x2.ext hb⟩), fun h => (by obtain ⟨gh, x1, x2⟩ := H.h7 h; exact ⟨gh, x1, x2.ext hb⟩), fun h => (by obtain ⟨gh, x1, x2⟩ := H.h8 h; exact ⟨gh, x1, x2.ext hb⟩), fun h h2 => (by obtain ⟨g, x1, x2, x3⟩ := H.h10 h h2; exact ⟨g, x1, x2.below hb x2.lt, x3⟩), fun h => (by obtain ⟨g, gh, x1, x2, x3⟩ := H.h11 h; exact ⟨g, gh, x1, x2.below hb x2.lt, x3.ext hb⟩), H.o11⟩
end
set_option maxHeartbeats 32000000 in
theorem rexp_any (W0 : World) (B : Nat) (h0 : W0.heap.size ≤ B) (st : Int) (ps : List (Int × Int)) (h1 : 2 ≤ st) (h2 : st ≤ 8) (hps : ps.length ≤ 9) (oA : Option Addr) (oc : Nat) (od : List Nat) (hO : Ints W0 oA (od.map fun (p : Nat) => (p : Int))) (hod : od.length = ps.length) (hop : ∀ p ∈ od, p < ps.length) :
  ∀ (n : Nat) (fh : TrH) (kv ov : Value) (ts : List TrH) (os : List Hd) (w : World), OkF st ps fh.pt → n ≤ ps.length → XpS W0 B kv ov ts os w → KT W0 B ov fh w → Below B W0 w → B ≤ w.heap.size → XI ps.length od st.toNat (ts.map TrH.pt, os.map Hd.nd) → os.length + cap 8 n ≤ 20000000000 →
  Calls Tryd.prog 54 #[.agg #[.int .i64 fh.st, .slice fh.hA fh.ps.length fh.hc, .slice fh.nA fh.hs.length fh.nc], .slice oA od.length oc, .int .i64 ((ps.length - n : Nat) : Int), kv, ov] w (RxPost W0 B ps.length od st.toNat n kv ov ts os fh w) := by
 have HH0 := Lib.hid h0
 have HST := Lib.hid (And.intro h1 h2)
 have HPS := Lib.hid hps
 have HO := Lib.hid hO
 have HOD := Lib.hid hod
 have HOP := Lib.hid hop
 obtain ⟨q, hq⟩ : ∃ q, q = st.toNat := ⟨_, rfl⟩
 have hsq : st = (q : Int) := by omega
 rw [← hq]
 have HQ : Hid (2 ≤ q ∧ q ≤ 8) := Lib.hid (by omega)
 clear h0 h1 h2 hps hO hop hq
 subst hsq
 intro n
 induction n with
 | zero =>
  intro fh kv ov ts os w hF hn hS hK hb hBw hI hsz
  have HF := Lib.hid hF
  obtain ⟨fst, fhA, fps, fhc, fnA, fhs, fnc⟩ := fh
  obtain rfl : fst = (q : Int) := hF.st
  obtain rfl : fps = ps := hF.ps
  rw [HOD.out, Nat.sub_zero]
  dsimp only
  obtain ⟨fh, hfh⟩ : ∃ fh, fh = (⟨(q : Int), fhA, fps, fhc, fnA, fhs, fnc⟩ : TrH) := ⟨_, rfl⟩
  rw [← hfh] at hK HF ⊢
  have hpt : fh.pt.ns = fhs.map Hd.nd := by rw [hfh]; rfl
  obtain ⟨v, hv⟩ : ∃ v, v = rootV fh.pt (List.replicate fps.length 0) := ⟨_, rfl⟩
  obtain ⟨a1, a2, a3, a4, a5, a6, a7, a8, a9⟩ := rightN_parts HF.out.r
  have hns : OwnNA w B (.slice fnA fhs.length fnc) fhs := by have := hK.nds; rw [hfh] at this; exact this
  have hVAL : ∀ W', Below w.heap.size w W' → ∀ Av cv, Ints W' Av (List.replicate fps.length (0 : Int)) → Calls Tryd.prog 76 #[.agg #[.int .i64 (q : Int), .slice fhA fps.length fhc, .slice fnA fhs.length fnc], .slice Av fps.length cv] W' fun e w' => e = .returned (.int .i64 v) ∧ Below W'.heap.size W' w' := by
   intro W' hW Av cv hA
   have := rvalue_any (q : Int) fhA fps.length fhc fnA fnc fhs Av cv (List.replicate fps.length 0) W' ((OwnN.reads hns).ext hW) (by rw [zeros_ints]; exact hA) q (by rw [← hpt]; have := a8; rwa [HF.out.st, Int.toNat_natCast] at this) (by have := a4; rw [hpt, List.length_map] at this; omega)
    (by rw [← hpt]; have := a6; rw [hpt, List.length_map] at this; rw [hpt, this, HF.out.ps]; simp) (fun s hs => by rw [List.eq_of_mem_replicate hs]; have := HQ.out; omega)
   rw [List.length_replicate] at this
   rw [hv]
   unfold rootV
   rw [hpt, List.length_map]
   exact this
  have HVAL := Lib.hid hVAL
  have HEX : Hid (expE fps.length od q 0 fh.pt (ts.map TrH.pt, os.map Hd.nd) = (v, (ts.map TrH.pt, os.map Hd.nd))) := Lib.hid (by rw [hv]; rfl)
  obtain ⟨w1, hw1⟩ : ∃ w1, w1 = w.alloc (.cells #[.int .i64 (q : Int), .slice fhA fps.length fhc, .slice fnA fhs.length fnc] 25) := ⟨_, rfl⟩
  have hb1 : Below w.heap.size w w1 := by rw [hw1]; exact below_new _ _
  have hp1 : Blk w1 w.heap.size 25 #[.int .i64 (q : Int), .slice fhA fps.length fhc, .slice fnA fhs.length fnc] := by rw [hw1]; exact Blk.new _ _ _
  have HB1 := Lib.hid hb1
  have HP1 := Lib.hid hp1
  have HW1 := Lib.hid hw1
  have HS := Lib.hid hS
  have HK := Lib.hid hK
  obtain ⟨i0, hi0, hz0, hz1, hz2⟩ := info_parts Tryd.infoInt
  have HI0 := Lib.hid (And.intro hi0 (And.intro hz0 (And.intro hz1 hz2)))
  clear a1 a2 a3 a4 a5 a6 a7 a8 a9 hF hn hS hK hb hI hsz hv hVAL hpt hns hfh hb1 hp1 hw1 hi0 hz0 hz1 hz2
  go_enter Tryd.func54, Tryd.ntmps54
  go_upto_region 2 with fail
  rw [← HW1.out]
  refine wp_region_J (by kernel_rfl) (fun listed act w' => ∃ b0 b1 b2 b3 b4 b5 b6 b7 b8 b9 v24 v25 v26 v27 v28 v29 v30 v10 v11 v12, listed = #[b0, b1, b2, b3, b4, b5, b6, b7, b8, b9] ∧ act = Act.mk #[.agg #[.int .i64 (q : Int), .slice fhA fps.length fhc, .slice fnA fhs.length fnc], .slice oA fps.length oc, .int .i64 fps.length, kv, ov, .pointer (some ⟨w.heap.size, 0, none⟩), undef, undef, undef, undef, v10, v11, v12, undef, undef, undef, undef, undef, undef, undef, .int .i64 fps.length, .slice oA fps.length oc, .int .i64 fps.length, .bool true, v24, v25, v26, v27, v28, v29, v30, undef, undef, undef, undef, undef, undef, undef, undef, undef, undef, undef, undef, undef, undef, undef, undef, undef, undef, undef, undef, undef, undef, undef, undef, undef, undef, undef, undef, undef, undef, undef, undef, undef, undef, undef, undef, undef, undef, undef, undef, undef, undef, undef, undef, undef, undef, undef, undef, undef, undef, undef, undef, undef, undef, undef, undef, undef, undef, undef, undef, undef, undef, undef, undef, undef, undef, undef, undef, undef, undef, undef, undef, undef, undef, undef, undef] [] ∧ RxA w1 v fps.length kv ov (.agg #[.int .i64 (q : Int), .slice fhA fps.length fhc, .slice fnA fhs.length fnc]) oA oc b0 b1 b2 b3 b4 b5 b6 b7 b8 b9 v24 v25 v26 v27 v28 v29 v30 v10 v11 v12 w') ?_ ?_ ?_
  ·exact ⟨_, _, _, _, _, _, _, _, _, _, _, _, _, _, _, _, _, _, _, _, rfl, rfl, ⟨(by simp), (by simp), (by simp), (by simp), (by simp), (by simp), (by simp), (by simp), (by simp), (Below.refl _ w1).drew, (by simp)⟩⟩
  ·rintro i listed act w' hi ⟨b0, b1, b2, b3, b4, b5, b6, b7, b8, b9, v24, v25, v26, v27, v28, v29, v30, v10, v11, v12, rfl, rfl, H⟩
   have hi16 : i < 10 := by
    obtain ⟨-, o, ho, -⟩ := mem_ready.1 hi
    exact (Array.getElem?_eq_some_iff.1 ho).1
   obtain rfl | rfl | rfl | rfl | rfl | rfl | rfl | rfl | rfl | rfl : i = 0 ∨ i = 1 ∨ i = 2 ∨ i = 3 ∨ i = 4 ∨ i = 5 ∨ i = 6 ∨ i = 7 ∨ i = 8 ∨ i = 9 := by omega
   all_goals simp [mem_ready, Region.binds] at hi
   ·have p1 := HP1.out.below H.below HP1.out.lt
    have cc0 := p1.cell_ 0 (.int .i64 (q : Int)) rfl
    have cc1 := p1.cell_ 1 (.slice fhA fps.length fhc) rfl
    have cc2 := p1.cell_ 2 (.slice fnA fhs.length fnc) rfl
    clear p1
    refine wpOp_hidden rfl fun K hK => ?_
    go_wp2
    refine OnlyN.mk (hK.out _ _ ⟨true, _, _, _, _, _, _, _, _, _, .agg #[.int .i64 (q : Int), .slice fhA fps.length fhc, .slice fnA fhs.length fnc], _, _, _, _, _, _, _, _, _, rfl, rfl, ⟨fun _ => rfl, H.h1, H.h2, H.h4, H.h5, H.h6, H.h7, H.h8, H.h9, H.below, H.h3⟩⟩)
   ·refine wpOp_hidden rfl fun K hK => ?_
    go_wp2
    refine OnlyN.mk (hK.out _ _ ⟨_, true, _, _, _, _, _, _, _, _, _, .slice oA fps.length oc, _, _, _, _, _, _, _, _, rfl, rfl, ⟨H.h0, fun _ => rfl, H.h2, H.h4, H.h5, H.h6, H.h7, H.h8, H.h9, H.below, H.h3⟩⟩)
   ·obtain rfl := H.h1 (by simp [hi])
    refine wpOp_hidden rfl fun K hK => ?_
    go_wp2
    refine OnlyN.mk (hK.out _ _ ⟨_, _, true, _, _, _, _, _, _, _, _, _, .int .i64 fps.length, _, _, _, _, _, _, _, rfl, rfl, ⟨H.h0, H.h1, fun _ => rfl, H.h4, H.h5, H.h6, H.h7, H.h8, H.h9, H.below, H.h3⟩⟩)
   ·obtain rfl := H.h2 (by simp [hi])
    obtain ⟨hi0, hz0, hz1, hz2⟩ := HI0.out
    have HB0 := Lib.hid H.below
    have hps9 := HPS.out
    refine wpOp_hidden rfl fun K hK => ?_
    refine wpList_make_full _ rfl _ _ 31 rfl w1.heap.size 3 i0 _ 1 Tryd.underlying31 hi0 hz0 hz1 .i64 .i64 fps.length fps.length fps.length rfl rfl rfl rfl (by rw [hz2]; omega) (by unfold maxLen; omega) HB0.out.size ?_
    intro wn hon hgn
    have hbn : Below w'.heap.size w' wn := (Below.refl _ w').grown hgn (Nat.le_refl _) (by intro k hk; cases hk)
    have hrn : OwnIA wn w1.heap.size (.slice (some ⟨w'.heap.size, 0, none⟩) fps.length fps.length) (List.replicate fps.length 0) := by
     unfold OwnIA OwnI
     rw [List.length_replicate, List.map_replicate]
     change wn.ownsRow _ _ _ _ _ (madeCells #[Value.int .i64 0] (fps.length * 1)).toList at hon
     rw [toList_madeCells_one, Nat.mul_one] at hon
     exact hon
    have HRN := Lib.hid (OwnI.reads hrn)
    have HBN := Lib.hid hbn
    clear hon hgn hbn hrn hi0 hz0 hz1 hz2
    go_wp2
    refine OnlyN.mk (hK.out _ _ ⟨_, _, _, true, _, _, _, _, _, _, _, _, _, .slice (some ⟨w'.heap.size, 0, none⟩) fps.length fps.length, _, _, _, _, _, _, rfl, rfl, ⟨H.h0, H.h1, H.h2, H.h4, H.h5, H.h6, H.h7, H.h8, H.h9, H.below.trans (HBN.out.mono H.below.size), fun _ => ⟨_, rfl, HRN.out⟩⟩⟩)
   ·obtain rfl := H.h0 (by simp [hi])
    obtain ⟨g, ev, hg⟩ := H.h3 (by simp [hi])
    subst ev
    have HB0 := Lib.hid H.below
    have HCX := Lib.hid (HVAL.out w' ((HB1.out).trans (HB0.out.mono HB1.out.size)) (some ⟨g, 0, none⟩) fps.length hg)
    clear hg
    refine wpOp_hidden rfl fun K hK => ?_
    go_wp2_with (go_at_call 76; refine HCX.out.mono ?_; intro e w9 hx9; obtain ⟨rfl, hb9⟩ := hx9; refine Hid.out ?_)
    refine Lib.hid ?_
    have HB9 := Lib.hid hb9
    clear hb9 HCX
    go_wp2
    refine OnlyN.mk (hK.out _ _ ⟨_, _, _, _, true, _, _, _, _, _, _, _, _, _, .int .i64 v, _, _, _, _, _, rfl, rfl, ⟨H.h0, H.h1, H.h2, fun _ => rfl, H.h5, H.h6, H.h7, H.h8, H.h9, H.below.trans (HB9.out.mono H.below.size), fun h => (by obtain ⟨g, e1, e2⟩ := H.h3 h; exact ⟨g, e1, e2.ext HB9.out⟩)⟩⟩)
   ·refine wpOp_hidden rfl fun K hK => ?_
    go_wp2
    refine OnlyN.mk (hK.out _ _ ⟨_, _, _, _, _, true, _, _, _, _, _, _, _, _, _, kv, _, _, _, _, rfl, rfl, ⟨H.h0, H.h1, H.h2, H.h4, fun _ => rfl, H.h6, H.h7, H.h8, H.h9, H.below, H.h3⟩⟩)
   ·refine wpOp_hidden rfl fun K hK => ?_
    go_wp2
    refine OnlyN.mk (hK.out _ _ ⟨_, _, _, _, _, _, true, _, _, _, _, _, _, _, _, _, ov, _, _, _, rfl, rfl, ⟨H.h0, H.h1, H.h2, H.h4, H.h5, fun _ => rfl, H.h7, H.h8, H.h9, H.below, H.h3⟩⟩)
   ·obtain rfl := H.h4 (by simp [hi])
    refine wpOp_hidden rfl fun K hK => ?_
    go_wp2
    refine OnlyN.mk (hK.out _ _ ⟨_, _, _, _, _, _, _, true, _, _, _, _, _, _, _, _, _, .int .i64 v, _, _, rfl, rfl, ⟨H.h0, H.h1, H.h2, H.h4, H.h5, H.h6, fun _ => rfl, H.h8, H.h9, H.below, H.h3⟩⟩)
   ·obtain rfl := (H.h5 (by simp [hi])).symm
    refine wpOp_hidden rfl fun K hK => ?_
    go_wp2
    refine OnlyN.mk (hK.out _ _ ⟨_, _, _, _, _, _, _, _, true, _, _, _, _, _, _, _, _, _, kv, _, rfl, rfl, ⟨H.h0, H.h1, H.h2, H.h4, H.h5, H.h6, H.h7, fun _ => rfl, H.h9, H.below, H.h3⟩⟩)
   ·obtain rfl := (H.h6 (by simp [hi])).symm
    refine wpOp_hidden rfl fun K hK => ?_
    go_wp2
    refine OnlyN.mk (hK.out _ _ ⟨_, _, _, _, _, _, _, _, _, true, _, _, _, _, _, _, _, _, _, ov, rfl, rfl, ⟨H.h0, H.h1, H.h2, H.h4, H.h5, H.h6, H.h7, H.h8, fun _ => rfl, H.below, H.h3⟩⟩)
  ·rintro listed act w' hr ⟨b0, b1, b2, b3, b4, b5, b6, b7, b8, b9, v24, v25, v26, v27, v28, v29, v30, v10, v11, v12, rfl, rfl, H⟩
   have hn := List.eq_nil_iff_forall_not_mem.1 hr
   have r0 := hn 0
   simp [mem_ready, Region.binds] at r0
   subst r0
   have r1 := hn 1
   simp [mem_ready, Region.binds] at r1
   subst r1
   have r2 := hn 2
   simp [mem_ready, Region.binds] at r2
   subst r2
   have r3 := hn 3
   simp [mem_ready, Region.binds] at r3
   subst r3
   have r4 := hn 4
   simp [mem_ready, Region.binds] at r4
   subst r4
   have r5 := hn 5
   simp [mem_ready, Region.binds] at r5
   subst r5
   have r6 := hn 6
   simp [mem_ready, Region.binds] at r6
   subst r6
   have r7 := hn 7
   simp [mem_ready, Region.binds] at r7
   subst r7
   have r8 := hn 8
   simp [mem_ready, Region.binds] at r8
   subst r8
   have r9 := hn 9
   simp [mem_ready, Region.binds] at r9
   subst r9
   try dsimp only
   obtain rfl := H.h7 rfl
   obtain rfl := (H.h8 rfl).symm
   obtain rfl := (H.h9 rfl).symm
   have HBL := Lib.hid (HB1.out.trans (H.below.mono HB1.out.size))
   clear H hr hn
   go_wp2
   go_ret3
   refine ⟨kv, ov, ts, os, ?_, ⟨HS.out.ext HBL.out, Kept.of_new _ HBL.out, .inl rfl, .inl rfl, fun x hx => .inl hx, fun t ht => .inl ht⟩, ?_⟩
   ·rw [HEX.out]
    first | rfl | done
   ·rw [HEX.out]
 | succ n ih =>
  intro fh kv ov ts os w hF hn hS hK hb hBw hI hsz
  have HF := Lib.hid hF
  obtain ⟨fst, fhA, fps, fhc, fnA, fhs, fnc⟩ := fh
  obtain rfl : fst = (q : Int) := hF.st
  obtain rfl : fps = ps := hF.ps
  rw [HOD.out]
  dsimp only
  obtain ⟨fh, hfh⟩ : ∃ fh, fh = (⟨(q : Int), fhA, fps, fhc, fnA, fhs, fnc⟩ : TrH) := ⟨_, rfl⟩
  rw [← hfh] at hK HF ⊢
  obtain ⟨iN, hiN⟩ : ∃ iN, iN = fps.length - (n + 1) := ⟨_, rfl⟩
  rw [← hiN]
  have hps9 := HPS.out
  obtain ⟨lv, hlv⟩ : ∃ lv : Int, lv = ((n + 1 : Nat) : Int) := ⟨_, rfl⟩
  have hwl : wrap64 ((fps.length : Int) - (iN : Int)) = lv := by rw [hlv]; unfold wrap64; omega
  have hwi1 : wrap64 ((iN : Int) + 1) = ((fps.length - n : Nat) : Int) := by unfold wrap64; omega
  have HWI1 := Lib.hid hwi1
  have hne : ((iN : Int) == (fps.length : Int)) = false := beq_eq_false_iff_ne.2 (by omega)
  have hne2 : (iN == fps.length) = false := beq_eq_false_iff_ne.2 (by omega)
  have hiL : iN < od.length := by rw [HOD.out]; omega
  have hfn : FxP fhA fh.pt w fh w ∨ True := .inr trivial
  have hkl : ts.length = os.length := by have := hI.len; simpa using this
  have hhood : Pts w fhA fps := by have := hK.hood; rw [hfh] at this; exact this.ext (hb.mono HH0.out)
  have hnds : OwnNA w B (.slice fnA fhs.length fnc) fhs := by have := hK.nds; rw [hfh] at this; exact this
  obtain ⟨kA, kc, ekv, hkr, -⟩ := own_form hS.krow
  obtain ⟨nA, nc, eov, hnd, -⟩ := hS.out.nds
  have htrs : Trs w kA ts := ⟨hkr.1, hkr.2, fun t ht => ⟨(hS.kt t ht).hood.ext (hb.mono HH0.out), OwnN.reads (hS.kt t ht).nds⟩⟩
  subst ekv eov
  have hol : os.length ≤ 20000000000 := by omega
  have hap : ∀ k, k < ts.length → (ts.map TrH.pt).getD k PT.zero = (ts.getD k fh).pt := fun k hk => by
   rw [List.getD_eq_getElem?_getD, List.getElem?_map, List.getElem?_eq_getElem hk, List.getD_eq_getElem?_getD, List.getElem?_eq_getElem hk]; rfl
  have hfat : TreeAt w (.agg #[.int .i64 (q : Int), .slice fhA fps.length fhc, .slice fnA fhs.length fnc]) fh.pt := ⟨fhA, fhc, fnA, fnc, fhs, by rw [hfh]; rfl, by rw [hfh]; exact hhood, OwnN.reads hnds, by rw [hfh]; rfl⟩
  obtain ⟨w1, hw1⟩ : ∃ w1, w1 = w.alloc (.cells #[.int .i64 (q : Int), .slice fhA fps.length fhc, .slice fnA fhs.length fnc] 25) := ⟨_, rfl⟩
  have hb1 : Below w.heap.size w w1 := by rw [hw1]; exact below_new _ _
  have hp1 : Blk w1 w.heap.size 25 #[.int .i64 (q : Int), .slice fhA fps.length fhc, .slice fnA fhs.length fnc] := by rw [hw1]; exact Blk.new _ _ _
  have HFAT := Lib.hid (hfat.ext hb1)
  have HND := Lib.hid (hnd.ext hb1)
  have HTRS := Lib.hid (htrs.ext hb1)
  have HKL := Lib.hid hkl
  have HOL := Lib.hid hol
  have HAP := Lib.hid hap
  have HB1 := Lib.hid hb1
  have HP1 := Lib.hid hp1
  have HW1 := Lib.hid hw1
  have HS := Lib.hid hS
  have HK := Lib.hid hK
  have HB := Lib.hid hb
  have HI := Lib.hid hI
  have HSZ := Lib.hid hsz
  have HFH := Lib.hid hfh
  have HIN := Lib.hid (And.intro hiN (And.intro hn hiL))
  have HLV := Lib.hid hlv
  have HIH := Lib.hid ih
  obtain ⟨s0, hs0⟩ : ∃ s0 : XS, s0 = (ts.map TrH.pt, os.map Hd.nd) := ⟨_, rfl⟩
  have HS0 := Lib.hid hs0
  have c0 := hp1.cell_ 0 (.int .i64 (q : Int)) rfl
  clear hF hn hS hK hb hI hsz hiN hiL hfn hkl hhood hnds hkr hnd htrs hol hap hfat hb1 hp1 hw1 hs0 hwi1 hfh ih hlv hps9
  go_enter Tryd.func54, Tryd.ntmps54
  go_upto_region 5 with fail
  rw [← HW1.out]
  clear c0
  go_loopw [14] (fun iv wr => ∃ k : Nat, k ≤ os.length ∧ iv = .int .i64 k ∧ Hid (Below w1.heap.size w1 wr) ∧ Hid (lookE lv fh.pt s0 os.length 0 = lookE lv fh.pt s0 (os.length - k) k)) (fun iv _ => os.length - (intOf iv).toNat)
  case atStart => exact ⟨0, Nat.zero_le _, rfl, Lib.hid (Below.refl _ _), Lib.hid rfl⟩
  case round =>
   obtain ⟨k, hk, rfl, HBR, HLK⟩ := hrel
   have hwk : wrap64 ((k : Int) + 1) = (k : Int) + 1 := by have := HOL.out; unfold wrap64; omega
   have p1 := HP1.out.below HBR.out HP1.out.lt
   have P0 := cell_regrown (p1.cell_ 0 (.int .i64 (q : Int)) rfl)
   have P1 := cell_regrown (p1.cell_ 1 (.slice fhA fps.length fhc) rfl)
   have P2 := cell_regrown (p1.cell_ 2 (.slice fnA fhs.length fnc) rfl)
   clear p1
   by_cases hko : k < os.length
   ·have hkt : k < ts.length := by rw [HKL.out]; exact hko
    obtain ⟨bn, on, en, -, n0, -, -⟩ := (HND.out.ext HBR.out).at_ hko
    obtain ⟨bk, ok, ek, -, k0, k1, k2, kp, kn⟩ := (HTRS.out.ext HBR.out).at_ hkt
    have hnk : ndAt s0.2 k = os[k].nd := by rw [HS0.out]; exact ndl_at os hko
    have htk : s0.1.getD k PT.zero = ts[k].pt := by rw [HS0.out, HAP.out k hkt, List.getD_eq_getElem?_getD, List.getElem?_eq_getElem hkt]; rfl
    obtain ⟨x, hx⟩ : ∃ x, x = os[k] := ⟨_, rfl⟩
    obtain ⟨t, ht⟩ : ∃ t, t = ts[k] := ⟨_, rfl⟩
    rw [← hx] at n0 hnk
    rw [← ht] at k0 k1 k2 kp kn htk
    obtain ⟨xl, xA, xc, xz⟩ := x
    obtain ⟨tst, thA, tps, thc, tnA, ths, tnc⟩ := t
    dsimp only at n0 k0 k1 k2 kp kn
    have htat : TreeAt wr (.agg #[.int .i64 tst, .slice thA tps.length thc, .slice tnA ths.length tnc]) (TrH.pt ⟨tst, thA, tps, thc, tnA, ths, tnc⟩) := ⟨thA, thc, tnA, tnc, ths, rfl, kp, kn, rfl⟩
    obtain ⟨tp, htp⟩ : ∃ tp, tp = TrH.pt ⟨tst, thA, tps, thc, tnA, ths, tnc⟩ := ⟨_, rfl⟩
    rw [← htp] at htat htk
    have N0 := cell_regrown n0
    have K0 := cell_regrown k0
    have K1 := cell_regrown k1
    have K2 := cell_regrown k2
    have HHIT : Hid (hitE lv fh.pt s0 k = ((xl == lv) && sameP tp fh.pt)) := Lib.hid (by unfold hitE; rw [hnk, htk]; rfl)
    have HKO := Lib.hid hko
    have cC := fun dd oo => Calls.regrown_of (w := wr) (d := dd) (os := oo) (rsamet_at (htat.ext (below_regrown wr dd oo)) ((HFAT.out.ext HBR.out).ext (below_regrown wr dd oo)))
    have CC := Lib.hid cC
    have hkt2 := hkt
    clear cC n0 k0 k1 k2 kp kn hx ht hnk htk htat htp
    subst en ek
    by_cases hlx : xl = lv
    ·have d1 : (xl == lv) = true := by simp [hlx]
     cases hsm : sameP tp fh.pt with
     | true =>
      rw [hsm] at CC
      have HE := Lib.hid (lookE_yes HKO.out (by rw [HHIT.out, d1, hsm]; rfl))
      clear hlx hsm
      go_upto_region 7 with fail
      refine wp_region_quiet_below (by kernel_rfl) (by kernel_rfl) ?_
      repeat (go_big_quiet_step (with_reducible exact CC.out _ _))
      refine wpQuiet_nil ?_
      intro _ hw'
      obtain ⟨⟨dq, osq⟩, hw''⟩ := hw'
      subst hw''
      obtain ⟨wq, hbq, hwq⟩ : ∃ wq, Below wr.heap.size wr wq ∧ wq = _ := ⟨_, below_regrown wr dq osq, rfl⟩
      rw [← hwq]
      have HBQ : Hid (Below w.heap.size w wq) := Lib.hid (HB1.out.trans ((HBR.out.trans (hbq.mono HBR.out.size)).mono HB1.out.size))
      have HEX : Hid (expE fps.length od q (n + 1) fh.pt (ts.map TrH.pt, os.map Hd.nd) = ((k : Int), (ts.map TrH.pt, os.map Hd.nd))) := Lib.hid (by
       rw [← HS0.out]
       unfold expE
       have h1 : s0.2.length = os.length := by rw [HS0.out]; simp
       rw [h1, ← HLV.out, HLK.out, HE.out])
      clear hbq hwq
      go_wp2
      go_ret3
      refine ⟨_, _, ts, os, ?_, ⟨HS.out.ext HBQ.out, Kept.of_new _ HBQ.out, .inl rfl, .inl rfl, fun x hx => .inl hx, fun t ht => .inl ht⟩, ?_⟩
      ·rw [HEX.out]
       first | rfl | done
      ·rw [HEX.out]
     | false =>
      rw [hsm] at CC
      have HE : Hid (lookE lv fh.pt s0 os.length 0 = lookE lv fh.pt s0 (os.length - (k + 1)) (k + 1)) := Lib.hid (HLK.out.trans (lookE_no HKO.out (by rw [HHIT.out, d1, hsm]; rfl)))
      clear hlx hsm
      go_upto_region 7 with fail
      refine wp_region_quiet_below (by kernel_rfl) (by kernel_rfl) ?_
      repeat (go_big_quiet_step (with_reducible exact CC.out _ _))
      refine wpQuiet_nil ?_
      intro _ hw'
      obtain ⟨⟨dq, osq⟩, hw''⟩ := hw'
      subst hw''
      go_wp2
      go_roundw
      case rel => exact ⟨k + 1, HKO.out, (by first | rfl | (rw [hwk]; rfl)), Lib.hid (HBR.out.trans ((below_regrown wr dq osq).mono HBR.out.size)), HE⟩
      case measure => (try rw [hwk]); exact meas_step HKO.out
    ·have d1 : (xl == lv) = false := by simpa using hlx
     have HE : Hid (lookE lv fh.pt s0 os.length 0 = lookE lv fh.pt s0 (os.length - (k + 1)) (k + 1)) := Lib.hid (HLK.out.trans (lookE_no HKO.out (by rw [HHIT.out, d1]; rfl)))
     clear hlx
     go_upto_region 7 with fail
     refine wp_region_quiet_below (by kernel_rfl) (by kernel_rfl) ?_
     repeat (go_big_quiet_step (fail))
     refine wpQuiet_nil ?_
     intro _ hw'
     obtain ⟨⟨dq, osq⟩, hw''⟩ := hw'
     subst hw''
     go_wp2
     go_roundw
     case rel => exact ⟨k + 1, HKO.out, (by first | rfl | (rw [hwk]; rfl)), Lib.hid (HBR.out.trans ((below_regrown wr dq osq).mono HBR.out.size)), HE⟩
     case measure => (try rw [hwk]); exact meas_step HKO.out
   ·have hke : k = os.length := Nat.le_antisymm hk (Nat.le_of_not_lt hko)
    have HNONE : Hid (lookE lv fh.pt s0 os.length 0 = none) := Lib.hid (by rw [HLK.out, hke, Nat.sub_self]; rfl)
    subst hke
    clear P0 P1 P2 hko hk hwk
    go_upto_region 9 with fail
    rw [hwl]
    have hbw : Below w.heap.size w wr := HB1.out.trans (HBR.out.mono HB1.out.size)
    obtain ⟨w3, hw3⟩ : ∃ w3, w3 = wr.alloc (.cells #[.int .i64 lv, .slice none 0 0] 53) := ⟨_, rfl⟩
    have hb3 : Below wr.heap.size wr w3 := by rw [hw3]; exact below_new _ _
    have hG3 : Blk w3 wr.heap.size 53 #[.int .i64 lv, .slice none 0 0] := by rw [hw3]; exact Blk.new _ _ _
    obtain ⟨gX, hgX⟩ : ∃ gX, gX = wr.heap.size := ⟨_, rfl⟩
    rw [← hgX] at hG3
    have hb03 : Below w1.heap.size w1 w3 := HBR.out.trans (hb3.mono HBR.out.size)
    have HS1 := Lib.hid (HS.out.ext HB1.out)
    have HL0 := Lib.hid (XpL.start HS1.out (HK.out.ext HB1.out) hb03 hG3 (by rw [hgX]; exact HBR.out.size))
    have HNB : Hid (¬ XpT (.slice kA ts.length kc) (.slice nA os.length nc) w.heap.size) := Lib.hid (fun e => by
     rcases e with e | e
     ·exact Nat.lt_irrefl _ (own_lt' HS.out.krow e).1
     ·exact Nat.lt_irrefl _ (own_lt' HS.out.out.1 e).1)
    have HW3 := Lib.hid (And.intro hw3 hgX)
    have HEX : Hid (expE fps.length od q (n + 1) fh.pt (ts.map TrH.pt, os.map Hd.nd) = (((kE fps.length od q n fh.pt s0 q).2.2.length : Int), ((kE fps.length od q n fh.pt s0 q).2.1 ++ [fh.pt], (kE fps.length od q n fh.pt s0 q).2.2 ++ [(lv, (kE fps.length od q n fh.pt s0 q).1)]))) := Lib.hid (by
     rw [← HS0.out]
     unfold expE
     have h1 : s0.2.length = os.length := by rw [HS0.out]; simp
     rw [h1, ← HLV.out, HNONE.out]
     rfl)
    clear hbw hw3 hb3 hG3 hgX hb03 hwl hne hne2 HBR HLK
    go_upto_region 10 with fail
    rw [← HW3.out.1, ← HW3.out.2]
    go_wp2
    go_loopw [3, 4, 16] (fun k3 o4 mv wr => ∃ (m : Nat) (ts1 : List TrH) (os1 : List Hd) (xv : Value), m ≤ q ∧ mv = .int .i64 m ∧ Hid (XpL W0 B lv gX w1 (.slice kA ts.length kc) (.slice nA os.length nc) ts os fh (kE fps.length od q n fh.pt s0 m).1 k3 o4 ts1 os1 xv wr) ∧ Hid ((ts1.map TrH.pt, os1.map Hd.nd) = (kE fps.length od q n fh.pt s0 m).2) ∧
     Hid (XI fps.length od q (kE fps.length od q n fh.pt s0 m).2) ∧ Hid (os1.length ≤ os.length + m * cap 8 n) ∧ Hid ((kE fps.length od q n fh.pt s0 m).1.length = m)) (fun _ _ mv _ => q - (intOf mv).toNat)
    case atStart => exact ⟨0, ts, os, _, Nat.zero_le _, rfl, HL0, Lib.hid HS0.out.symm, Lib.hid (by rw [show (kE fps.length od q n fh.pt s0 0).2 = s0 from rfl, HS0.out]; exact HI.out), Lib.hid (by simp), Lib.hid rfl⟩
    case round =>
     clear HL0
     obtain ⟨m, ts1, os1, xv, hm, rfl, HL, HEQ, HXI, HSZ1, HAL⟩ := hrel
     have hwm : wrap64 ((m : Int) + 1) = (m : Int) + 1 := by have := HQ.out; unfold wrap64; omega
     have p1 := HL.out.kp.blk HP1.out HNB.out
     have HPR := Lib.hid p1
     have p0c := p1.cell_ 0 (.int .i64 (q : Int)) rfl
     by_cases hmq : m < q
     ·obtain ⟨ob, oo, eo, hob, ho0⟩ := (HO.out).at_ (k := iN) (by rw [List.length_map]; exact HIN.out.2.2)
      have hgo : od.getD iN 0 = od[iN]'(HIN.out.2.2) := by rw [List.getD_eq_getElem?_getD, List.getElem?_eq_getElem HIN.out.2.2]; rfl
      have hpl := HOP.out _ (List.getElem_mem HIN.out.2.2)
      rw [List.getElem_map] at ho0
      obtain ⟨p, hp⟩ : ∃ p, p = od[iN]'(HIN.out.2.2) := ⟨_, rfl⟩
      rw [← hp] at ho0 hgo hpl
      have hB1 : B ≤ w1.heap.size := Nat.le_trans hBw HB1.out.size
      have hbB : Below B W0 wr := HB.out.trans ((HB1.out.mono hBw).trans (HS1.out.below HL.out.kp hB1))
      have hoc := ((hbB.mono HH0.out).cell (p := ⟨ob, oo + iN, none⟩) hob).trans ho0
      have hfx := fix_ok HF.out (p := p) (s := m) hpl (by rw [Int.toNat_natCast]; exact hmq)
      obtain ⟨te, hte⟩ : ∃ te, te = fixT fh.pt (p : Int) (m : Int) := ⟨_, rfl⟩
      have hfe : fixE fps.length od (n + 1) fh.pt m = te.1 := by unfold fixE; rw [← HIN.out.1, hgo, hte]
      rw [← hte] at hfx
      have hok1 := hfx.1
      have hok2 := hfx.2.1
      have hpsn : te.1.ps ≠ [] := by rw [hok1.ps]; intro e; rw [e] at hpl; simp at hpl
      have hFX : ∀ W', Below wr.heap.size wr W' → Calls Tryd.prog 21 #[.agg #[.int .i64 (q : Int), .slice fhA fps.length fhc, .slice fnA fhs.length fnc], .int .i64 (p : Int), .int .i64 (m : Int)] W' fun e w' => ∃ gh, e = .returned (.tuple #[vTr gh, .int .i64 0]) ∧ FxP fhA te.1 wr gh w' ∧ Below W'.heap.size W' w' := by
       intro W' hW
       have hkt := (HL.out.f).ext hW
       have h1 : Pts W' fhA fps := by have := hkt.hood; rw [HFH.out] at this; exact this.ext ((hbB.mono HH0.out).trans (hW.mono (Nat.le_trans HH0.out (Nat.le_trans hB1 (HL.out.kp.below.size)))))
       have h2 : Nds W' fnA fhs := by have := hkt.nds; rw [HFH.out] at this; exact OwnN.reads this
       have h3 := rfix_any (q : Int) fhA fhc fps fnA fnc fhs (p : Int) (m : Int) W' h1 h2
       have h4 : (⟨(q : Int), fps, fhs.map Hd.nd⟩ : PT) = fh.pt := by rw [HFH.out]; rfl
       rw [h4, ← hte] at h3
       exact h3.mono fun e w' h => fx_of h hpsn hok2 hW.size
      have HFX := Lib.hid hFX
      have HFE := Lib.hid hfe
      have HOK := Lib.hid hok1
      have HOC2 : Hid (ob < wr.heap.size ∧ wr.cell? ⟨ob, oo + iN, none⟩ = some (.int .i64 (p : Int))) := Lib.hid ⟨Nat.lt_of_lt_of_le hob hbB.size, hoc⟩
      have HIL : Hid (iN < fps.length) := Lib.hid (by rw [← HOD.out]; exact HIN.out.2.2)
      have HBB := Lib.hid hbB
      have HMQ := Lib.hid hmq
      subst eo
      clear hp hgo hpl hbB hoc hfx hte hfe hok1 hok2 hpsn hFX ho0 hob p1 hB1
      go_upto_region 13 with fail
      refine wp_region_J (by kernel_rfl) (fun listed act w' => ∃ b0 b1 b2 b3 b4 b5 b6 b7 b8 b9 b10 b11 b12 v68 v69 v70 v71 v72 v73 v74 v67 v75 v76 v17 v18, listed = #[b0, b1, b2, b3, b4, b5, b6, b7, b8, b9, b10, b11, b12] ∧ act = Act.mk #[.agg #[.int .i64 (q : Int), .slice fhA fps.length fhc, .slice fnA fhs.length fnc], .slice (some ⟨ob, oo, none⟩) fps.length oc, .int .i64 iN, u3, u4, .pointer (some ⟨w.heap.size, 0, none⟩), undef, undef, undef, undef, u10, u11, u12, .int .i64 lv, .int .i64 os.length, .pointer (some ⟨gX, 0, none⟩), .int .i64 m, v17, v18, u19, .int .i64 iN, .slice (some ⟨ob, oo, none⟩) fps.length oc, .int .i64 fps.length, .bool false, undef, undef, undef, undef, undef, undef, undef, .slice (some ⟨ob, oo, none⟩) fps.length oc, .int .i64 fps.length, .int .i64 iN, .int .i64 lv, .int .i64 os.length, .slice nA os.length nc, .int .i64 os.length, .bool false, u39, u40, u41, u42, u43, u44, u45, u46, u47, u48, u49, u50, u51, u52, u53, u54, u55, u56, u57, u58, .int .i64 lv, .agg #[.int .i64 lv, .slice none 0 0], .int .i64 m, .pointer (some ⟨w.heap.size, 0, none⟩), .int .i64 (q : Int), .bool true, u65, u66, v67, v68, v69, v70, v71, v72, v73, v74, v75, v76, u77, u78, u79, u80, u81, u82, u83, u84, u85, u86, u87, u88, u89, u90, u91, u92, u93, undef, undef, undef, undef, undef, undef, undef, undef, undef, undef, undef, undef, undef] [] ∧ RxB wr (.agg #[.int .i64 (q : Int), .slice fhA fps.length fhc, .slice fnA fhs.length fnc]) oc fps.length iN m ob oo p fhA te.1 b0 b1 b2 b3 b4 b5 b6 b7 b8 b9 b10 b11 b12 v68 v69 v70 v71 v72 v73 v74 v67 v75 v76 v17 v18 w') ?_ ?_ ?_
      ·exact ⟨_, _, _, _, _, _, _, _, _, _, _, _, _, _, _, _, _, _, _, _, _, _, _, _, _, rfl, rfl, ⟨(by simp), (by simp), (by simp), (by simp), (by simp), (by simp), (by simp), (by simp), (Below.refl _ wr).drew, (by simp), (by simp), (by simp), (by simp), (by simp), (by simp)⟩⟩
      ·rintro i listed act w' hi ⟨b0, b1, b2, b3, b4, b5, b6, b7, b8, b9, b10, b11, b12, v68, v69, v70, v71, v72, v73, v74, v67, v75, v76, v17, v18, rfl, rfl, H⟩
       have hi16 : i < 13 := by
        obtain ⟨-, o, ho, -⟩ := mem_ready.1 hi
        exact (Array.getElem?_eq_some_iff.1 ho).1
       obtain rfl | rfl | rfl | rfl | rfl | rfl | rfl | rfl | rfl | rfl | rfl | rfl | rfl : i = 0 ∨ i = 1 ∨ i = 2 ∨ i = 3 ∨ i = 4 ∨ i = 5 ∨ i = 6 ∨ i = 7 ∨ i = 8 ∨ i = 9 ∨ i = 10 ∨ i = 11 ∨ i = 12 := by omega
       all_goals simp [mem_ready, Region.binds] at hi
       ·have p1 := HPR.out.below H.below HPR.out.lt
        have cc0 := p1.cell_ 0 (.int .i64 (q : Int)) rfl
        have cc1 := p1.cell_ 1 (.slice fhA fps.length fhc) rfl
        have cc2 := p1.cell_ 2 (.slice fnA fhs.length fnc) rfl
        clear p1
        refine wpOp_hidden rfl fun K hK => ?_
        go_wp2
        refine OnlyN.mk (hK.out _ _ ⟨true, _, _, _, _, _, _, _, _, _, _, _, _, .agg #[.int .i64 (q : Int), .slice fhA fps.length fhc, .slice fnA fhs.length fnc], _, _, _, _, _, _, _, _, _, _, _, rfl, rfl, ⟨fun _ => rfl, H.h1, H.h2, H.h3, H.h4, H.h5, H.h9, H.h12, H.below, H.h6, H.h7, H.h8, H.h10, H.h11, H.o11⟩⟩)
       ·refine wpOp_hidden rfl fun K hK => ?_
        go_wp2
        refine OnlyN.mk (hK.out _ _ ⟨_, true, _, _, _, _, _, _, _, _, _, _, _, _, .slice (some ⟨ob, oo, none⟩) fps.length oc, _, _, _, _, _, _, _, _, _, _, rfl, rfl, ⟨H.h0, fun _ => rfl, H.h2, H.h3, H.h4, H.h5, H.h9, H.h12, H.below, H.h6, H.h7, H.h8, H.h10, H.h11, H.o11⟩⟩)
       ·refine wpOp_hidden rfl fun K hK => ?_
        go_wp2
        refine OnlyN.mk (hK.out _ _ ⟨_, _, true, _, _, _, _, _, _, _, _, _, _, _, _, .int .i64 iN, _, _, _, _, _, _, _, _, _, rfl, rfl, ⟨H.h0, H.h1, fun _ => rfl, H.h3, H.h4, H.h5, H.h9, H.h12, H.below, H.h6, H.h7, H.h8, H.h10, H.h11, H.o11⟩⟩)
       ·have hil := HIL.out
        obtain rfl := H.h1 (by simp [hi])
        obtain rfl := H.h2 (by simp [hi])
        refine wpOp_hidden rfl fun K hK => ?_
        go_wp2
        refine OnlyN.mk (hK.out _ _ ⟨_, _, _, true, _, _, _, _, _, _, _, _, _, _, _, _, .pointer (some ⟨ob, oo + iN, none⟩), _, _, _, _, _, _, _, _, rfl, rfl, ⟨H.h0, H.h1, H.h2, fun _ => rfl, H.h4, H.h5, H.h9, H.h12, H.below, H.h6, H.h7, H.h8, H.h10, H.h11, H.o11⟩⟩)
       ·have cc0 := (H.below.cell (p := ⟨ob, oo + iN, none⟩) HOC2.out.1).trans HOC2.out.2
        obtain rfl := H.h3 (by simp [hi])
        refine wpOp_hidden rfl fun K hK => ?_
        go_wp2
        refine OnlyN.mk (hK.out _ _ ⟨_, _, _, _, true, _, _, _, _, _, _, _, _, _, _, _, _, .int .i64 p, _, _, _, _, _, _, _, rfl, rfl, ⟨H.h0, H.h1, H.h2, H.h3, fun _ => rfl, H.h5, H.h9, H.h12, H.below, H.h6, H.h7, H.h8, H.h10, H.h11, H.o11⟩⟩)
       ·refine wpOp_hidden rfl fun K hK => ?_
        go_wp2
        refine OnlyN.mk (hK.out _ _ ⟨_, _, _, _, _, true, _, _, _, _, _, _, _, _, _, _, _, _, .int .i64 m, _, _, _, _, _, _, rfl, rfl, ⟨H.h0, H.h1, H.h2, H.h3, H.h4, fun _ => rfl, H.h9, H.h12, H.below, H.h6, H.h7, H.h8, H.h10, H.h11, H.o11⟩⟩)
       ·obtain rfl := H.h0 (by simp [hi])
        obtain rfl := H.h4 (by simp [hi])
        obtain rfl := H.h5 (by simp [hi])
        have HB0 := Lib.hid H.below
        have HCX := Lib.hid (HFX.out w' HB0.out)
        refine wpOp_hidden rfl fun K hK => ?_
        go_wp2_with (go_at_call 21; refine HCX.out.mono ?_; intro e w9 hx9; obtain ⟨gh, rfl, hfp, hb9⟩ := hx9; refine Hid.out ?_)
        refine Lib.hid ?_
        have HB9 := Lib.hid hb9
        have HFP := Lib.hid hfp
        clear hb9 hfp HCX
        go_wp2
        refine OnlyN.mk (hK.out _ _ ⟨_, _, _, _, _, _, true, _, _, _, _, _, _, _, _, _, _, _, _, .tuple #[vTr gh, .int .i64 0], _, _, _, _, _, rfl, rfl, ⟨(H.world HB9.out).h0, (H.world HB9.out).h1, (H.world HB9.out).h2, (H.world HB9.out).h3, (H.world HB9.out).h4, (H.world HB9.out).h5, (H.world HB9.out).h9, (H.world HB9.out).h12, (H.world HB9.out).below, fun _ => ⟨gh, rfl, HFP.out⟩, (H.world HB9.out).h7, (H.world HB9.out).h8, (H.world HB9.out).h10, (H.world HB9.out).h11, (H.world HB9.out).o11⟩⟩)
       ·obtain ⟨gh, ev, hfp⟩ := H.h6 (by simp [hi])
        subst ev
        have HFP := Lib.hid hfp
        clear hfp
        refine wpOp_hidden rfl fun K hK => ?_
        go_wp2
        refine OnlyN.mk (hK.out _ _ ⟨_, _, _, _, _, _, _, true, _, _, _, _, _, _, _, _, _, _, _, _, .tuple #[vTr gh, .int .i64 0], _, _, _, _, rfl, rfl, ⟨H.h0, H.h1, H.h2, H.h3, H.h4, H.h5, H.h9, H.h12, H.below, H.h6, fun _ => ⟨gh, rfl, HFP.out⟩, H.h8, H.h10, H.h11, H.o11⟩⟩)
       ·obtain ⟨gh, ev, hfp⟩ := H.h7 (by simp [hi])
        subst ev
        have HFP := Lib.hid hfp
        clear hfp
        refine wpOp_hidden rfl fun K hK => ?_
        go_wp2
        refine OnlyN.mk (hK.out _ _ ⟨_, _, _, _, _, _, _, _, true, _, _, _, _, _, _, _, _, _, _, _, _, vTr gh, _, _, _, rfl, rfl, ⟨H.h0, H.h1, H.h2, H.h3, H.h4, H.h5, H.h9, H.h12, H.below, H.h6, H.h7, fun _ => ⟨gh, rfl, HFP.out⟩, H.h10, H.h11, H.o11⟩⟩)
       ·obtain ⟨gh, ev, hfp⟩ := H.h7 (by simp [hi])
        subst ev
        clear hfp
        refine wpOp_hidden rfl fun K hK => ?_
        go_wp2
        refine OnlyN.mk (hK.out _ _ ⟨_, _, _, _, _, _, _, _, _, true, _, _, _, _, _, _, _, _, _, _, _, _, .int .i64 0, _, _, rfl, rfl, ⟨H.h0, H.h1, H.h2, H.h3, H.h4, H.h5, fun _ => rfl, H.h12, H.below, H.h6, H.h7, H.h8, H.h10, H.h11, H.o11⟩⟩)
       ·have hbn : Below w'.heap.size w' (w'.alloc (.cells #[.int .i64 0, .slice none 0 0, .slice none 0 0] 25)) := below_new _ _
        have HBN := Lib.hid hbn
        have HSZ0 := Lib.hid H.below.size
        clear hbn
        refine wpOp_hidden rfl fun K hK => ?_
        go_wp2
        refine OnlyN.mk (hK.out _ _ ⟨_, _, _, _, _, _, _, _, _, _, true, _, _, _, _, _, _, _, _, _, _, _, _, .pointer (some ⟨w'.heap.size, 0, none⟩), _, rfl, rfl, ⟨(H.world HBN.out).h0, (H.world HBN.out).h1, (H.world HBN.out).h2, (H.world HBN.out).h3, (H.world HBN.out).h4, (H.world HBN.out).h5, (H.world HBN.out).h9, (H.world HBN.out).h12, (H.world HBN.out).below, (H.world HBN.out).h6, (H.world HBN.out).h7, (H.world HBN.out).h8, fun _ _ => ⟨_, rfl, Blk.new _ _ _, HSZ0.out⟩, fun h => absurd (H.o11 h) (by simp [hi]), fun _ => rfl⟩⟩)
       ·obtain ⟨gh, ev, hfp⟩ := H.h8 (by simp [hi])
        subst ev
        obtain ⟨g, ev, hbk, hgw⟩ := H.h10 (by simp [hi]) (by simp [hi])
        subst ev
        have cc0 := hbk.cell_ 0 (.int .i64 0) rfl
        have cc1 := hbk.cell_ 1 (.slice none 0 0) rfl
        have cc2 := hbk.cell_ 2 (.slice none 0 0) rfl
        have ff0 := hbk.frozen 0
        have ff1 := hbk.frozen 1
        have ff2 := hbk.frozen 2
        have HK9 : Hid (Kept (fun x => x = g) w' (((w'.setCell ⟨g, 0, none⟩ (.int .i64 gh.st)).setCell ⟨g, 1, none⟩ (.slice gh.hA gh.ps.length gh.hc)).setCell ⟨g, 2, none⟩ (.slice gh.nA gh.hs.length gh.nc))) := Lib.hid ((((Kept.refl (fun x => x = g) w').setCell (p := ⟨g, 0, none⟩) (Or.inl rfl) _).setCell (p := ⟨g, 1, none⟩) (Or.inl rfl) _).setCell (p := ⟨g, 2, none⟩) (Or.inl rfl) _)
        have HBK := Lib.hid hbk
        have HGW := Lib.hid hgw
        have HFP := Lib.hid hfp
        have HT10 : Hid (b10 = true) := Lib.hid (by simp [hi])
        unfold vTr
        clear hbk hgw hfp
        refine wpOp_hidden rfl fun K hK => ?_
        go_wp2
        refine OnlyN.mk (hK.out _ _ ⟨_, _, _, _, _, _, _, _, _, _, _, true, _, _, _, _, _, _, _, _, _, _, _, _, _, rfl, rfl, ⟨H.h0, H.h1, H.h2, H.h3, H.h4, H.h5, H.h9, H.h12, H.below.trans (HK9.out.to_below H.below.size (fun x hx e => by rw [e] at hx; exact absurd hx (Nat.not_lt_of_le HGW.out))), fun h => (by obtain ⟨gh, x1, x2⟩ := H.h6 h; exact ⟨gh, x1, x2.kept HK9.out HBK.out⟩), fun h => (by obtain ⟨gh, x1, x2⟩ := H.h7 h; exact ⟨gh, x1, x2.kept HK9.out HBK.out⟩), fun h => (by obtain ⟨gh, x1, x2⟩ := H.h8 h; exact ⟨gh, x1, x2.kept HK9.out HBK.out⟩), fun _ h => (by cases h), fun _ => ⟨g, gh, rfl, ((HBK.out.set_ 0 (.int .i64 gh.st)).set_ 1 (.slice gh.hA gh.ps.length gh.hc)).set_ 2 (.slice gh.nA gh.hs.length gh.nc), HFP.out.kept HK9.out HBK.out⟩, fun _ => HT10.out⟩⟩)
       ·obtain rfl := H.h9 (by simp [hi])
        refine wpOp_hidden rfl fun K hK => ?_
        go_wp2
        refine OnlyN.mk (hK.out _ _ ⟨_, _, _, _, _, _, _, _, _, _, _, _, true, _, _, _, _, _, _, _, _, _, _, _, .int .i64 0, rfl, rfl, ⟨H.h0, H.h1, H.h2, H.h3, H.h4, H.h5, H.h9, fun _ => rfl, H.below, H.h6, H.h7, H.h8, H.h10, H.h11, H.o11⟩⟩)
      ·rintro listed act w' hr ⟨b0, b1, b2, b3, b4, b5, b6, b7, b8, b9, b10, b11, b12, v68, v69, v70, v71, v72, v73, v74, v67, v75, v76, v17, v18, rfl, rfl, H⟩
       have hn := List.eq_nil_iff_forall_not_mem.1 hr
       have r0 := hn 0
       simp [mem_ready, Region.binds] at r0
       subst r0
       have r1 := hn 1
       simp [mem_ready, Region.binds] at r1
       subst r1
       have r2 := hn 2
       simp [mem_ready, Region.binds] at r2
       subst r2
       have r3 := hn 3
       simp [mem_ready, Region.binds] at r3
       subst r3
       have r4 := hn 4
       simp [mem_ready, Region.binds] at r4
       subst r4
       have r5 := hn 5
       simp [mem_ready, Region.binds] at r5
       subst r5
       have r6 := hn 6
       simp [mem_ready, Region.binds] at r6
       subst r6
       have r7 := hn 7
       simp [mem_ready, Region.binds] at r7
       subst r7
       have r8 := hn 8
       simp [mem_ready, Region.binds] at r8
       subst r8
       have r9 := hn 9
       simp [mem_ready, Region.binds] at r9
       subst r9
       have r10 := hn 10
       simp [mem_ready, Region.binds] at r10
       subst r10
       have r11 := hn 11
       simp [mem_ready, Region.binds] at r11
       subst r11
       have r12 := hn 12
       simp [mem_ready, Region.binds] at r12
       subst r12
       try dsimp only
       obtain ⟨gB, gh, ev, hgb, hfp⟩ := H.h11 rfl
       subst ev
       have hbz := H.below
       have HGB := Lib.hid hgb
       have HFP := Lib.hid hfp
       have HBZ := Lib.hid hbz
       clear H hr hn hgb hfp hbz
       have hgpt := HFP.out.eq
       have hgps : gh.ps = fps := by have := HOK.out.ps; rw [← hgpt] at this; exact this
       have hgblk : ∀ g, trBlk gh g → wr.heap.size ≤ g := fun g hg => (trBlk_lt HFP.out.nds hg).2
       have hBr : B ≤ wr.heap.size := Nat.le_trans hBw (Nat.le_trans HB1.out.size HL.out.kp.below.size)
       have hkt : KT W0 B u4 gh w' := by
        refine ⟨?_, ⟨own_down HFP.out.nds.1 hBr, fun x hx => (HFP.out.nds.2 x hx).down hBr⟩, fun g hg e => ?_⟩
        ·have := HL.out.f.hood
         rw [HFH.out] at this
         rw [HFP.out.hA, hgps]
         exact this
        ·have h1 := (own_lt' HL.out.wk.out.1 e).1
         have h2 := hgblk g hg
         omega
       have hc8 : cap 8 (n + 1) = 8 * cap 8 n + 1 := rfl
       have hsz1 : os1.length + cap 8 n ≤ 20000000000 := by
        have h1 := HSZ.out
        have h2 := HSZ1.out
        have h3 : (m + 1) * cap 8 n ≤ 8 * cap 8 n := Nat.mul_le_mul_right _ (by have := HMQ.out; have := HQ.out; omega)
        rw [Nat.succ_mul] at h3
        rw [hc8] at h1
        omega
       have hxi : XI fps.length od q (ts1.map TrH.pt, os1.map Hd.nd) := by rw [HEQ.out]; exact HXI.out
       have hcall := HIH.out gh u3 u4 ts1 os1 w' (by rw [hgpt]; exact HOK.out) (by have := HIN.out.2.1; omega) (HL.out.wk.ext HBZ.out) hkt (HBB.out.trans (HBZ.out.mono hBr)) (Nat.le_trans hBr HBZ.out.size) hxi hsz1
       rw [HOD.out] at hcall
       have HCALL := Lib.hid hcall
       have hxg := exp_ok (st := (q : Int)) HOD.out HOP.out (by rw [Int.toNat_natCast]; have := HQ.out; omega) n te.1 (kE fps.length od q n fh.pt s0 m).2 HOK.out (by have := HIN.out.2.1; omega) (by rw [Int.toNat_natCast]; exact HXI.out)
       rw [Int.toNat_natCast] at hxg
       have HXG := Lib.hid hxg
       have hsm1 : (kE fps.length od q n fh.pt s0 (m + 1)) = ((kE fps.length od q n fh.pt s0 m).1 ++ [(expE fps.length od q n te.1 (kE fps.length od q n fh.pt s0 m).2).1], (expE fps.length od q n te.1 (kE fps.length od q n fh.pt s0 m).2).2) := by
        show (_ ++ [(expE fps.length od q n (fixE fps.length od (n + 1) fh.pt m) (kE fps.length od q n fh.pt s0 m).2).1], _) = _
        rw [HFE.out]
        rfl
       have HSM := Lib.hid hsm1
       have HGPT := Lib.hid hgpt
       have HGBK := Lib.hid hgblk
       have b0 := HGB.out.cell_ 0 (.int .i64 gh.st) rfl
       have b1 := HGB.out.cell_ 1 (.slice gh.hA gh.ps.length gh.hc) rfl
       have b2 := HGB.out.cell_ 2 (.slice gh.nA gh.hs.length gh.nc) rfl
       have hwi1 := HWI1.out
       clear hgpt hgps hgblk hBr hkt hc8 hsz1 hxi hcall hxg hsm1
       go_wp2_with (go_at_call 54; refine HCALL.out.mono ?_; intro e w5 hx9; obtain ⟨kv2, ov2, ts2, os2, rfl, hc5, he5⟩ := hx9; refine Hid.out ?_)
       refine Lib.hid ?_
       have HL5 := Lib.hid (HL.out.call HBZ.out HGBK.out hc5)
       rw [HGPT.out, HEQ.out] at he5 ⊢
       have HE5 := Lib.hid he5
       obtain ⟨acc, hacc⟩ : ∃ acc, acc = (kE fps.length od q n fh.pt s0 m).1 := ⟨_, rfl⟩
       obtain ⟨id, hid⟩ : ∃ id, id = (expE fps.length od q n te.1 (kE fps.length od q n fh.pt s0 m).2).1 := ⟨_, rfl⟩
       rw [← hid] at HSM ⊢
       rw [← hacc] at HSM HL5 HAL
       have HSZ5 : Hid (os2.length ≤ os.length + (m + 1) * cap 8 n) := Lib.hid (by
        have h1 := HXG.out.size
        rw [← he5, ← HEQ.out] at h1
        simp only [List.length_map] at h1
        have h2 := HSZ1.out
        have h3 := cap_mono (q := q) (q' := 8) HQ.out.2 n n (Nat.le_refl _)
        rw [Nat.succ_mul]
        omega)
       have HXI5 : Hid (XI fps.length od q (kE fps.length od q n fh.pt s0 (m + 1)).2) := Lib.hid (by rw [HSM.out]; exact HXG.out.i)
       have HEQ5 : Hid ((ts2.map TrH.pt, os2.map Hd.nd) = (kE fps.length od q n fh.pt s0 (m + 1)).2) := Lib.hid (by rw [HSM.out]; exact he5)
       have HAL5 : Hid ((kE fps.length od q n fh.pt s0 (m + 1)).1.length = m + 1) := Lib.hid (by rw [HSM.out]; simp [HAL.out])
       have hown := HL5.out.R
       have hal : acc.length < 1000000000000 := by have := HAL.out; have := HMQ.out; have := HQ.out; omega
       have hws : w1.heap.size ≤ w5.heap.size := HL5.out.kp.below.size
       have hx5 := HL5.out.G.cell_ 1 xv rfl
       clear b0 b1 b2 hwi1 HCALL hc5 he5 hacc hid HXG
       go_wp2_with (at_builtin; refine wpList_pushIk rfl _ _ _ rfl w1.heap.size 3 Tryd.underlying31 Tryd.infoInt _ _ rfl hown _ rfl hal hws ?_)
       intro xv' w6 ho6 hk6 hm6
       obtain ⟨xA', xc', hxv', -, -⟩ := ho6.ints
       rw [List.length_append, List.length_singleton] at hxv'
       subst hxv'
       have hG6 := hk6.blk HL5.out.G (own_blk_ne' HL5.out.R HL5.out.G (by decide))
       have hx6 := hG6.cell_ 1 xv rfl
       have hf6 := hG6.frozen 1
       have HL7 := Lib.hid (HL5.out.push ho6 hk6 hm6)
       clear ho6 hk6 hm6 hG6 hown hal hws hx5
       go_wp2
       go_roundw
       case rel => exact ⟨m + 1, ts2, os2, _, HMQ.out, (by first | rfl | (rw [hwm]; rfl)), Lib.hid (by rw [HSM.out]; exact HL7.out), HEQ5, HXI5, HSZ5, HAL5⟩
       case measure => (try rw [hwm]); exact meas_step HMQ.out
     ·have hme : m = q := Nat.le_antisymm hm (Nat.le_of_not_lt hmq)
      have hB1 : B ≤ w1.heap.size := Nat.le_trans hBw HB1.out.size
      have hBr : B ≤ wr.heap.size := Nat.le_trans hB1 HL.out.kp.below.size
      obtain ⟨acc, hacc⟩ : ∃ acc, acc = (kE fps.length od q n fh.pt s0 m).1 := ⟨_, rfl⟩
      have HACC := Lib.hid hacc
      rw [← hacc] at HL HAL
      obtain ⟨xA, xc, exv, -, -⟩ := HL.out.R.ints
      subst exv
      have htl : ts1.length = os1.length := by
       have h1 := HXI.out.len
       rw [← HEQ.out] at h1
       simpa using h1
      have hosl : os1.length ≤ 20000000000 := by
       have h1 := HSZ.out
       have h2 := HSZ1.out
       have h3 : m * cap 8 n ≤ 8 * cap 8 n := Nat.mul_le_mul_right _ (by have := HQ.out; omega)
       rw [show cap 8 (n + 1) = 8 * cap 8 n + 1 from rfl] at h1
       omega
      have hlk : ts1.length < 1000000000000 := by omega
      have hln : os1.length < 1000000000000 := by omega
      have hap : 0 < acc.length := by rw [HAL.out, hme]; have := HQ.out; omega
      have HAP2 := Lib.hid hap
      have HOSL := Lib.hid hosl
      have HME := Lib.hid hme
      have HB1B := Lib.hid hB1
      have q1 := p1.cell_ 1 (.slice fhA fps.length fhc) rfl
      have q2 := p1.cell_ 2 (.slice fnA fhs.length fnc) rfl
      have hrow := HL.out.wk.krow
      clear hacc htl hosl hap hme hB1 p1 hm
      go_wp2_with (at_builtin; refine wpList_pushK rfl _ _ _ rfl B Tryd.underlying38 _ _ rfl hrow ⟨(q : Int), fhA, fps, fhc, fnA, fhs, fnc⟩ rfl hlk hBr ?_)
      intro kv' w6 ho6 hk6 hm6
      obtain ⟨S6, K6, M6, G6, R6, N6⟩ := HL.out.key (by rw [HFH.out]; simpa using ho6) hk6 hm6
      have hs6 := hk6.below.size
      have x0 := G6.cell_ 0 (.int .i64 lv) rfl
      have x1 := G6.cell_ 1 (.slice xA acc.length xc) rfl
      have hI6 : OwnIA w6 B (.slice xA acc.length xc) acc := own_down R6 HB1B.out
      have hout := S6.out
      have hws : B ≤ w6.heap.size := Nat.le_trans hBr hs6
      have HS6 := Lib.hid S6
      have HK6 := Lib.hid K6
      have HM6 := Lib.hid M6
      have HN6 := Lib.hid N6
      have HSS6 := Lib.hid hs6
      clear ho6 hk6 hm6 S6 K6 M6 G6 R6 N6 hs6 p0c q1 q2 hrow hlk hBr
      go_wp2_with (at_builtin; refine wpList_pushN rfl _ _ _ rfl B 53 3 (by decide) Tryd.underlying23 Tryd.infoNode _ _ rfl hout _ _ _ _ hI6 rfl hln hws ?_)
      intro v9 w9 hN9 hk9 hm9
      have HC := Lib.hid ((HL.out.fin rfl HAP2.out HS6.out HK6.out HM6.out HN6.out HSS6.out hN9 hk9 hm9).pre HB1.out)
      obtain ⟨oA9, oc9, e9, -, -⟩ := hN9.nds
      obtain ⟨n9, hn9⟩ : ∃ n9, n9 = (os1 ++ [(⟨lv, xA, xc, acc⟩ : Hd)]).length := ⟨_, rfl⟩
      rw [← hn9] at e9
      have hw9 : wrap64 ((n9 : Int) - 1) = (os1.length : Int) := by rw [hn9]; have := HOSL.out; simp only [List.length_append, List.length_singleton]; unfold wrap64; omega
      have HK0 : Hid ((kE fps.length od q n fh.pt s0 q).1 = acc ∧ (kE fps.length od q n fh.pt s0 q).2 = (ts1.map TrH.pt, os1.map Hd.nd)) := Lib.hid (by have h1 := HACC.out; have h2 := HEQ.out; rw [HME.out] at h1 h2; exact ⟨h1.symm, h2.symm⟩)
      subst e9
      clear hN9 hk9 hm9 hn9 x0 x1 hI6 hout hws hln
      go_wp2
      go_ret3
      refine ⟨kv', _, ts1 ++ [fh], os1 ++ [⟨lv, xA, xc, acc⟩], ?_, HC.out, ?_⟩
      ·rw [HEX.out, HK0.out.2]
       show Ending.returned (.tuple #[.int .i64 (wrap64 ((n9 : Int) - 1)), kv', .slice oA9 n9 oc9]) = _
       rw [hw9]
       simp only [List.length_map]
      ·rw [HEX.out, HK0.out.1, HK0.out.2]
       simp only [List.map_append, List.map_cons, List.map_nil]
       first | rfl | done
end Go.Proofs.YtojnnfihpiegoaaDoor
