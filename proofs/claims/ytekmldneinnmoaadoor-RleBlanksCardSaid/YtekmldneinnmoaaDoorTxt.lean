/-
  rle.Text. Where uint64pow10 and MaxLen lie.
-/
import Derived.Test.YtekmldneinnmoaaDoorTxtP
import Derived.Test.YtekmldneinnmoaaDoorJ
import Derived.Lib.SmallJoins
namespace Go.Proofs.YtekmldneinnmoaaDoor
open Go.RowKit
set_option maxRecDepth 100000
set_option linter.unusedVariables false
set_option linter.unusedSimpArgs false

/-- the library's variables -/
def Glob (w : World) : Prop := (∃ m, w.cell? ⟨0, 0, none⟩ = some (.int .i64 m)) ∧ Lib.TabIs Tryd.prog w "internal/strconv.uint64pow10" .u64 Lib.pow10Tab
theorem Glob.ext {w w' : World} (h : Glob w) (hb : Below w.heap.size w w') : Glob w' := by
  obtain ⟨⟨m, hm⟩, h2⟩ := h
  refine ⟨⟨m, ?_⟩, ?_⟩
  · rw [hb.cell (World.block_lt_of_cell? _ _ hm)]; exact hm
  · exact Joins.var_stays (g := 1) (by kernel_rfl) h2 hb (Nat.le_refl _)
theorem below_grow (w : World) (k : Nat) (os : Array Obj) : Below w.heap.size w (Sort.grow (w.drewN k) os) :=
  ⟨rfl, rfl, rfl, by simp, fun i hi => Sort.heap_grow_old _ _ hi⟩
theorem itoa_any (n : Int) (h0 : -9223372036854775808 ≤ n) (h1 : n ≤ 9223372036854775807) (w : World) (hg : Glob w) : Calls Tryd.prog 20 #[.int .i64 n] w fun e w' => e = .returned (.string ⟨(Lib.itoa n).toArray⟩) ∧ Below w.heap.size w w' := by
  refine (Tryd.strconv_Itoa n h0 h1 w hg.2).mono ?_
  rintro e w' ⟨rfl, k, os, rfl⟩
  exact ⟨rfl, below_grow w k os⟩
theorem hdC_mem {ps : List Cel} (h : ps ≠ []) : hdC ps ∈ ps := by
  cases ps with
  | nil => exact absurd rfl h
  | cons a l => exact List.mem_cons_self
theorem lstC_mem {ps : List Cel} (h : ps ≠ []) : lstC ps ∈ ps := by
  unfold lstC
  rw [List.getLastD_eq_getLast?, List.getLast?_eq_some_getLast h]
  exact List.getLast_mem h
theorem lo_le_hi (f : Cel → Int) {ps : List Cel} (h : ps ≠ []) : lo f ps ps.length ≤ hi f ps ps.length := by
  have key : ∀ k, k ≤ ps.length → lo f ps k ≤ hi f ps k := by
    intro k
    induction k with
    | zero => intro _; exact Int.le_refl _
    | succ k ih =>
      intro hk
      rw [lo_snoc f (by omega), hi_snoc f (by omega)]
      have := ih (by omega)
      omega
  exact key _ (Nat.le_refl _)
theorem box_size (ps : List Cel) : 0 ≤ (boxC ps).1.w ∧ (boxC ps).1.w ≤ 4194304 ∧ 0 ≤ (boxC ps).1.h ∧ (boxC ps).1.h ≤ 4194304 := by
  unfold boxC
  split
  · rename_i h
    have hb := right_bd h.2
    have h1 := lo_bd (·.x) h.1 (fun c hc => (hb c hc).1) ps.length
    have h2 := hi_bd (·.x) h.1 (fun c hc => (hb c hc).1) ps.length
    have h3 := lo_le_hi (·.x) h.1
    have h4 := hb (hdC ps) (hdC_mem h.1)
    have h5 := hb (lstC ps) (lstC_mem h.1)
    have h6 : (hdC ps).y ≤ (lstC ps).y := by
      have := h.2
      unfold rightC at this
      simp only [Bool.and_eq_true] at this
      exact chain_last this.2 _ (hdC_mem h.1)
    dsimp only
    omega
  · dsimp only; omega
theorem own_kept {w w' : World} {base b g : Nat} {v : Value} {l : List (Int × Int)} (h : OwnP 31 w base v l) (hb : b < base) (hg : g < base)
    (hk : ∀ g' t' cs, 5 ≠ t' → g' ≠ b → g' ≠ g → Blk w g' t' cs → Blk w' g' t' cs) : OwnP 31 w' base v l := by
  obtain ⟨h1, h2⟩ := h
  refine ⟨h1, ?_⟩
  rcases h2 with h2 | ⟨g', cap, cur, h3, h4, h5, h6⟩
  · exact .inl h2
  · exact .inr ⟨g', cap, cur, h3, h4, hk g' _ _ (by decide) (by omega) (by omega) h5, h6⟩
theorem meas_up {n k : Nat} (h : k < n) : n - (intOf (.int .i64 ((k : Int) + 1))).toNat < n - (intOf (.int .i64 (k : Int))).toNat := by
  simp [intOf]
  omega
theorem isBuilder_ext {T e : TypeId} {B b : Nat} {bs : List Value} {w w' : World} (h : Lib.IsBuilder T e B b bs w) (hb : Below w.heap.size w w') : Lib.IsBuilder T e B b bs w' := by
  rcases h with h | h
  · exact .inl (builder_ext h hb)
  · exact .inr (builder_ext h hb)
structure TxJ (w0 : World) (P : Nat) (bw : Int) (bh : Int) (sw : List UInt8) (sh : List UInt8) (rule : List UInt8) (L3 : List UInt8) (L4 : List UInt8) (L8 : List UInt8) (L9 : List UInt8) (L11 : List UInt8) (L12 : List UInt8) (b0 b1 b2 b3 b4 b5 b6 b7 b8 b9 b10 b11 b12 b13 : Bool) (v34 v35 v36 v37 v38 v39 v40 v41 v42 v43 v44 v45 v46 v47 : Value) (w : World) : Prop where
  below : Below w0.heap.size w0 w
  bld : b13 = false → Lib.IsBuilder 50 5 w0.heap.size w0.heap.size [] w
  h0 : b0 = true → v34 = .pointer (some ⟨P, 2, none⟩)
  h1 : b1 = true → v35 = .int .i64 bw
  h2 : b2 = true → v36 = .string ⟨sw.toArray⟩
  h3 : b3 = true → v37 = .string ⟨L3.toArray⟩
  h4 : b4 = true → v38 = .string ⟨L4.toArray⟩
  h5 : b5 = true → v39 = .pointer (some ⟨P, 3, none⟩)
  h6 : b6 = true → v40 = .int .i64 bh
  h7 : b7 = true → v41 = .string ⟨sh.toArray⟩
  h8 : b8 = true → v42 = .string ⟨L8.toArray⟩
  h9 : b9 = true → v43 = .string ⟨L9.toArray⟩
  h10 : b10 = true → v44 = .string ⟨rule.toArray⟩
  h11 : b11 = true → v45 = .string ⟨L11.toArray⟩
  h12 : b12 = true → v46 = .string ⟨L12.toArray⟩
  h13 : b13 = true → Lib.BuilderAt 50 5 w0.heap.size w0.heap.size (.pointer (some ⟨w0.heap.size, 0, none⟩)) (Lib.byteCells L12) w
section
variable {w0 : World} {P : Nat} {bw : Int} {bh : Int} {sw : List UInt8} {sh : List UInt8} {rule : List UInt8} {L3 : List UInt8} {L4 : List UInt8} {L8 : List UInt8} {L9 : List UInt8} {L11 : List UInt8} {L12 : List UInt8} {b0 b1 b2 b3 b4 b5 b6 b7 b8 b9 b10 b11 b12 b13 : Bool} {v34 v35 v36 v37 v38 v39 v40 v41 v42 v43 v44 v45 v46 v47 : Value} {w w' : World}
theorem TxJ.world (H : TxJ w0 P bw bh sw sh rule L3 L4 L8 L9 L11 L12 b0 b1 b2 b3 b4 b5 b6 b7 b8 b9 b10 b11 b12 b13 v34 v35 v36 v37 v38 v39 v40 v41 v42 v43 v44 v45 v46 v47 w) (hb : Below w.heap.size w w') : TxJ w0 P bw bh sw sh rule L3 L4 L8 L9 L11 L12 b0 b1 b2 b3 b4 b5 b6 b7 b8 b9 b10 b11 b12 b13 v34 v35 v36 v37 v38 v39 v40 v41 v42 v43 v44 v45 v46 v47 w' :=
  ⟨H.below.trans (hb.mono H.below.size), fun h => isBuilder_ext (H.bld h) hb, H.h0, H.h1, H.h2, H.h3, H.h4, H.h5, H.h6, H.h7, H.h8, H.h9, H.h10, H.h11, H.h12, fun h => builder_ext (H.h13 h) hb⟩
end
set_option maxHeartbeats 16000000 in
theorem text_any (A : Option Addr) (c : Nat) (ps : List Cel) (rule : List UInt8) (w : World) (hg : Glob w) (ha : Cls w A ps) (hs : rule.length ≤ 1000000) :
    Calls Tryd.prog 8 #[.slice A ps.length c, .string ⟨rule.toArray⟩] w fun e w' => e = .returned (.tuple #[.string ⟨(textL ps rule).1.toArray⟩, .int .i64 (textL ps rule).2]) ∧ Below w.heap.size w w' := by
  have hn := ha.le
  have HR := Lib.hid (right_any A c ps w ha)
  have HNM := Lib.hid (fun w => ruleName_any ⟨rule.toArray⟩ w (by show rule.toArray.size ≤ _; simp; omega))
  cases hr : rightC ps
  · have HT : Hid (textL ps rule = ([], 2)) := Lib.hid (by unfold textL; rw [if_pos hr])
    rw [hr] at HR
    clear hr
    go_enter Tryd.func8, Tryd.ntmps8
    go_wp2_with fail
    refine HR.out.mono ?_
    rintro e w1 ⟨rfl, hb1⟩
    have HB := Lib.hid hb1
    clear hb1
    go_wp2
    go_ret2
    rw [HT.out]
    exact ⟨rfl, HB.out⟩
  rw [hr] at HR
  have HRT := Lib.hid hr
  clear hr
  cases hm : nameB rule
  · have HT : Hid (textL ps rule = ([], 7)) := Lib.hid (by unfold textL; rw [if_neg (by rw [HRT.out]; simp), if_pos hm])
    rw [hm] at HNM
    clear hm
    go_enter Tryd.func8, Tryd.ntmps8
    go_wp2_with fail
    refine HR.out.mono ?_
    rintro e w1 ⟨rfl, hb1⟩
    have HB := Lib.hid hb1
    clear hb1
    go_wp2_with fail
    refine (HNM.out _).mono ?_
    rintro e w2 ⟨rfl, hw2⟩
    subst hw2
    go_wp2
    go_ret2
    rw [HT.out]
    exact ⟨rfl, HB.out⟩
  have HNT := Lib.hid hm
  rw [hm] at HNM
  clear hm
  have HBX := Lib.hid (fun w' hb => box_any A c ps w' (ha.ext hb))
  have HBP : Hid ((boxC ps).2 = true → rightC ps = true ∧ ps ≠ []) := Lib.hid (fun h => ⟨(box_bd h).1, (box_bd h).2.1⟩)
  have HBD := Lib.hid (box_size ps)
  have HTD : Hid (textL ps rule = if 1048577 < (boxC ps).1.w ∨ 1048577 < (boxC ps).1.h then ([], 5) else if 65536 < (fullT ps rule).length then ([], 6) else (fullT ps rule, 0)) := Lib.hid (by unfold textL; rw [if_neg (by rw [HRT.out]; simp), if_neg (by rw [HNT.out]; simp)])
  have HFT : Hid (fullT ps rule = endL (wrapL (headL (boxC ps).1 rule) (itemsL ps))) := Lib.hid rfl
  obtain ⟨q, hq⟩ : ∃ q, q = boxC ps := ⟨_, rfl⟩
  rw [← hq] at HBX HBP HBD HTD HFT
  clear hq
  obtain ⟨bb, ok⟩ := q
  obtain ⟨bx, y0, bw, bh⟩ := bb
  unfold bxV headL at *
  dsimp only at HBX HBP HBD HTD HFT
  by_cases hw : 1048577 < bw
  · have HT : Hid (textL ps rule = ([], 5)) := Lib.hid (by rw [HTD.out, if_pos (.inl hw)])
    have d1 : decide (1048577 < bw) = true := decide_eq_true hw
    clear HTD HFT
    go_enter Tryd.func8, Tryd.ntmps8
    go_wp2_with fail
    refine HR.out.mono ?_
    rintro e w1 ⟨rfl, hb1⟩
    have HB1 := Lib.hid hb1
    clear hb1
    have HBX1 := Lib.hid (HBX.out w1 HB1.out)
    go_wp2_with fail
    refine (HNM.out _).mono ?_
    rintro e w2 ⟨rfl, hw2⟩
    subst hw2
    go_wp2_with fail
    refine HBX1.out.mono ?_
    rintro e w3 ⟨rfl, hb3⟩
    have br0 := Blk.new w3 38 #[.int .i64 bx, .int .i64 y0, .int .i64 bw, .int .i64 bh]
    have hb4 := (HB1.out.trans (hb3.mono HB1.out.size)).alloc (Nat.le_trans HB1.out.size hb3.size) (.cells #[.int .i64 bx, .int .i64 y0, .int .i64 bw, .int .i64 bh] 38)
    obtain ⟨w4, hw4⟩ : ∃ w4, w4 = w3.alloc (.cells #[.int .i64 bx, .int .i64 y0, .int .i64 bw, .int .i64 bh] 38) := ⟨_, rfl⟩
    rw [← hw4] at br0 hb4
    have HB := Lib.hid hb4
    have HBR := Lib.hid br0
    have HW4 := Lib.hid hw4
    clear hb3 hb4 hw4
    have q2 := br0.cell_ 2 (.int .i64 bw) rfl
    have q3 := br0.cell_ 3 (.int .i64 bh) rfl
    clear br0
    go_upto_region 6 with fail
    rw [← HW4.out]
    go_wp2
    go_ret2
    rw [HT.out]
    exact ⟨rfl, HB.out⟩
  have d1 : decide (1048577 < bw) = false := decide_eq_false hw
  by_cases hh : 1048577 < bh
  · have HT : Hid (textL ps rule = ([], 5)) := Lib.hid (by rw [HTD.out, if_pos (.inr hh)])
    have d2 : decide (1048577 < bh) = true := decide_eq_true hh
    clear HTD HFT
    go_enter Tryd.func8, Tryd.ntmps8
    go_wp2_with fail
    refine HR.out.mono ?_
    rintro e w1 ⟨rfl, hb1⟩
    have HB1 := Lib.hid hb1
    clear hb1
    have HBX1 := Lib.hid (HBX.out w1 HB1.out)
    go_wp2_with fail
    refine (HNM.out _).mono ?_
    rintro e w2 ⟨rfl, hw2⟩
    subst hw2
    go_wp2_with fail
    refine HBX1.out.mono ?_
    rintro e w3 ⟨rfl, hb3⟩
    have br0 := Blk.new w3 38 #[.int .i64 bx, .int .i64 y0, .int .i64 bw, .int .i64 bh]
    have hb4 := (HB1.out.trans (hb3.mono HB1.out.size)).alloc (Nat.le_trans HB1.out.size hb3.size) (.cells #[.int .i64 bx, .int .i64 y0, .int .i64 bw, .int .i64 bh] 38)
    obtain ⟨w4, hw4⟩ : ∃ w4, w4 = w3.alloc (.cells #[.int .i64 bx, .int .i64 y0, .int .i64 bw, .int .i64 bh] 38) := ⟨_, rfl⟩
    rw [← hw4] at br0 hb4
    have HB := Lib.hid hb4
    have HBR := Lib.hid br0
    have HW4 := Lib.hid hw4
    clear hb3 hb4 hw4
    have q2 := br0.cell_ 2 (.int .i64 bw) rfl
    have q3 := br0.cell_ 3 (.int .i64 bh) rfl
    clear br0
    go_upto_region 6 with fail
    rw [← HW4.out]
    go_wp2
    go_ret2
    rw [HT.out]
    exact ⟨rfl, HB.out⟩
  have d2 : decide (1048577 < bh) = false := decide_eq_false hh
  have HT : Hid (textL ps rule = if 65536 < (fullT ps rule).length then ([], 6) else (fullT ps rule, 0)) := Lib.hid (by rw [HTD.out, if_neg (by omega)])
  go_enter Tryd.func8, Tryd.ntmps8
  go_wp2_with fail
  refine HR.out.mono ?_
  rintro e w1 ⟨rfl, hb1⟩
  have HB1 := Lib.hid hb1
  clear hb1
  have HBX1 := Lib.hid (HBX.out w1 HB1.out)
  go_wp2_with fail
  refine (HNM.out _).mono ?_
  rintro e w2 ⟨rfl, hw2⟩
  subst hw2
  go_wp2_with fail
  refine HBX1.out.mono ?_
  rintro e w3 ⟨rfl, hb3⟩
  have br0 := Blk.new w3 38 #[.int .i64 bx, .int .i64 y0, .int .i64 bw, .int .i64 bh]
  have hb4 := (HB1.out.trans (hb3.mono HB1.out.size)).alloc (Nat.le_trans HB1.out.size hb3.size) (.cells #[.int .i64 bx, .int .i64 y0, .int .i64 bw, .int .i64 bh] 38)
  obtain ⟨w4, hw4⟩ : ∃ w4, w4 = w3.alloc (.cells #[.int .i64 bx, .int .i64 y0, .int .i64 bw, .int .i64 bh] 38) := ⟨_, rfl⟩
  rw [← hw4] at br0 hb4
  have HB := Lib.hid hb4
  have HBR := Lib.hid br0
  have HW4 := Lib.hid hw4
  clear hb3 hb4 hw4
  have q2 := br0.cell_ 2 (.int .i64 bw) rfl
  have q3 := br0.cell_ 3 (.int .i64 bh) rfl
  clear br0
  go_upto_region 6 with fail
  rw [← HW4.out]
  go_upto_region 9 with fail
  have HPL : Hid (w3.heap.size < w4.heap.size) := Lib.hid HBR.out.lt
  have Q2 := Lib.hid q2
  have Q3 := Lib.hid q3
  have HG4 := Lib.hid (hg.ext HB.out)
  have HIF := Lib.hid (Lib.fresh_isBuilder 50 5 w4)
  have HBF := Lib.hid (below_new w4 (.cells #[.pointer none, .slice none 0 0] 50))
  obtain ⟨sw, hsw⟩ : ∃ l, l = Lib.itoa bw := ⟨_, rfl⟩
  obtain ⟨sh, hsh⟩ : ∃ l, l = Lib.itoa bh := ⟨_, rfl⟩
  have Hbw : Hid (Lib.itoa bw = sw) := Lib.hid hsw.symm
  have Hbh : Hid (Lib.itoa bh = sh) := Lib.hid hsh.symm
  have hl1 : sw.length ≤ 7 := by rw [hsw]; exact itoa_len _ HBD.out.1 (by have := HBD.out; omega)
  have hl2 : sh.length ≤ 7 := by rw [hsh]; exact itoa_len _ HBD.out.2.2.1 (by have := HBD.out; omega)
  have hl3 : rule.length ≤ 100 := by have h := HNT.out; unfold nameB at h; simp only [Bool.and_eq_true, decide_eq_true_eq] at h; omega
  obtain ⟨L3, e3⟩ : ∃ l, l = [120, 32, 61, 32] ++ sw := ⟨_, rfl⟩
  obtain ⟨L4, e4⟩ : ∃ l, l = L3 ++ [44, 32, 121, 32, 61, 32] := ⟨_, rfl⟩
  obtain ⟨L8, e8⟩ : ∃ l, l = L4 ++ sh := ⟨_, rfl⟩
  obtain ⟨L9, e9⟩ : ∃ l, l = L8 ++ [44, 32, 114, 117, 108, 101, 32, 61, 32] := ⟨_, rfl⟩
  obtain ⟨L11, e11⟩ : ∃ l, l = L9 ++ rule := ⟨_, rfl⟩
  obtain ⟨L12, e12⟩ : ∃ l, l = L11 ++ [10] := ⟨_, rfl⟩
  have HLN : Hid (sw.length ≤ 7 ∧ sh.length ≤ 7 ∧ rule.length ≤ 100 ∧ L3.length ≤ 11 ∧ L4.length ≤ 17 ∧ L8.length ≤ 24 ∧ L9.length ≤ 33 ∧ L11.length ≤ 133 ∧ L12.length ≤ 134) := Lib.hid (by
    have k3 : L3.length = 4 + sw.length := by rw [e3]; simp; omega
    have k4 : L4.length = L3.length + 6 := by rw [e4]; simp
    have k8 : L8.length = L4.length + sh.length := by rw [e8]; simp
    have k9 : L9.length = L8.length + 9 := by rw [e9]; simp
    have k11 : L11.length = L9.length + rule.length := by rw [e11]; simp
    have k12 : L12.length = L11.length + 1 := by rw [e12]; simp
    omega)
  have HF2 : Hid (fullT ps rule = endL (wrapL L12 (itemsL ps))) := Lib.hid (by rw [HFT.out, e12, e11, e9, e8, e4, e3, hsw, hsh])
  have E3 := Lib.hid e3
  have E4 := Lib.hid e4
  have E8 := Lib.hid e8
  have E9 := Lib.hid e9
  have E11 := Lib.hid e11
  have E12 := Lib.hid e12
  clear hsw hsh e3 e4 e8 e9 e11 e12 q2 q3 hl1 hl2 hl3 HTD HFT hw hh d1 d2
  refine wp_region_J (by kernel_rfl) (fun listed act w' => ∃ b0 b1 b2 b3 b4 b5 b6 b7 b8 b9 b10 b11 b12 b13 v34 v35 v36 v37 v38 v39 v40 v41 v42 v43 v44 v45 v46 v47, listed = #[b0, b1, b2, b3, b4, b5, b6, b7, b8, b9, b10, b11, b12, b13] ∧ act = Act.mk #[.slice A ps.length c, .string ⟨rule.toArray⟩, undef, undef, .string ⟨#[]⟩, .int .i64 0, .pointer (some ⟨w3.heap.size, 0, none⟩), .bool ok, .pointer (some ⟨w4.heap.size, 0, none⟩), undef, undef, undef, undef, undef, undef, .slice A ps.length c, .bool true, .bool false, .string ⟨rule.toArray⟩, .bool true, .bool false, .tuple #[.agg #[.int .i64 bx, .int .i64 y0, .int .i64 bw, .int .i64 bh], .bool ok], .slice A ps.length c, .tuple #[.agg #[.int .i64 bx, .int .i64 y0, .int .i64 bw, .int .i64 bh], .bool ok], .agg #[.int .i64 bx, .int .i64 y0, .int .i64 bw, .int .i64 bh], .bool ok, .pointer (some ⟨w3.heap.size, 2, none⟩), .int .i64 bw, .bool false, .bool false, .pointer (some ⟨w3.heap.size, 3, none⟩), .int .i64 bh, .bool false, .bool false, v34, v35, v36, v37, v38, v39, v40, v41, v42, v43, v44, v45, v46, v47, undef, undef, undef, undef, undef, undef, undef, undef, undef, undef, undef, undef, undef, undef, undef, undef, undef, undef, undef, undef, undef, undef, undef, undef, undef, undef, undef, undef, undef, undef, undef, undef, undef] [] ∧ TxJ w4 w3.heap.size bw bh sw sh rule L3 L4 L8 L9 L11 L12 b0 b1 b2 b3 b4 b5 b6 b7 b8 b9 b10 b11 b12 b13 v34 v35 v36 v37 v38 v39 v40 v41 v42 v43 v44 v45 v46 v47 w') ?_ ?_ ?_
  · exact ⟨_, _, _, _, _, _, _, _, _, _, _, _, _, _, _, _, _, _, _, _, _, _, _, _, _, _, _, _, rfl, rfl, ⟨HBF.out.drew, (fun _ => isBuilder_ext HIF.out (Below.refl _ _).drew), (by simp), (by simp), (by simp), (by simp), (by simp), (by simp), (by simp), (by simp), (by simp), (by simp), (by simp), (by simp), (by simp), (by simp)⟩⟩
  · rintro i listed act w' hi ⟨b0, b1, b2, b3, b4, b5, b6, b7, b8, b9, b10, b11, b12, b13, v34, v35, v36, v37, v38, v39, v40, v41, v42, v43, v44, v45, v46, v47, rfl, rfl, H⟩
    have hi16 : i < 14 := by
      obtain ⟨-, o, ho, -⟩ := mem_ready.1 hi
      exact (Array.getElem?_eq_some_iff.1 ho).1
    obtain rfl | rfl | rfl | rfl | rfl | rfl | rfl | rfl | rfl | rfl | rfl | rfl | rfl | rfl : i = 0 ∨ i = 1 ∨ i = 2 ∨ i = 3 ∨ i = 4 ∨ i = 5 ∨ i = 6 ∨ i = 7 ∨ i = 8 ∨ i = 9 ∨ i = 10 ∨ i = 11 ∨ i = 12 ∨ i = 13 := by omega
    all_goals simp [mem_ready, Region.binds] at hi
    · refine wpOp_hidden rfl fun K hK => ?_
      go_wp2
      refine OnlyN.mk (hK.out _ _ ⟨true, _, _, _, _, _, _, _, _, _, _, _, _, _, .pointer (some ⟨w3.heap.size, 2, none⟩), _, _, _, _, _, _, _, _, _, _, _, _, _, rfl, rfl, ⟨H.below, H.bld, fun _ => rfl, H.h1, H.h2, H.h3, H.h4, H.h5, H.h6, H.h7, H.h8, H.h9, H.h10, H.h11, H.h12, H.h13⟩⟩)
    · obtain rfl := H.h0 (by simp [hi])
      have cc := (H.below.cell (p := ⟨w3.heap.size, 2, none⟩) HPL.out).trans Q2.out
      refine wpOp_hidden rfl fun K hK => ?_
      go_wp2
      refine OnlyN.mk (hK.out _ _ ⟨_, true, _, _, _, _, _, _, _, _, _, _, _, _, _, .int .i64 bw, _, _, _, _, _, _, _, _, _, _, _, _, rfl, rfl, ⟨H.below, H.bld, H.h0, fun _ => rfl, H.h2, H.h3, H.h4, H.h5, H.h6, H.h7, H.h8, H.h9, H.h10, H.h11, H.h12, H.h13⟩⟩)
    · obtain rfl := H.h1 (by simp [hi])
      have hgw := HG4.out.ext H.below
      have HI := Lib.hid (itoa_any bw (by have := HBD.out; omega) (by have := HBD.out; omega) w' hgw)
      rw [Hbw.out] at HI
      clear hgw
      refine wpOp_hidden rfl fun K hK => ?_
      go_wp2_with fail
      refine HI.out.mono ?_
      rintro e w9 ⟨rfl, hb9⟩
      have HA := Lib.hid (H.world hb9)
      clear H hb9
      go_wp2
      refine OnlyN.mk (hK.out _ _ ⟨_, _, true, _, _, _, _, _, _, _, _, _, _, _, _, _, .string ⟨sw.toArray⟩, _, _, _, _, _, _, _, _, _, _, _, rfl, rfl, ⟨HA.out.below, HA.out.bld, HA.out.h0, HA.out.h1, fun _ => rfl, HA.out.h3, HA.out.h4, HA.out.h5, HA.out.h6, HA.out.h7, HA.out.h8, HA.out.h9, HA.out.h10, HA.out.h11, HA.out.h12, HA.out.h13⟩⟩)
    · obtain rfl := H.h2 (by simp [hi])
      have hle : ¬ 9223372036854775807 < 4 + sw.length := by have := HLN.out; omega
      refine wpOp_hidden rfl fun K hK => ?_
      go_wp2
      refine OnlyN.mk (hK.out _ _ ⟨_, _, _, true, _, _, _, _, _, _, _, _, _, _, _, _, _, .string (⟨#[120, 32, 61, 32]⟩ ++ ⟨sw.toArray⟩), _, _, _, _, _, _, _, _, _, _, rfl, rfl, ⟨H.below, H.bld, H.h0, H.h1, H.h2, fun _ => by rw [E3.out, ← bytes_app], H.h4, H.h5, H.h6, H.h7, H.h8, H.h9, H.h10, H.h11, H.h12, H.h13⟩⟩)
    · obtain rfl := H.h3 (by simp [hi])
      have hle : ¬ 9223372036854775807 < L3.length + 6 := by have := HLN.out; omega
      refine wpOp_hidden rfl fun K hK => ?_
      go_wp2
      refine OnlyN.mk (hK.out _ _ ⟨_, _, _, _, true, _, _, _, _, _, _, _, _, _, _, _, _, _, .string (⟨L3.toArray⟩ ++ ⟨#[44, 32, 121, 32, 61, 32]⟩), _, _, _, _, _, _, _, _, _, rfl, rfl, ⟨H.below, H.bld, H.h0, H.h1, H.h2, H.h3, fun _ => by rw [E4.out, ← bytes_app], H.h5, H.h6, H.h7, H.h8, H.h9, H.h10, H.h11, H.h12, H.h13⟩⟩)
    · refine wpOp_hidden rfl fun K hK => ?_
      go_wp2
      refine OnlyN.mk (hK.out _ _ ⟨_, _, _, _, _, true, _, _, _, _, _, _, _, _, _, _, _, _, _, .pointer (some ⟨w3.heap.size, 3, none⟩), _, _, _, _, _, _, _, _, rfl, rfl, ⟨H.below, H.bld, H.h0, H.h1, H.h2, H.h3, H.h4, fun _ => rfl, H.h6, H.h7, H.h8, H.h9, H.h10, H.h11, H.h12, H.h13⟩⟩)
    · obtain rfl := H.h5 (by simp [hi])
      have cc := (H.below.cell (p := ⟨w3.heap.size, 3, none⟩) HPL.out).trans Q3.out
      refine wpOp_hidden rfl fun K hK => ?_
      go_wp2
      refine OnlyN.mk (hK.out _ _ ⟨_, _, _, _, _, _, true, _, _, _, _, _, _, _, _, _, _, _, _, _, .int .i64 bh, _, _, _, _, _, _, _, rfl, rfl, ⟨H.below, H.bld, H.h0, H.h1, H.h2, H.h3, H.h4, H.h5, fun _ => rfl, H.h7, H.h8, H.h9, H.h10, H.h11, H.h12, H.h13⟩⟩)
    · obtain rfl := H.h6 (by simp [hi])
      have hgw := HG4.out.ext H.below
      have HI := Lib.hid (itoa_any bh (by have := HBD.out; omega) (by have := HBD.out; omega) w' hgw)
      rw [Hbh.out] at HI
      clear hgw
      refine wpOp_hidden rfl fun K hK => ?_
      go_wp2_with fail
      refine HI.out.mono ?_
      rintro e w9 ⟨rfl, hb9⟩
      have HA := Lib.hid (H.world hb9)
      clear H hb9
      go_wp2
      refine OnlyN.mk (hK.out _ _ ⟨_, _, _, _, _, _, _, true, _, _, _, _, _, _, _, _, _, _, _, _, _, .string ⟨sh.toArray⟩, _, _, _, _, _, _, rfl, rfl, ⟨HA.out.below, HA.out.bld, HA.out.h0, HA.out.h1, HA.out.h2, HA.out.h3, HA.out.h4, HA.out.h5, HA.out.h6, fun _ => rfl, HA.out.h8, HA.out.h9, HA.out.h10, HA.out.h11, HA.out.h12, HA.out.h13⟩⟩)
    · obtain rfl := H.h4 (by simp [hi])
      obtain rfl := H.h7 (by simp [hi])
      have hle : ¬ 9223372036854775807 < L4.length + sh.length := by have := HLN.out; omega
      refine wpOp_hidden rfl fun K hK => ?_
      go_wp2
      refine OnlyN.mk (hK.out _ _ ⟨_, _, _, _, _, _, _, _, true, _, _, _, _, _, _, _, _, _, _, _, _, _, .string (⟨L4.toArray⟩ ++ ⟨sh.toArray⟩), _, _, _, _, _, rfl, rfl, ⟨H.below, H.bld, H.h0, H.h1, H.h2, H.h3, H.h4, H.h5, H.h6, H.h7, fun _ => by rw [E8.out, ← bytes_app], H.h9, H.h10, H.h11, H.h12, H.h13⟩⟩)
    · obtain rfl := H.h8 (by simp [hi])
      have hle : ¬ 9223372036854775807 < L8.length + 9 := by have := HLN.out; omega
      refine wpOp_hidden rfl fun K hK => ?_
      go_wp2
      refine OnlyN.mk (hK.out _ _ ⟨_, _, _, _, _, _, _, _, _, true, _, _, _, _, _, _, _, _, _, _, _, _, _, .string (⟨L8.toArray⟩ ++ ⟨#[44, 32, 114, 117, 108, 101, 32, 61, 32]⟩), _, _, _, _, rfl, rfl, ⟨H.below, H.bld, H.h0, H.h1, H.h2, H.h3, H.h4, H.h5, H.h6, H.h7, H.h8, fun _ => by rw [E9.out, ← bytes_app], H.h10, H.h11, H.h12, H.h13⟩⟩)
    · refine wpOp_hidden rfl fun K hK => ?_
      go_wp2
      refine OnlyN.mk (hK.out _ _ ⟨_, _, _, _, _, _, _, _, _, _, true, _, _, _, _, _, _, _, _, _, _, _, _, _, .string ⟨rule.toArray⟩, _, _, _, rfl, rfl, ⟨H.below, H.bld, H.h0, H.h1, H.h2, H.h3, H.h4, H.h5, H.h6, H.h7, H.h8, H.h9, fun _ => rfl, H.h11, H.h12, H.h13⟩⟩)
    · obtain rfl := H.h9 (by simp [hi])
      obtain rfl := H.h10 (by simp [hi])
      have hle : ¬ 9223372036854775807 < L9.length + rule.length := by have := HLN.out; omega
      refine wpOp_hidden rfl fun K hK => ?_
      go_wp2
      refine OnlyN.mk (hK.out _ _ ⟨_, _, _, _, _, _, _, _, _, _, _, true, _, _, _, _, _, _, _, _, _, _, _, _, _, .string (⟨L9.toArray⟩ ++ ⟨rule.toArray⟩), _, _, rfl, rfl, ⟨H.below, H.bld, H.h0, H.h1, H.h2, H.h3, H.h4, H.h5, H.h6, H.h7, H.h8, H.h9, H.h10, fun _ => by rw [E11.out, ← bytes_app], H.h12, H.h13⟩⟩)
    · obtain rfl := H.h11 (by simp [hi])
      have hle : ¬ 9223372036854775807 < L11.length + 1 := by have := HLN.out; omega
      refine wpOp_hidden rfl fun K hK => ?_
      go_wp2
      refine OnlyN.mk (hK.out _ _ ⟨_, _, _, _, _, _, _, _, _, _, _, _, true, _, _, _, _, _, _, _, _, _, _, _, _, _, .string (⟨L11.toArray⟩ ++ ⟨#[10]⟩), _, rfl, rfl, ⟨H.below, H.bld, H.h0, H.h1, H.h2, H.h3, H.h4, H.h5, H.h6, H.h7, H.h8, H.h9, H.h10, H.h11, fun _ => by rw [E12.out, ← bytes_app], H.h13⟩⟩)
    · obtain rfl := H.h12 (by simp [hi])
      have W1 := writeString_any w4.heap.size w4.heap.size [] ⟨L12.toArray⟩ w' (H.bld (by simp [hi])) (by have := HLN.out; simp [ByteArray.size]; omega) H.below.size
      rw [show ([] : List Value) ++ Lib.strCells ⟨L12.toArray⟩ = Lib.byteCells L12 by simp [Lib.byteCells, Lib.strCells]] at W1
      have HW1 := Lib.hid W1
      have HH := Lib.hid H
      clear W1 H
      refine wpOp_hidden rfl fun K hK => ?_
      go_wp2_with fail
      refine HW1.out.mono ?_
      rintro e w9 ⟨rfl, hb9, hbe9⟩
      have HBE := Lib.hid (HH.out.below.trans hbe9)
      have HB9 := Lib.hid hb9
      clear hb9 hbe9
      go_wp2
      refine OnlyN.mk (hK.out _ _ ⟨_, _, _, _, _, _, _, _, _, _, _, _, _, true, _, _, _, _, _, _, _, _, _, _, _, _, _, _, rfl, rfl, ⟨HBE.out, (fun h => by cases h), HH.out.h0, HH.out.h1, HH.out.h2, HH.out.h3, HH.out.h4, HH.out.h5, HH.out.h6, HH.out.h7, HH.out.h8, HH.out.h9, HH.out.h10, HH.out.h11, HH.out.h12, fun _ => HB9.out⟩⟩)
  · rintro listed act w' hr ⟨b0, b1, b2, b3, b4, b5, b6, b7, b8, b9, b10, b11, b12, b13, v34, v35, v36, v37, v38, v39, v40, v41, v42, v43, v44, v45, v46, v47, rfl, rfl, H⟩
    have hn := List.eq_nil_iff_forall_not_mem.1 hr
    have r0 := hn 0
    simp [mem_ready, Region.binds] at r0
    subst r0
    have r1 := hn 1
    simp [mem_ready, Region.binds] at r1
    subst r1
    have r2 := hn 2
    simp [mem_ready, Region.binds] at r2
    subst r2
    have r3 := hn 3
    simp [mem_ready, Region.binds] at r3
    subst r3
    have r4 := hn 4
    simp [mem_ready, Region.binds] at r4
    subst r4
    have r5 := hn 5
    simp [mem_ready, Region.binds] at r5
    subst r5
    have r6 := hn 6
    simp [mem_ready, Region.binds] at r6
    subst r6
    have r7 := hn 7
    simp [mem_ready, Region.binds] at r7
    subst r7
    have r8 := hn 8
    simp [mem_ready, Region.binds] at r8
    subst r8
    have r9 := hn 9
    simp [mem_ready, Region.binds] at r9
    subst r9
    have r10 := hn 10
    simp [mem_ready, Region.binds] at r10
    subst r10
    have r11 := hn 11
    simp [mem_ready, Region.binds] at r11
    subst r11
    have r12 := hn 12
    simp [mem_ready, Region.binds] at r12
    subst r12
    have r13 := hn 13
    simp [mem_ready, Region.binds] at r13
    subst r13
    dsimp only
    have hB5 := H.h13 rfl
    have HBB := HB
    have hbe5 := H.below
    clear H hr hn
    generalize w' = w5 at *
    have HIS : Hid (∀ k r, (runsL ps)[k]? = some r → (itemsL ps)[k]? = some (itemC (decide (topC ps ≤ 1)) r)) := Lib.hid (by intro k r h; unfold itemsL; rw [List.getElem?_map, h]; rfl)
    have HIL : Hid ((itemsL ps).length = (runsL ps).length) := Lib.hid (by unfold itemsL; simp)
    have HSP := Lib.hid (runs_spec ps)
    have HI8 : Hid (∀ x ∈ itemsL ps, x.length ≤ 8) := Lib.hid (by
      intro x hx
      unfold itemsL at hx
      rw [List.mem_map] at hx
      obtain ⟨r, hr, rfl⟩ := hx
      have h := (HSP.out.2.2 r hr).1
      exact item_len _ r (by have := h.2.2.1; omega) (by have := h.2.2.2; omega))
    have HWL : Hid (∀ k, (wrapL L12 ((itemsL ps).take k)).1.length + (wrapL L12 ((itemsL ps).take k)).2.length ≤ 140000) := Lib.hid (by
      intro k
      have h1 := wrap_len L12 ((itemsL ps).take k) (fun x hx => HI8.out x (List.mem_of_mem_take hx))
      have h2 := HLN.out
      have h3 : ((itemsL ps).take k).length ≤ 15000 := by rw [List.length_take, HIL.out]; have := HSP.out.2.1; omega
      omega)
    have hW5 : Below w5.heap.size w5 (w5.alloc (.cells #[.int .i64 0] 3)) := below_new _ _
    have hu6 := Blk.new w5 3 #[.int .i64 0]
    obtain ⟨w6, hw6⟩ : ∃ w6, w6 = w5.alloc (.cells #[.int .i64 0] 3) := ⟨_, rfl⟩
    rw [← hw6] at hW5 hu6
    have hlt45 : w4.heap.size < w5.heap.size := hB5.lt
    have HB6 := Lib.hid (builder_ext hB5 hW5)
    have HU6 := Lib.hid hu6
    have HE6 := Lib.hid (hbe5.trans (hW5.mono hbe5.size))
    have HW6 := Lib.hid hw6
    have HS6 : Hid (w5.heap.size < w6.heap.size) := Lib.hid hu6.lt
    have HTP := Lib.hid (top_any A c ps w6 (ha.ext (HB.out.trans (HE6.out.mono HB.out.size))))
    have HRU := Lib.hid (runs_own A c ps w6 (ha.ext (HB.out.trans (HE6.out.mono HB.out.size))))
    have HB5s := Lib.hid hbe5.size
    clear hB5 hbe5 hW5 hu6 hw6
    obtain ⟨top, htop⟩ : ∃ t, t = topC ps := ⟨_, rfl⟩
    obtain ⟨l, hl⟩ : ∃ l, l = runsL ps := ⟨_, rfl⟩
    obtain ⟨its, hits⟩ : ∃ l, l = itemsL ps := ⟨_, rfl⟩
    rw [← htop] at HTP HIS HSP
    rw [← hl] at HRU HIS HSP HIL
    rw [← hits] at HIS HIL HI8 HWL HF2
    clear htop hl hits
    go_upto_region 12 with fail
    rw [← HW6.out]
    go_wp2_with fail
    refine HTP.out.mono ?_
    rintro e w7 ⟨rfl, hw7⟩
    subst hw7
    go_wp2_with fail
    refine HRU.out.mono ?_
    rintro e w8 ⟨v, base, rfl, hbase, ho, hb8⟩
    obtain ⟨A2, a2, rfl, -, -⟩ := ho.pts
    have HB8 := Lib.hid (builder_ext HB6.out hb8)
    have HU8 := Lib.hid (HU6.out.below hb8 HS6.out)
    have HE8 := Lib.hid (HE6.out.trans (hb8.mono HE6.out.size))
    have HO8 := Lib.hid ho
    have HBS := Lib.hid hbase
    clear ho hb8 hbase
    go_wp2
    go_loopw [55] (fun i wr => ∃ k : Nat, k ≤ l.length ∧ i = .int .i64 k ∧ Hid (Lib.BuilderAt 50 5 w4.heap.size w4.heap.size (.pointer (some ⟨w4.heap.size, 0, none⟩)) (Lib.byteCells ((wrapL L12 (its.take k)).1 ++ (wrapL L12 (its.take k)).2)) wr) ∧ Hid (Blk wr w5.heap.size 3 #[.int .i64 (wrapL L12 (its.take k)).2.length]) ∧ Hid (OwnP 31 wr base (.slice A2 l.length a2) l) ∧ Hid (Below w4.heap.size w4 wr)) (fun i _ => l.length - (intOf i).toNat)
    case atStart =>
      refine ⟨0, Nat.zero_le _, rfl, ?_, HU8, HO8, HE8⟩
      have h := HB8.out
      exact Lib.hid (by rw [show (wrapL L12 (its.take 0)).1 ++ (wrapL L12 (its.take 0)).2 = L12 by simp [wrapL]]; exact h)
    case round =>
      clear HB8 HU8 HO8 HE8
      obtain ⟨k, hk, rfl, HB, HU, HO, HE⟩ := hrel
      by_cases hlt : k < l.length
      · obtain ⟨A3, a3, e3, hpt, -⟩ := HO.out.pts
        injection e3 with e4 e5 e6
        subst e4 e6
        obtain ⟨b1, o1, e1, -, hr1, hr2⟩ := hpt.at_ hlt
        have HIX : its[k]? = some (itemC (decide (top ≤ 1)) l[k]) := HIS.out k l[k] (List.getElem?_eq_getElem hlt)
        have hkl : k < its.length := by rw [HIL.out]; exact hlt
        have hrk := HSP.out.2.2 l[k] (List.getElem_mem hlt)
        obtain ⟨r, hr⟩ : ∃ r, r = l[k] := ⟨_, rfl⟩
        rw [← hr] at hr1 hr2 HIX hrk
        have HTK : Hid (wrapL L12 (its.take (k + 1)) = putL (wrapL L12 (its.take k)) (itemC (decide (top ≤ 1)) r)) := Lib.hid (by
          rw [wrap_snoc L12 hkl]
          congr 1
          rw [List.getElem?_eq_getElem hkl] at HIX
          exact Option.some.inj HIX)
        clear HIX hr hpt
        obtain ⟨a, q⟩ := r
        dsimp only at hr1 hr2 hrk
        have HRK := Lib.hid hrk
        have hwl := HWL.out k
        obtain ⟨t, ht⟩ : ∃ t, t = wrapL L12 (its.take k) := ⟨_, rfl⟩
        rw [← ht] at HB HU HTK hwl
        clear ht
        have hnb := below_new wr (.cells #[.int .i64 a, .int .i64 q] 31)
        have p0 := Blk.new wr 31 #[.int .i64 a, .int .i64 q]
        obtain ⟨wb, hwb⟩ : ∃ wb, wb = wr.alloc (.cells #[.int .i64 a, .int .i64 q] 31) := ⟨_, rfl⟩
        rw [← hwb] at hnb p0
        have HB1 := Lib.hid (builder_ext HB.out hnb)
        have HU1 := Lib.hid (HU.out.below hnb HU.out.lt)
        have HO1 := Lib.hid (HO.out.ext hnb)
        have HE1 := Lib.hid (HE.out.trans (hnb.mono HE.out.size))
        have HP := Lib.hid p0
        have HW := Lib.hid hwb
        have HLW := Lib.hid hwl
        clear HB HU HO HE hnb p0 hwb hwl hrk
        have P0 := HP.out.cell_ 0 (.int .i64 a) rfl
        have P1 := HP.out.cell_ 1 (.int .i64 q) rfl
        have hq1 : decide (top ≤ 1) = true → q ≤ 1 := by
          intro h
          have h1 := HRK.out.1.2.1
          have h2 : top ≤ 1 := by simpa using h
          exact Int.le_trans h1 h2
        have hwk : wrap64 ((k : Int) + 1) = (k : Int) + 1 := by have := HSP.out.2.1; unfold wrap64; omega
        have HLC := Lib.hid (letter_any q (decide (top ≤ 1)) wb HRK.out.2 hq1)
        clear hq1
        have HL1 := Lib.hid (letC_len q (decide (top ≤ 1)))
        have HIC : Hid (itemC (decide (top ≤ 1)) (a, q) = (if 1 < a then Lib.itoa a else []) ++ letC q (decide (top ≤ 1))) := Lib.hid rfl
        obtain ⟨lc, hlc⟩ : ∃ x, x = letC q (decide (top ≤ 1)) := ⟨_, rfl⟩
        rw [← hlc] at HLC HL1 HIC
        clear hlc
        subst e1
        go_upto_region 16 with fail
        rw [← HW.out]
        go_wp2_with fail
        refine HLC.out.mono ?_
        rintro e w9 ⟨rfl, hw9⟩
        have hw8 := hw9.symm
        clear hw9
        subst hw8
        by_cases h1 : 1 < a
        · have d1 : decide (1 < a) = true := decide_eq_true h1
          have HS : Hid (itemC (decide (top ≤ 1)) (a, q) = Lib.itoa a ++ lc) := Lib.hid (by rw [HIC.out, if_pos h1])
          have HIT := Lib.hid (itoa_any a (by omega) (by have := HRK.out.1.2.2.2; omega) wb (HG4.out.ext (HE1.out)))
          have hsl := itoa_len a (by omega) (by have := HRK.out.1.2.2.2; omega)
          obtain ⟨sa, hsa⟩ : ∃ x, x = Lib.itoa a := ⟨_, rfl⟩
          rw [← hsa] at HS HIT hsl
          have hle : ¬ 9223372036854775807 < sa.length + lc.length := by have := HL1.out; omega
          have HSL := Lib.hid hsl
          clear hsa hsl h1
          go_wp2_with fail
          refine HIT.out.mono ?_
          rintro e w10 ⟨rfl, hb10⟩
          have HB2 := Lib.hid (builder_ext HB1.out hb10)
          have HU2 := Lib.hid (HU1.out.below hb10 HU1.out.lt)
          have HO2 := Lib.hid (HO1.out.ext hb10)
          have HE2 := Lib.hid (HE1.out.trans (hb10.mono HE1.out.size))
          clear hb10 P0 P1
          have W := put_any w4.heap.size w4.heap.size w5.heap.size t (sa ++ lc) w10 (.inr HB2.out) HU2.out (by have := HB5s.out; omega) HB5s.out HE2.out.size (by have := HLW.out; have := HSL.out; have := HL1.out; rw [List.length_append]; omega)
          rw [← bytes_app sa lc, ← HS.out, ← HTK.out] at W
          have HPW := Lib.hid W
          clear W
          go_wp2_with fail
          refine HPW.out.mono ?_
          rintro e w11 ⟨rfl, hp⟩
          have HB3 := Lib.hid hp.bld
          have HU3 := Lib.hid hp.used
          have HO3 := Lib.hid (own_kept HO2.out (by have := HBS.out; have := HS6.out; omega) (by have := HBS.out; have := HS6.out; omega) hp.kept)
          have HE3 := Lib.hid (HE2.out.trans hp.below)
          clear hp
          go_wp2
          go_roundw
          case rel => exact ⟨k + 1, by omega, by go_num, HB3, HU3, HO3, HE3⟩
          case measure => rw [hwk]; exact meas_up hlt
        · have d1 : decide (1 < a) = false := decide_eq_false h1
          have HS : Hid (itemC (decide (top ≤ 1)) (a, q) = lc) := Lib.hid (by rw [HIC.out, if_neg h1]; rfl)
          have W := put_any w4.heap.size w4.heap.size w5.heap.size t lc wb (.inr HB1.out) HU1.out (by have := HB5s.out; omega) HB5s.out HE1.out.size (by have := HLW.out; have := HL1.out; omega)
          rw [← HS.out, ← HTK.out, HS.out] at W
          have HPW := Lib.hid W
          clear W h1
          go_wp2_with fail
          refine HPW.out.mono ?_
          rintro e w11 ⟨rfl, hp⟩
          have HB3 := Lib.hid hp.bld
          have HU3 := Lib.hid hp.used
          have HO3 := Lib.hid (own_kept HO1.out (by have := HBS.out; have := HS6.out; omega) (by have := HBS.out; have := HS6.out; omega) hp.kept)
          have HE3 := Lib.hid (HE1.out.trans hp.below)
          clear hp P0 P1
          go_wp2
          go_roundw
          case rel => exact ⟨k + 1, by omega, by go_num, HB3, HU3, HO3, HE3⟩
          case measure => rw [hwk]; exact meas_up hlt
      · obtain rfl : k = l.length := by omega
        have htk : its.take l.length = its := by rw [← HIL.out]; exact List.take_length
        have hwl := HWL.out l.length
        rw [htk] at HB HU hwl
        have HF3 : Hid (fullT ps rule = (putL (wrapL L12 its) [33]).1 ++ (putL (wrapL L12 its) [33]).2 ++ [10]) := Lib.hid HF2.out
        obtain ⟨t, ht⟩ : ∃ t, t = wrapL L12 its := ⟨_, rfl⟩
        rw [← ht] at HB HU hwl HF3
        have hpl := put_len t [33]
        have W : Calls Tryd.prog 21 #[.string ⟨#[33]⟩, .pointer (some ⟨w5.heap.size, 0, none⟩), .pointer (some ⟨w4.heap.size, 0, none⟩)] wr fun e w' => e = .returned (.tuple #[]) ∧ PutR w4.heap.size w4.heap.size w5.heap.size (putL t [33]) wr w' := put_any w4.heap.size w4.heap.size w5.heap.size t [33] wr (.inr HB.out) HU.out (by have := HB5s.out; omega) HB5s.out HE.out.size (by simp; omega)
        obtain ⟨u, hu⟩ : ∃ u, u = putL t [33] := ⟨_, rfl⟩
        rw [← hu] at W hpl HF3
        have HPW := Lib.hid W
        have HPL : Hid (u.1.length + u.2.length ≤ 150000) := Lib.hid (by simp at hpl; omega)
        clear W htk ht hu hwl hpl
        go_wp2_with fail
        refine HPW.out.mono ?_
        rintro e w9 ⟨rfl, hp⟩
        have HE2 := Lib.hid (HE.out.trans hp.below)
        have W2 := writeByte_any w4.heap.size w4.heap.size (Lib.byteCells (u.1 ++ u.2)) 10 w9 (.inr hp.bld) (by rw [Lib.byteCells_length, List.length_append]; have := HPL.out; omega) HE2.out.size
        rw [sc_nl] at W2
        have HW2 := Lib.hid W2
        clear W2 hp
        go_wp2_with fail
        refine HW2.out.mono ?_
        rintro e w10 ⟨rfl, hb10, hbe10⟩
        have HE3 := Lib.hid (HE2.out.trans hbe10)
        obtain ⟨f, hf⟩ : ∃ f, f = u.1 ++ u.2 ++ [10] := ⟨_, rfl⟩
        rw [← hf] at hb10 HF3
        have hfl : f.length ≤ 150001 := by rw [hf, List.length_append, List.length_append]; have := HPL.out; simp; omega
        have HLE := Lib.hid (Tryd.Builder_Len w4.heap.size w4.heap.size (Lib.byteCells f) w10 (.inr hb10))
        have HST := Lib.hid (Tryd.Builder_String_any w4.heap.size w4.heap.size f w10 (.inr hb10) HE3.out.size)
        rw [Lib.byteCells_length] at HLE
        rw [HF3.out] at HT
        clear hb10 hbe10 hf
        go_wp2_with fail
        refine HLE.out.mono ?_
        rintro e w11 ⟨rfl, hw11⟩
        have hw12 := hw11.symm
        clear hw11
        subst hw12
        by_cases h1 : 65536 < f.length
        · have HN : Hid (textL ps rule = ([], 6)) := Lib.hid (by rw [HT.out, if_pos h1])
          have d1 : decide ((65536 : Int) < (f.length : Int)) = true := decide_eq_true (by omega)
          go_wp2
          go_ret2
          rw [HN.out]
          exact ⟨rfl, HBB.out.trans (HE3.out.mono HBB.out.size)⟩
        · have HN : Hid (textL ps rule = (f, 0)) := Lib.hid (by rw [HT.out, if_neg h1])
          have d1 : decide ((65536 : Int) < (f.length : Int)) = false := decide_eq_false (by omega)
          go_wp2_with fail
          refine HST.out.mono ?_
          rintro e w12 ⟨rfl, hb12⟩
          have HE4 := Lib.hid (HE3.out.trans hb12)
          clear hb12
          go_wp2
          go_ret2
          rw [HN.out]
          exact ⟨rfl, HBB.out.trans (HE4.out.mono HBB.out.size)⟩
end Go.Proofs.YtekmldneinnmoaaDoor
