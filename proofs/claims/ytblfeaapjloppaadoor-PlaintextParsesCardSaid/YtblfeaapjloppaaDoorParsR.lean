/-
  cellularref31.Parse. At most 65536 bytes.
-/
import Derived.Test.YtblfeaapjloppaaDoorPars
namespace Go.Proofs.YtblfeaapjloppaaDoor
open Go.RowKit
set_option maxRecDepth 100000
set_option linter.unusedVariables false
set_option linter.unusedSimpArgs false

set_option maxHeartbeats 1000000 in
theorem rstate_any (c : UInt8) (w : World) : Calls Tryd.prog 23 #[.int .u8 c.toNat] w fun e w' => e = .returned (.int .i64 (st31 c)) ∧ w' = w := by
  have hi := st31_i c
  have hb : (c.toNat : Int) < 256 := by have := c.toNat_lt; omega
  have hb0 : (0 : Int) ≤ c.toNat := by omega
  generalize (c.toNat : Int) = n at *
  generalize st31 c = v at *
  by_cases h1 : n = 46
  · rw [if_pos h1] at hi
    subst hi h1
    go_enter Tryd.func23, Tryd.ntmps23
    go_wp2
    go_ret
    exact ⟨rfl, rfl⟩
  · have e1 : (n == 46) = false := by simpa using h1
    rw [if_neg h1] at hi
    clear h1
    by_cases h2 : n = 79
    · rw [if_pos h2] at hi
      subst hi h2
      go_enter Tryd.func23, Tryd.ntmps23
      go_wp2
      go_ret
      exact ⟨rfl, rfl⟩
    · have e2 : (n == 79) = false := by simpa using h2
      rw [if_neg h2] at hi
      clear h2
      by_cases h3 : 49 ≤ n
      · have d3 : decide (49 ≤ n) = true := decide_eq_true h3
        by_cases h4 : n ≤ 55
        · have d4 : decide (n ≤ 55) = true := decide_eq_true h4
          have hw : IntKind.u8.wrap (n - 48) = n - 48 := by rw [IntKind.wrap_u8]; omega
          rw [if_pos ⟨h3, h4⟩] at hi
          rw [hi]
          clear hi
          go_enter Tryd.func23, Tryd.ntmps23
          go_wp2
          go_ret
          exact ⟨rfl, rfl⟩
        · have d4 : decide (n ≤ 55) = false := decide_eq_false h4
          rw [if_neg (fun h => h4 h.2)] at hi
          subst hi
          go_enter Tryd.func23, Tryd.ntmps23
          go_wp2
          go_ret
          exact ⟨rfl, rfl⟩
      · have d3 : decide (49 ≤ n) = false := decide_eq_false h3
        rw [if_neg (fun h => h3 h.1)] at hi
        subst hi
        go_enter Tryd.func23, Tryd.ntmps23
        go_wp2
        go_ret
        exact ⟨rfl, rfl⟩
/-- what the bytes that have been read have made -/
structure ByteI (l : List UInt8) (k : Nat) (s : RM) : Prop where
  x0 : 0 ≤ s.x
  x1 : s.x ≤ k
  y0 : 0 ≤ s.y
  y1 : s.y ≤ k
  n : s.out.length ≤ k
  m : rm l ⟨[], 0, 0, false, true⟩ = rm (l.drop k) s
theorem ByteI.start (l : List UInt8) : ByteI l 0 ⟨[], 0, 0, false, true⟩ := ⟨by simp, by simp, by simp, by simp, by simp, rfl⟩
section
variable {l : List UInt8} {k : Nat} {s : RM} (h : ByteI l k s) (hk : k < l.length)
include h hk
theorem ByteI.nl (hc : l[k] = 10) : ByteI l (k + 1) ⟨s.out, 0, if s.com = true then s.y else s.y + 1, false, true⟩ := by
  have h1 := h.x0; have h2 := h.x1; have h3 := h.y0; have h4 := h.y1; have h5 := h.n
  refine ⟨by simp, by show (0 : Int) ≤ _; omega, ?_, ?_, by show s.out.length ≤ _; omega, ?_⟩
  · show 0 ≤ if s.com = true then s.y else s.y + 1
    split <;> omega
  · show (if s.com = true then s.y else s.y + 1) ≤ _
    split <;> omega
  · rw [h.m, List.drop_eq_getElem_cons hk, rm, if_pos hc]
theorem ByteI.com (hc : ¬ l[k] = 10) (h33 : s.com = true ∨ (s.beg = true ∧ l[k] = 33)) : ByteI l (k + 1) ⟨s.out, s.x, s.y, true, false⟩ := by
  have h1 := h.x0; have h2 := h.x1; have h3 := h.y0; have h4 := h.y1; have h5 := h.n
  refine ⟨h1, by show s.x ≤ _; omega, h3, by show s.y ≤ _; omega, by show s.out.length ≤ _; omega, ?_⟩
  rw [h.m, List.drop_eq_getElem_cons hk, rm, if_neg hc, if_pos h33]
theorem ByteI.bad (hc : ¬ l[k] = 10) (h33 : ¬ (s.com = true ∨ (s.beg = true ∧ l[k] = 33))) (hs : st31 l[k] < 0) : rm l ⟨[], 0, 0, false, true⟩ = ([], 15) := by
  rw [h.m, List.drop_eq_getElem_cons hk, rm, if_neg hc, if_neg h33, if_pos hs]
theorem ByteI.cel (hc : ¬ l[k] = 10) (h33 : ¬ (s.com = true ∨ (s.beg = true ∧ l[k] = 33))) (hs : 0 < st31 l[k]) : ByteI l (k + 1) ⟨s.out ++ [⟨s.x, s.y, st31 l[k]⟩], s.x + 1, s.y, false, false⟩ := by
  have h1 := h.x0; have h2 := h.x1; have h3 := h.y0; have h4 := h.y1; have h5 := h.n
  refine ⟨by show 0 ≤ s.x + 1; omega, by show s.x + 1 ≤ _; omega, h3, by show s.y ≤ _; omega, by show (s.out ++ _).length ≤ _; simp; omega, ?_⟩
  rw [h.m, List.drop_eq_getElem_cons hk, rm, if_neg hc, if_neg h33, if_neg (by omega), if_pos hs]
theorem ByteI.dot (hc : ¬ l[k] = 10) (h33 : ¬ (s.com = true ∨ (s.beg = true ∧ l[k] = 33))) (hs : st31 l[k] = 0) : ByteI l (k + 1) ⟨s.out, s.x + 1, s.y, false, false⟩ := by
  have h1 := h.x0; have h2 := h.x1; have h3 := h.y0; have h4 := h.y1; have h5 := h.n
  refine ⟨by show 0 ≤ s.x + 1; omega, by show s.x + 1 ≤ _; omega, h3, by show s.y ≤ _; omega, by show s.out.length ≤ _; omega, ?_⟩
  rw [h.m, List.drop_eq_getElem_cons hk, rm, if_neg hc, if_neg h33, if_neg (by omega), if_neg (by omega)]
end
theorem ByteI.done {l : List UInt8} {k : Nat} {s : RM} (h : ByteI l k s) (hk : l.length ≤ k) : rm l ⟨[], 0, 0, false, true⟩ = if 5000 < s.out.length then ([], 6) else (s.out, 0) := by
  rw [h.m, List.drop_of_length_le hk, rm]
theorem lt32 {a k n : Nat} (h : a ≤ k) (h2 : k < n) (h3 : n ≤ 65536) : a < 4294967296 := by omega
theorem xw31 {x : Int} {k n : Nat} (h0 : 0 ≤ x) (h : x ≤ k) (h2 : k < n) (h3 : n ≤ 65536) : wrap64 (x + 1) = x + 1 := by unfold wrap64; omega
set_option maxHeartbeats 4000000 in
theorem rparse_any (s : ByteArray) (w : World) (hs : s.size ≤ 65536) :
    Calls Tryd.prog 10 #[.string s] w (RetRead (rm s.data.toList ⟨[], 0, 0, false, true⟩) w) := by
  have d0 : decide ((65536 : Int) < s.size) = false := decide_eq_false (by omega)
  have HBX : Hid (∀ j (h : j < s.size) (h' : j < s.data.toList.length), s.data.toList[j] = s[j]) := Lib.hid (fun j h h' => rfl)
  go_enter Tryd.func10, Tryd.ntmps10
  go_wp2
  go_loopw [4, 5, 6, 7, 8, 9] (fun o x y cm bg i wr => ∃ (k : Nat) (q : RM), i = .int .i64 k ∧ k ≤ s.size ∧ OwnC 34 wr w.heap.size o q.out ∧ x = .int .i64 q.x ∧ y = .int .i64 q.y ∧ cm = .bool q.com ∧ bg = .bool q.beg ∧ Below w.heap.size w wr ∧ Hid (ByteI s.data.toList k q)) (fun _ _ _ _ _ i _ => s.size - (intOf i).toNat)
  case atStart => exact ⟨0, ⟨[], 0, 0, false, true⟩, rfl, Nat.zero_le _, OwnC.nil _ _ _, rfl, rfl, rfl, rfl, Below.refl _ _, Lib.hid (ByteI.start _)⟩
  case round =>
    obtain ⟨k, q, rfl, hk, hown, rfl, rfl, rfl, rfl, hb, HI⟩ := hrel
    obtain ⟨qo, qx, qy, qc, qb⟩ := q
    dsimp only at hown HI ⊢
    by_cases hlt : k < s.size
    · have dk : decide ((k : Int) < s.size) = true := decide_eq_true (by omega)
      have hkl : k < s.data.toList.length := hlt
      have hST := rstate_any (s[k]'hlt)
      have HE := Lib.hid (HBX.out k hlt hkl)
      have hw1 : wrap64 ((k : Int) + 1) = ((k + 1 : Nat) : Int) := wr31 hlt hs
      have hwx : wrap64 (qx + 1) = qx + 1 := xw31 HI.out.x0 HI.out.x1 hlt hs
      have hwy : wrap64 (qy + 1) = qy + 1 := xw31 HI.out.y0 HI.out.y1 hlt hs
      have hln : qo.length < 4294967296 := lt32 HI.out.n hlt hs
      by_cases h10 : (s[k]'hlt) = 10
      · have e10 : (((s[k]'hlt).toNat : Int) == 10) = true := by rw [h10]; rfl
        have HN := Lib.hid (HI.out.nl hkl (by rw [HE.out]; exact h10))
        clear h10 hST
        cases qc with
        | true =>
          go_wp2
          go_roundw
          case rel => exact ⟨k + 1, _, rfl, hlt, hown, rfl, rfl, rfl, rfl, hb, HN⟩
          case measure => exact ms31 hlt
        | false =>
          go_wp2
          go_roundw
          case rel => exact ⟨k + 1, _, rfl, hlt, hown, rfl, (by rw [hwy]; rfl), rfl, rfl, hb, HN⟩
          case measure => exact ms31 hlt
      · have e10 : (((s[k]'hlt).toNat : Int) == 10) = false := by
          simp only [beq_eq_false_iff_ne, ne_eq]
          intro h2
          exact h10 (UInt8.toNat_inj.1 (by show (s[k]'hlt).toNat = 10; omega))
        have H10 : Hid (¬ s.data.toList[k]'hkl = 10) := Lib.hid (by rw [HE.out]; exact h10)
        clear h10
        by_cases h33 : qc = true ∨ (qb = true ∧ (s[k]'hlt) = 33)
        · have HN := Lib.hid (HI.out.com hkl H10.out (by rw [HE.out]; exact h33))
          clear hST
          cases qc with
          | true =>
            cases qb with
            | true =>
              cases e33 : (((s[k]'hlt).toNat : Int) == 33) with
              | true =>
                clear h33
                go_wp2
                go_roundw
                case rel => exact ⟨k + 1, _, rfl, hlt, hown, rfl, rfl, rfl, rfl, hb, HN⟩
                case measure => exact ms31 hlt
              | false =>
                clear h33
                go_wp2
                go_roundw
                case rel => exact ⟨k + 1, _, rfl, hlt, hown, rfl, rfl, rfl, rfl, hb, HN⟩
                case measure => exact ms31 hlt
            | false =>
              clear h33
              go_wp2
              go_roundw
              case rel => exact ⟨k + 1, _, rfl, hlt, hown, rfl, rfl, rfl, rfl, hb, HN⟩
              case measure => exact ms31 hlt
          | false =>
            have h34 := h33.resolve_left (by simp)
            obtain ⟨rfl, h35⟩ := h34
            have e33 : (((s[k]'hlt).toNat : Int) == 33) = true := by rw [h35]; rfl
            clear h33 h35
            go_wp2
            go_roundw
            case rel => exact ⟨k + 1, _, rfl, hlt, hown, rfl, rfl, rfl, rfl, hb, HN⟩
            case measure => exact ms31 hlt
        · have H33 : Hid (¬ (qc = true ∨ (qb = true ∧ s.data.toList[k]'hkl = 33))) := Lib.hid (by rw [HE.out]; exact h33)
          obtain rfl : qc = false := by cases qc with | true => exact absurd (.inl rfl) h33 | false => rfl
          have hbe : qb = false ∨ (qb = true ∧ (((s[k]'hlt).toNat : Int) == 33) = false) := by
            cases qb with
            | false => exact .inl rfl
            | true =>
              refine .inr ⟨rfl, ?_⟩
              simp only [beq_eq_false_iff_ne, ne_eq]
              intro h2
              exact h33 (.inr ⟨rfl, UInt8.toNat_inj.1 (by show (s[k]'hlt).toNat = 33; omega)⟩)
          clear h33
          have HS : Hid (st31 (s.data.toList[k]'hkl) = st31 (s[k]'hlt)) := Lib.hid (by rw [HE.out])
          by_cases hs0 : st31 (s[k]'hlt) < 0
          · have ds : decide (st31 (s[k]'hlt) < 0) = true := decide_eq_true hs0
            have HN := Lib.hid (HI.out.bad hkl H10.out H33.out (by rw [HS.out]; exact hs0))
            clear hs0
            rcases hbe with rfl | ⟨rfl, e33⟩
            · go_wp2_with fail
              refine (hST _).mono ?_
              rintro e w1 ⟨rfl, hw1⟩
              have hw2 := hw1.symm
              clear hw1
              subst hw2
              go_wp2
              go_ret2
              exact RetRead.bad HN.out hb
            · go_wp2_with fail
              refine (hST _).mono ?_
              rintro e w1 ⟨rfl, hw1⟩
              have hw2 := hw1.symm
              clear hw1
              subst hw2
              go_wp2
              go_ret2
              exact RetRead.bad HN.out hb
          · have ds : decide (st31 (s[k]'hlt) < 0) = false := decide_eq_false hs0
            by_cases hs1 : 0 < st31 (s[k]'hlt)
            · have d1 : decide (0 < st31 (s[k]'hlt)) = true := decide_eq_true hs1
              have HN := Lib.hid (HI.out.cel hkl H10.out H33.out (by rw [HS.out]; exact hs1))
              rw [HS.out] at HN
              have hbs := hb.size
              clear hs0 hs1
              have hown2 := hown
              clear hown
              rcases hbe with rfl | ⟨rfl, e33⟩
              · go_wp2_with fail
                refine (hST _).mono ?_
                rintro e w1 ⟨rfl, hw1⟩
                have hw2 := hw1.symm
                clear hw1
                subst hw2
                clear hST
                go_wp2_with (at_builtin; refine wpList_pushC rfl _ _ _ rfl w.heap.size 34 Tryd.underlying24 Tryd.infoCell _ _ rfl hown2 _ _ _ rfl hln hbs ?_)
                intro v' w9 ho9 hb9
                go_wp2
                go_roundw
                case rel => exact ⟨k + 1, _, rfl, hlt, ho9, (by rw [hwx]), rfl, rfl, rfl, hb.trans hb9, HN⟩
                case measure => exact ms31 hlt
              · go_wp2_with fail
                refine (hST _).mono ?_
                rintro e w1 ⟨rfl, hw1⟩
                have hw2 := hw1.symm
                clear hw1
                subst hw2
                clear hST
                go_wp2_with (at_builtin; refine wpList_pushC rfl _ _ _ rfl w.heap.size 34 Tryd.underlying24 Tryd.infoCell _ _ rfl hown2 _ _ _ rfl hln hbs ?_)
                intro v' w9 ho9 hb9
                go_wp2
                go_roundw
                case rel => exact ⟨k + 1, _, rfl, hlt, ho9, (by rw [hwx]), rfl, rfl, rfl, hb.trans hb9, HN⟩
                case measure => exact ms31 hlt
            · have d1 : decide (0 < st31 (s[k]'hlt)) = false := decide_eq_false hs1
              have HN := Lib.hid (HI.out.dot hkl H10.out H33.out (by rw [HS.out]; omega))
              clear hs0 hs1
              rcases hbe with rfl | ⟨rfl, e33⟩
              · go_wp2_with fail
                refine (hST _).mono ?_
                rintro e w1 ⟨rfl, hw1⟩
                have hw2 := hw1.symm
                clear hw1
                subst hw2
                clear hST
                go_wp2
                go_roundw
                case rel => exact ⟨k + 1, _, rfl, hlt, hown, (by rw [hwx]), rfl, rfl, rfl, hb, HN⟩
                case measure => exact ms31 hlt
              · go_wp2_with fail
                refine (hST _).mono ?_
                rintro e w1 ⟨rfl, hw1⟩
                have hw2 := hw1.symm
                clear hw1
                subst hw2
                clear hST
                go_wp2
                go_roundw
                case rel => exact ⟨k + 1, _, rfl, hlt, hown, (by rw [hwx]), rfl, rfl, rfl, hb, HN⟩
                case measure => exact ms31 hlt
    · have dk : decide ((k : Int) < s.size) = false := decide_eq_false (by omega)
      have hm := HI.out.done (Nat.le_of_not_lt hlt)
      dsimp only at hm
      obtain ⟨A, c, hv, hcl, -⟩ := hown.cls
      subst hv
      clear hown
      by_cases hbig : 5000 < qo.length
      · have dl : decide ((5000 : Int) < qo.length) = true := decide_eq_true (by omega)
        have HN := Lib.hid (hm.trans (if_pos hbig))
        clear hm
        go_wp2
        go_ret2
        exact RetRead.bad HN.out hb
      · have dl : decide ((5000 : Int) < qo.length) = false := decide_eq_false (by omega)
        have HN := Lib.hid (hm.trans (if_neg hbig))
        clear hm
        go_wp2
        go_ret2
        exact ⟨A, c, (by rw [HN.out]; rfl), (by rw [HN.out]; exact hcl), hb⟩
end Go.Proofs.YtblfeaapjloppaaDoor
