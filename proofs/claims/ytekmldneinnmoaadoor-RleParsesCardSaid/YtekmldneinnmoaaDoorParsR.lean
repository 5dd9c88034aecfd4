/-
  cellularref30.Parse. Any text of at most 2^31 bytes.
-/
import Derived.Test.YtekmldneinnmoaaDoorPars
import Derived.Deep.CutRange
namespace Go.Proofs.YtekmldneinnmoaaDoor
open Go.RowKit
set_option maxRecDepth 100000
set_option linter.unusedVariables false
set_option linter.unusedSimpArgs false

/-- the loop's law -/
structure RqI (l : List UInt8) (wd ht : Int) (q0 pos : Nat) (ds : List UInt8) (p : PS) : Prop where
  x0 : 0 ≤ p.x
  x1 : p.x ≤ 10000000 * pos
  y0 : 0 ≤ p.y
  y1 : p.y ≤ 10000000 * pos
  n : p.out.length ≤ 5000
  m : readM wd ht (l.drop q0) [] ps0 = readM wd ht (l.drop pos) ds p
theorem RqI.next {l : List UInt8} {wd ht : Int} {q0 pos : Nat} {ds : List UInt8} {p : PS} (h : RqI l wd ht q0 pos ds p) {b : UInt8} {k n : Int} {q : PS} (hb : l.drop pos = b :: l.drop (pos + 1)) (hd : isDig b = false) (h2 : ds = [] → ¬ (b = 32 ∨ b = 10) ∧ ¬ b = 33)
    (hk : stateC b.toNat = k) (hk2 : ¬ k = -2) (hn : runN ds = n) (hn0 : 0 ≤ n) (hn1 : n ≤ 10000000) (hs : stepP wd ht p k n = (q, 0)) : RqI l wd ht q0 (pos + 1) [] q := by
  have hm : readM wd ht (l.drop q0) [] ps0 = readM wd ht (l.drop (pos + 1)) [] q := by
    rw [h.m, hb, rd_step hd h2 (by rw [hk]; exact hk2) (by rw [hk, hn, hs]), hk, hn, hs]
  have hx := h.x0
  have hx1 := h.x1
  have hy := h.y0
  have hy1 := h.y1
  have hc := h.n
  have key : 0 ≤ q.x ∧ q.x ≤ 10000000 * ((pos : Int) + 1) ∧ 0 ≤ q.y ∧ q.y ≤ 10000000 * ((pos : Int) + 1) ∧ q.out.length ≤ 5000 := by
    by_cases k0 : k < 0
    · rw [st_line k0] at hs
      injection hs with hs _
      subst hs
      dsimp only
      omega
    · by_cases k1 : 0 < k
      · by_cases k2 : wd < p.x + n ∨ ht ≤ p.y
        · rw [st_far k1 k2] at hs
          injection hs with _ hs
          omega
        · by_cases k3 : 5000 < (p.out.length : Int) + n
          · rw [st_many k1 k2 k3] at hs
            injection hs with _ hs
            omega
          · rw [st_push k1 k2 k3] at hs
            injection hs with hs _
            subst hs
            dsimp only
            rw [List.length_append, cellsP_len]
            omega
      · rw [st_gap (by omega)] at hs
        injection hs with hs _
        subst hs
        dsimp only
        omega
  exact ⟨key.1, by have := key.2.1; omega, key.2.2.1, by have := key.2.2.2.1; omega, key.2.2.2.2, hm⟩
theorem RqI.err {l : List UInt8} {wd ht : Int} {q0 pos : Nat} {ds : List UInt8} {p : PS} (h : RqI l wd ht q0 pos ds p) {b : UInt8} {k n e : Int} {q : PS} (hb : l.drop pos = b :: l.drop (pos + 1)) (hd : isDig b = false) (h2 : ds = [] → ¬ (b = 32 ∨ b = 10) ∧ ¬ b = 33)
    (hk : stateC b.toNat = k) (hk2 : ¬ k = -2) (hn : runN ds = n) (hs : stepP wd ht p k n = (q, e)) (he : e ≠ 0) : readM wd ht (l.drop q0) [] ps0 = ([], e) := by
  rw [h.m, hb, rd_err hd h2 (by rw [hk]; exact hk2) (by rw [hk, hn, hs]; exact he), hk, hn, hs]
theorem RqI.bad {l : List UInt8} {wd ht : Int} {q0 pos : Nat} {ds : List UInt8} {p : PS} (h : RqI l wd ht q0 pos ds p) {b : UInt8} (hb : l.drop pos = b :: l.drop (pos + 1)) (hd : isDig b = false) (h2 : ds = [] → ¬ (b = 32 ∨ b = 10) ∧ ¬ b = 33)
    (hk : stateC b.toNat = -2) : readM wd ht (l.drop q0) [] ps0 = ([], 15) := by
  rw [h.m, hb, rd_bad hd h2 hk]
theorem RqI.blank {l : List UInt8} {wd ht : Int} {q0 pos : Nat} {p : PS} (h : RqI l wd ht q0 pos [] p) {b : UInt8} (hb : l.drop pos = b :: l.drop (pos + 1)) (hc : b = 32 ∨ b = 10) : RqI l wd ht q0 (pos + 1) [] p :=
  ⟨h.x0, by have := h.x1; omega, h.y0, by have := h.y1; omega, h.n, by rw [h.m, hb, rd_blank hc]⟩
theorem run_stop : ∀ {l : List UInt8} {c : UInt8}, l[(digRun l).length]? = some c → isDig c = false
  | [], c, h => by simp [digRun] at h
  | a :: l, c, h => by
    by_cases ha : isDig a = true
    · simp only [digRun, ha, if_true, List.length_cons, List.getElem?_cons_succ] at h
      exact run_stop h
    · simp only [digRun, ha, if_neg, Bool.false_eq_true, if_false, List.length_nil, List.getElem?_cons_zero, Option.some.injEq] at h
      subst h
      simpa using ha
theorem run_drop (l : List UInt8) (p : Nat) : l.drop p = digRun (l.drop p) ++ l.drop (p + (digRun (l.drop p)).length) := by
  have h := digRun_split (l.drop p)
  rw [List.drop_drop] at h
  exact h
theorem RqI.run {l : List UInt8} {wd ht : Int} {q0 pos : Nat} {p : PS} (h : RqI l wd ht q0 pos [] p) (h0 : okN 7 (digRun (l.drop pos)) = true) (h1 : 1 ≤ numL (digRun (l.drop pos))) : RqI l wd ht q0 (pos + (digRun (l.drop pos)).length) (digRun (l.drop pos)) p := by
  have hg := okN_good7 h0 h1
  refine ⟨h.x0, by have := h.x1; omega, h.y0, by have := h.y1; omega, h.n, ?_⟩
  rw [h.m]
  conv => lhs; rw [run_drop l pos]
  have h2 := rd_run wd ht p (digRun (l.drop pos)) (l.drop (pos + (digRun (l.drop pos)).length)) [] (digRun_all _) (by simpa using hg.1) (by simpa using hg.2.2) (by simpa using hg.2.1)
  simpa using h2
theorem RqI.runbad {l : List UInt8} {wd ht : Int} {q0 pos : Nat} {p : PS} (h : RqI l wd ht q0 pos [] p) (hd : digRun (l.drop pos) ≠ []) (h0 : okN 7 (digRun (l.drop pos)) = false ∨ numL (digRun (l.drop pos)) < 1) : readM wd ht (l.drop q0) [] ps0 = ([], 15) := by
  rw [h.m]
  conv => lhs; rw [run_drop l pos]
  have hb := okN_bad7 hd h0 (digRun_all _)
  refine rd_run_bad wd ht p _ _ [] (digRun_all _) hd ?_
  rcases hb with hb | hb
  · exact .inl ⟨hb, rfl⟩
  · exact .inr ⟨by simp, by simpa using hb⟩
theorem rmin_drop {l : List UInt8} {p k : Nat} (hp : p ≤ l.length) (h : (lineOf (l.drop p)).length + p = k) : l.drop (min (k + 1) l.length) = afterLine (l.drop p) := by
  rw [← after_line_drop hp, show p + (lineOf (l.drop p)).length = k by omega]
theorem rskip {l : List UInt8} {p k : Nat} (hp : p < l.length) (h35 : l[p] = 35) (h : (lineOf (l.drop p)).length + p = k) : skipC (l.drop p) = skipC (l.drop (min (k + 1) l.length)) := by
  rw [rmin_drop (Nat.le_of_lt hp) h, skipC_yes (by rw [List.drop_eq_getElem_cons hp, h35]; rfl)]
theorem rskip_no {l : List UInt8} {p : Nat} (hp : p < l.length) (h35 : ¬ l[p] = 35) : skipC (l.drop p) = l.drop p :=
  skipC_no (by rw [List.drop_eq_getElem_cons hp]; intro h; exact h35 (Option.some.inj h))
theorem eq_byte {b : UInt8} {k : Nat} (hk : k < 256) (h : b = UInt8.ofNat k) : ((b.toNat : Int) == (k : Int)) = true := by
  subst h
  rw [UInt8.toNat_ofNat', Nat.mod_eq_of_lt hk]
  simp
theorem line_le (l : List UInt8) (p : Nat) : (lineOf (l.drop p)).length ≤ l.length := by
  have := congrArg List.length (line_split (l.drop p))
  rw [List.length_append, List.length_drop] at this
  omega
theorem meas_up4 {n k j : Nat} (h : k + 1 ≤ j + 1) (h2 : k < n) : n - (intOf (.int .i64 ((j : Int) + 1))).toNat < n - (intOf (.int .i64 (k : Int))).toNat := by
  simp [intOf]
  omega
theorem rmeas {p k n : Nat} (h : p ≤ k) (h2 : p < n) : n - (intOf (.int .i64 ((min (k + 1) n : Nat) : Int))).toNat < n - (intOf (.int .i64 (p : Int))).toNat := by
  simp [intOf]
  omega
theorem wrap_sum {x n : Int} (h0 : 0 ≤ x) (h1 : x ≤ 700000000000) (h2 : 0 ≤ n) (h3 : n ≤ 10000000) : wrap64 (x + n) = x + n := by unfold wrap64; omega
theorem wrap_ln {k : Nat} {n : Int} (h0 : k ≤ 5000) (h2 : 0 ≤ n) (h3 : n ≤ 10000000) : wrap64 ((k : Int) + n) = (k : Int) + n := by unfold wrap64; omega
theorem wrap_m {m n : Nat} (h : m < n) (h2 : n ≤ 5000) : wrap64 ((m : Int) + 1) = (m : Int) + 1 := by unfold wrap64; omega
theorem m_le {m n : Nat} (h : m < n) (h2 : n ≤ 5000) : (m : Int) ≤ 10000000 := by omega
theorem RqI.bnd {l : List UInt8} {wd ht : Int} {q0 pos n : Nat} {ds : List UInt8} {p : PS} (h : RqI l wd ht q0 pos ds p) (h1 : pos ≤ n) (h2 : n ≤ 65536) : 0 ≤ p.x ∧ p.x ≤ 700000000000 ∧ 0 ≤ p.y ∧ p.y ≤ 700000000000 ∧ p.out.length ≤ 5000 :=
  ⟨h.x0, by have := h.x1; omega, h.y0, by have := h.y1; omega, h.n⟩
theorem min_cast (k : Nat) (n : Nat) : min ((k : Int) + 1) (n : Int) = ((min (k + 1) n : Nat) : Int) := by omega
set_option maxHeartbeats 16000000 in
theorem rparse_any (s : ByteArray) (w : World) (hs : s.size ≤ 2147483646) :
    Calls Tryd.prog 13 #[.string s] w (RetParse (parseL s.data.toList) w) := by
  have HHD := Lib.hid (fun p w' hp => rheader_any s p w' hp (by omega))
  have HNQ := Lib.hid (fun p w' hp => numQ_any s p 7 w' hp (by omega) (by omega))
  obtain ⟨l, hl⟩ : ∃ l, l = s.data.toList := ⟨_, rfl⟩
  have hgb : ∀ j (h : j < s.size) (h' : j < l.length), l[j] = s[j] := by subst hl; exact get_byte s
  have hlen : l.length = s.size := by rw [hl]; rfl
  rw [← hl] at HHD HNQ
  rw [← hl]
  have HG := Lib.hid (And.intro hlen hgb)
  clear hl hgb hlen
  by_cases h6 : 65536 < s.size
  · have HN : Hid (parseL l = ([], [], 6)) := Lib.hid (by unfold parseL; rw [if_pos (by rw [HG.out.1]; exact h6)])
    have h6' : (65536 : Int) < (s.size : Int) := by omega
    clear h6
    go_enter Tryd.func13, Tryd.ntmps13
    go_wp2
    go_ret3
    exact RetParse.bad HN.out (Below.refl _ _)
  have HT : Hid (parseL l = match hdrL (lineOf (skipC l)) with
    | none => ([], [], 15)
    | some (w, h, rule) =>
      if nameB rule = false then ([], [], 7)
      else if 1048577 < w ∨ 1048577 < h then ([], [], 5)
      else if (readM w h (afterLine (skipC l)) [] ps0).2 ≠ 0 then ([], [], (readM w h (afterLine (skipC l)) [] ps0).2)
      else ((readM w h (afterLine (skipC l)) [] ps0).1, rule, 0)) := Lib.hid (by unfold parseL; rw [if_neg (by rw [HG.out.1]; exact h6)]; rfl)
  have h6' : (s.size : Int) ≤ 65536 := by omega
  have HL6 : Hid (s.size ≤ 65536) := Lib.hid (by omega)
  clear h6
  go_enter Tryd.func13, Tryd.ntmps13
  go_wp2
  go_loopw [5] (fun at_ wr => ∃ p : Nat, p ≤ s.size ∧ at_ = .int .i64 p ∧ wr = w ∧ Hid (skipC l = skipC (l.drop p))) (fun at_ _ => s.size - (intOf at_).toNat)
  case atStart => exact ⟨0, Nat.zero_le _, rfl, rfl, Lib.hid (by rw [List.drop_zero])⟩
  case round =>
    obtain ⟨p, hp, rfl, hw, HSK⟩ := hrel
    have hw2 := hw.symm
    clear hw
    subst hw2
    go_upto_region 4 with fail
    go_cut [30] from 21 to 47 (fun c wx => c = .bool (decide (l[p]? = some 35)) ∧ wx = w)
    case first =>
      by_cases hlt : p < s.size
      · have hlt' : p < l.length := by rw [HG.out.1]; exact hlt
        have hlp : l[p]? = some s[p] := by rw [List.getElem?_eq_getElem hlt', HG.out.2 p hlt hlt']
        by_cases h35 : s[p] = 35
        · have e35 : ((s[p].toNat : Int) == 35) = true := eq_byte (k := 35) (by omega) h35
          have HZ : Hid (decide (l[p]? = some 35) = true) := Lib.hid (by rw [hlp, h35]; rfl)
          clear h35 hlp
          go_wp2
          go_meet
          exact ⟨by rw [HZ.out], rfl⟩
        · have e35 : ((s[p].toNat : Int) == 35) = false := ne_byte (k := 35) (by omega) h35
          have HZ : Hid (decide (l[p]? = some 35) = false) := Lib.hid (by rw [hlp]; exact decide_eq_false (fun h => h35 (Option.some.inj h)))
          clear h35 hlp
          go_wp2
          go_meet
          exact ⟨by rw [HZ.out], rfl⟩
      · have HZ : Hid (decide (l[p]? = some 35) = false) := Lib.hid (by rw [List.getElem?_eq_none (by rw [HG.out.1]; omega)]; rfl)
        go_wp2
        go_meet
        exact ⟨by rw [HZ.out], rfl⟩
    case rest =>
    obtain ⟨hc30, hwc⟩ := hcut
    have hwc2 := hwc.symm
    subst hc30
    clear hwc
    subst hwc2
    by_cases hq35 : l[p]? = some 35
    · have hlt' : p < l.length := (List.getElem?_eq_some_iff.1 hq35).1
      have hlt : p < s.size := by rw [← HG.out.1]; exact hlt'
      have h35l : l[p] = 35 := by rw [List.getElem?_eq_getElem hlt'] at hq35; exact Option.some.inj hq35
      rw [decide_eq_true hq35]
      clear hq35
      have HSK2 : Hid (∀ k, (lineOf (l.drop p)).length + p = k → skipC l = skipC (l.drop (min (k + 1) s.size))) := Lib.hid (fun k hk => by rw [HSK.out, rskip hlt' h35l hk, HG.out.1])
      clear h35l
      go_wp2
      go_loopw [5] (fun at_ wr => ∃ (k : Nat) (xs : List UInt8), p ≤ k ∧ k ≤ s.size ∧ at_ = .int .i64 k ∧ wr = w ∧ xs.length + p = k ∧ Hid (lineOf (l.drop p) = xs ++ lineOf (l.drop k))) (fun at_ _ => s.size - (intOf at_).toNat)
      case atStart => exact ⟨p, [], Nat.le_refl _, hp, rfl, rfl, by simp, Lib.hid rfl⟩
      case round =>
        obtain ⟨k, xs, hk0, hk, rfl, hw, hxk, HX0⟩ := hrel
        have hw2 := hw.symm
        clear hw
        subst hw2
        have hwk : wrap64 ((k : Int) + 1) = (k : Int) + 1 := by unfold wrap64; omega
        by_cases hkl : k < s.size
        · have hkl' : k < l.length := by rw [HG.out.1]; exact hkl
          by_cases hc : s[k] = 10
          · have e1 : ((s[k].toNat : Int) != 10) = false := by rw [hc]; rfl
            have HN := Lib.hid (HSK2.out k (by rw [HX0.out, lineOf_no hkl' (by rw [HG.out.2 k hkl hkl']; exact hc), List.append_nil]; exact hxk))
            clear hc
            go_wp2
            go_roundw
            case rel => exact ⟨min (k + 1) s.size, Nat.min_le_right _ _, (by rw [← min_cast]), (by first | rfl | trivial), HN⟩
            case measure => rw [min_cast]; exact rmeas hk0 hlt
          · have e1 : ((s[k].toNat : Int) != 10) = true := by
              simp only [bne_iff_ne, ne_eq]
              intro h
              exact hc (UInt8.toNat_inj.1 (by have : (10 : UInt8).toNat = 10 := rfl; omega))
            have HN : Hid (lineOf (l.drop p) = (xs ++ [l[k]]) ++ lineOf (l.drop (k + 1))) := Lib.hid (by
              rw [HX0.out, lineOf_yes hkl' (by rw [HG.out.2 k hkl hkl']; exact hc), List.append_assoc]
              rfl)
            clear hc
            go_wp2
            go_roundw
            case rel => exact ⟨k + 1, xs ++ [l[k]], by omega, by omega, (by first | rfl | (rw [hwk]; rfl)), (by first | rfl | trivial), by simp; omega, HN⟩
            case measure => first | exact meas_up3 hkl | (rw [hwk]; exact meas_up3 hkl)
        · have HN := Lib.hid (HSK2.out k (by
            rw [HX0.out, List.drop_of_length_le (by rw [HG.out.1]; omega)]
            simpa [lineOf] using hxk))
          go_wp2
          go_roundw
          case rel => exact ⟨min (k + 1) s.size, Nat.min_le_right _ _, (by rw [← min_cast]), (by first | rfl | trivial), HN⟩
          case measure => rw [min_cast]; exact rmeas hk0 hlt
    · have HSM : Hid (skipC l = l.drop p) := Lib.hid (by rw [HSK.out]; exact skipC_no (by rw [List.head?_drop]; exact hq35))
      rw [decide_eq_false hq35]
      clear hq35
      go_upto_region 8 with fail
      have HH := Lib.hid (HHD.out p w hp)
      have HSP := Lib.hid (hdrQ_spec l p (by rw [HG.out.1]; exact hp))
      rw [HSM.out] at HT
      obtain ⟨m, hm⟩ : ∃ m, m = l.drop p := ⟨_, rfl⟩
      have HLM := Lib.hid hm
      rw [← hm] at HT HSP
      clear hm HSM HSK
      cases hd : hdrL (lineOf m) with
      | none =>
        rw [hd] at HT
        dsimp only at HT
        rw [HSP.out.1 hd] at HH
        dsimp only at HH
        clear hd
        go_wp2_with fail
        refine HH.out.mono ?_
        rintro e w1 ⟨rfl, hb1⟩
        have HB1 := Lib.hid hb1
        clear hb1
        go_wp2
        go_ret3
        exact RetParse.bad HT.out HB1.out
      | some q =>
        obtain ⟨wv, hv, rule⟩ := q
        rw [hd] at HT
        dsimp only at HT
        obtain ⟨q0, hq0, hq1, hq2, hbd⟩ := HSP.out.2 wv hv rule hd
        rw [hq0] at HH
        dsimp only at HH
        have hrl : rule.length ≤ 65536 := by
          have h1 := (hdrL_bd hd).2.2.2.2
          have h2 := HSP
          have h3 : (lineOf m).length ≤ l.length := by rw [HLM.out]; exact line_le l p
          rw [HG.out.1] at h3
          have := HL6.out
          omega
        rw [HG.out.1] at hq1
        clear hd hq0 HSP
        rw [← hq2] at HT
        clear hq2
        have HR := Lib.hid (fun w' => named_any ⟨rule.toArray⟩ w' (by show rule.toArray.size ≤ _; simp; omega))
        have HBD := Lib.hid hbd
        have HQ1 := Lib.hid hq1
        clear hbd hrl hq1
        cases hn : nameB rule
        · rw [hn] at HR
          rw [hn, if_pos rfl] at HT
          clear hn
          have dq : decide ((q0 : Int) < 0) = false := decide_eq_false (by omega)
          go_wp2_with fail
          refine HH.out.mono ?_
          rintro e w1 ⟨rfl, hb1⟩
          have HB1 := Lib.hid hb1
          clear hb1
          go_wp2_with fail
          refine (HR.out _).mono ?_
          rintro e w3 ⟨rfl, hw3⟩
          have hw4 := hw3.symm
          clear hw3
          subst hw4
          go_wp2
          go_ret3
          exact RetParse.bad HT.out HB1.out
        rw [hn] at HR
        rw [hn, if_neg (by simp)] at HT
        clear hn
        by_cases hw9 : 1048577 < wv
        · rw [if_pos (.inl hw9)] at HT
          have d1 : decide (1048577 < wv) = true := decide_eq_true hw9
          have dq : decide ((q0 : Int) < 0) = false := decide_eq_false (by omega)
          go_wp2_with fail
          refine HH.out.mono ?_
          rintro e w1 ⟨rfl, hb1⟩
          have HB1 := Lib.hid hb1
          clear hb1
          go_wp2_with fail
          refine (HR.out _).mono ?_
          rintro e w3 ⟨rfl, hw3⟩
          have hw4 := hw3.symm
          clear hw3
          subst hw4
          go_wp2
          go_ret3
          exact RetParse.bad HT.out HB1.out
        have d1 : decide (1048577 < wv) = false := decide_eq_false hw9
        by_cases hh9 : 1048577 < hv
        · rw [if_pos (.inr hh9)] at HT
          have d2 : decide (1048577 < hv) = true := decide_eq_true hh9
          have dq : decide ((q0 : Int) < 0) = false := decide_eq_false (by omega)
          go_wp2_with fail
          refine HH.out.mono ?_
          rintro e w1 ⟨rfl, hb1⟩
          have HB1 := Lib.hid hb1
          clear hb1
          go_wp2_with fail
          refine (HR.out _).mono ?_
          rintro e w3 ⟨rfl, hw3⟩
          have hw4 := hw3.symm
          clear hw3
          subst hw4
          go_wp2
          go_ret3
          exact RetParse.bad HT.out HB1.out
        have d2 : decide (1048577 < hv) = false := decide_eq_false hh9
        rw [if_neg (by omega)] at HT
        clear hw9 hh9
        have dq : decide ((q0 : Int) < 0) = false := decide_eq_false (by omega)
        go_wp2_with fail
        refine HH.out.mono ?_
        rintro e w1 ⟨rfl, hb1⟩
        have HB1 := Lib.hid hb1
        clear hb1
        go_wp2_with fail
        refine (HR.out _).mono ?_
        rintro e w3 ⟨rfl, hw3⟩
        have hw4 := hw3.symm
        clear hw3
        subst hw4
        go_wp2
        go_loopw [5, 10, 11, 12, 13, 14, 15, 16, 17] (fun at_ x y out _ _ _ _ _ wr => ∃ (pos : Nat) (p : PS), pos ≤ s.size ∧ at_ = .int .i64 pos ∧ x = .int .i64 p.x ∧ y = .int .i64 p.y ∧ OwnC 42 wr w1.heap.size out p.out ∧ Below w1.heap.size w1 wr ∧ Hid (RqI l wv hv q0 pos [] p)) (fun at_ _ _ _ _ _ _ _ _ _ => s.size - (intOf at_).toNat)
        case atStart => exact ⟨q0, ps0, HQ1.out, rfl, rfl, rfl, OwnC.nil _ _ _, Below.refl _ _, Lib.hid ⟨by decide, by show (0 : Int) ≤ _; omega, by decide, by show (0 : Int) ≤ _; omega, by simp [ps0], rfl⟩⟩
        case round =>
          obtain ⟨pos, pq, hpos, rfl, rfl, rfl, hown, hbw, HI⟩ := hrel
          have hbw1 := HB1.out.trans (hbw.mono HB1.out.size)
          by_cases hps : pos < s.size
          · have hps' : pos < l.length := by rw [HG.out.1]; exact hps
            have HLD : Hid (l.drop pos = s[pos] :: l.drop (pos + 1)) := Lib.hid (by rw [List.drop_eq_getElem_cons hps', HG.out.2 pos hps hps'])
            obtain ⟨b, hb⟩ : ∃ b, b = s[pos] := ⟨_, rfl⟩
            rw [← hb] at HLD
            have HBE := Lib.hid hb
            have eb : s[pos] = b := hb.symm
            clear hb
            have hwp : wrap64 ((pos : Int) + 1) = (pos : Int) + 1 := by unfold wrap64; omega
            by_cases h33 : b = 33
            · have HN : Hid (readM wv hv (l.drop q0) [] ps0 = (pq.out, 0)) := Lib.hid (by rw [HI.out.m, HLD.out, h33, rd_stop])
              have e33 : ((b.toNat : Int) == 33) = true := eq_byte (k := 33) (by omega) h33
              rw [HN.out, if_neg (by simp)] at HT
              clear h33
              obtain ⟨A, c, rfl, hcl, -⟩ := hown.cls
              go_wp2
              go_ret3
              exact RetParse.good HT.out hcl hbw1
            have e33 : ((b.toNat : Int) == 33) = false := ne_byte (k := 33) (by omega) h33
            by_cases h32 : b = 32
            · have HI2 := Lib.hid (HI.out.blank HLD.out (.inl h32))
              have e32 : ((b.toNat : Int) == 32) = true := eq_byte (k := 32) (by omega) h32
              clear h32 h33
              go_wp2
              go_roundw
              case rel => exact ⟨pos + 1, pq, by omega, (by first | rfl | (rw [hwp]; rfl)), rfl, rfl, hown, hbw, HI2⟩
              case measure => first | exact meas_up3 hps | (rw [hwp]; exact meas_up3 hps)
            have e32 : ((b.toNat : Int) == 32) = false := ne_byte (k := 32) (by omega) h32
            by_cases h10 : b = 10
            · have HI2 := Lib.hid (HI.out.blank HLD.out (.inr h10))
              have e10 : ((b.toNat : Int) == 10) = true := eq_byte (k := 10) (by omega) h10
              clear h10 h33 h32
              go_wp2
              go_roundw
              case rel => exact ⟨pos + 1, pq, by omega, (by first | rfl | (rw [hwp]; rfl)), rfl, rfl, hown, hbw, HI2⟩
              case measure => first | exact meas_up3 hps | (rw [hwp]; exact meas_up3 hps)
            have e10 : ((b.toNat : Int) == 10) = false := ne_byte (k := 10) (by omega) h10
            have H2 : Hid (¬ (b = 32 ∨ b = 10) ∧ ¬ b = 33) := Lib.hid ⟨fun h => h.elim h32 h10, h33⟩
            clear h32 h10 h33
            have HDG : Hid (isDig b = (decide ((48 : Int) ≤ b.toNat) && decide ((b.toNat : Int) ≤ 57))) := Lib.hid rfl
            go_upto_region 24 with fail
            go_cut [99] from 68 to 170 (fun c wx => c = .bool (isDig b) ∧ wx = wr)
            case first =>
              by_cases hh : (48 : Int) ≤ b.toNat
              · have d48 : decide ((48 : Int) ≤ b.toNat) = true := decide_eq_true hh
                by_cases hh2 : (b.toNat : Int) ≤ 57
                · have d57 : decide ((b.toNat : Int) ≤ 57) = true := decide_eq_true hh2
                  go_wp2
                  go_meet
                  exact ⟨by rw [HDG.out, d48, d57]; rfl, rfl⟩
                · have d57 : decide ((b.toNat : Int) ≤ 57) = false := decide_eq_false hh2
                  go_wp2
                  go_meet
                  exact ⟨by rw [HDG.out, d48, d57]; rfl, rfl⟩
              · have d48 : decide ((48 : Int) ≤ b.toNat) = false := decide_eq_false hh
                go_wp2
                go_meet
                exact ⟨by rw [HDG.out, d48]; rfl, rfl⟩
            case rest =>
            obtain ⟨hc99, hwc⟩ := hcut
            have hwc2 := hwc.symm
            subst hc99
            clear hwc
            subst hwc2
            cases hdg : isDig b
            · have HI3 : Hid (RqI l wv hv q0 pos [] pq) := HI
              have HRN : Hid (runN [] = 1) := Lib.hid rfl
              have HN01 : Hid ((0 : Int) ≤ 1 ∧ (1 : Int) ≤ 10000000) := Lib.hid (by omega)
              have HD3 : Hid (isDig b = false) := Lib.hid hdg
              have H23 : Hid (([] : List UInt8) = [] → ¬ (b = 32 ∨ b = 10) ∧ ¬ b = 33) := Lib.hid (fun _ => H2.out)
              have HLD3 := HLD
              clear hdg
              have hbn : (b.toNat : Int) ≤ 255 := by have := b.toNat_lt; omega
              have HST : Hid (∀ w', Calls Tryd.prog 39 #[.int .u8 (b.toNat : Int)] w' fun e w'' => e = .returned (.int .i64 (stateC b.toNat)) ∧ w'' = w') := Lib.hid (fun w' => rstate_any (b.toNat : Int) w' (by omega) hbn)
              obtain ⟨k, hk⟩ : ∃ k, k = stateC (b.toNat : Int) := ⟨_, rfl⟩
              rw [← hk] at HST
              have HKB := Lib.hid (stateC_bd (b.toNat : Int))
              rw [← hk] at HKB
              have HK := Lib.hid hk.symm
              clear hk hbn
              by_cases k2 : k = -2
              · have HN : Hid (readM wv hv (l.drop q0) [] ps0 = ([], 15)) := Lib.hid (HI3.out.bad HLD3.out HD3.out H23.out (by rw [HK.out, k2]))
                rw [HN.out, if_pos (by simp)] at HT
                subst k2
                go_wp2_with fail
                refine (HST.out _).mono ?_
                rintro e w5 ⟨rfl, hw5⟩
                have hw6 := hw5.symm
                clear hw5
                subst hw6
                go_wp2
                go_ret3
                exact RetParse.bad HT.out hbw1
              have k2e : (k == -2) = false := by simpa using k2
              have HK2 := Lib.hid k2
              clear k2
              have HXB : Hid (0 ≤ pq.x ∧ pq.x ≤ 700000000000 ∧ 0 ≤ pq.y ∧ pq.y ≤ 700000000000 ∧ pq.out.length ≤ 5000) := Lib.hid (RqI.bnd HI3.out (Nat.le_of_lt hps) HL6.out)
              have hyn : wrap64 (pq.y + 1) = pq.y + 1 := wrap_sum HXB.out.2.2.1 HXB.out.2.2.2.1 HN01.out.1 HN01.out.2
              have hxn : wrap64 (pq.x + 1) = pq.x + 1 := wrap_sum HXB.out.1 HXB.out.2.1 HN01.out.1 HN01.out.2
              have hln : wrap64 ((pq.out.length : Int) + 1) = (pq.out.length : Int) + 1 := wrap_ln HXB.out.2.2.2.2 HN01.out.1 HN01.out.2
              have HPS : Hid (pos + 1 ≤ pos + 1 ∧ pos + 1 ≤ s.size) := Lib.hid ⟨Nat.le_refl _, hps⟩
              by_cases k0 : k < 0
              · have HKM : Hid (k = -1) := Lib.hid (by have := HKB.out; have := HK2.out; omega)
                have k1e : (k == -1) = true := by rw [HKM.out]; rfl
                have HI2 := Lib.hid (HI3.out.next HLD3.out HD3.out H23.out HK.out HK2.out HRN.out HN01.out.1 HN01.out.2 (st_line k0))
                go_wp2_with fail
                refine (HST.out _).mono ?_
                rintro e w5 ⟨rfl, hw5⟩
                have hw6 := hw5.symm
                clear hw5
                subst hw6
                go_wp2
                go_roundw
                case rel => exact ⟨pos + 1, ⟨pq.out, 0, pq.y + 1⟩, HPS.out.2, (by first | rfl | (rw [hwp]; rfl)), rfl, (by first | rfl | rw [hyn]), hown, hbw, HI2⟩
                case measure => first | exact meas_up4 HPS.out.1 hps | (rw [hwp]; exact meas_up4 HPS.out.1 hps)
              have k1e : (k == -1) = false := by have := HKB.out; simp; omega
              have dk0 : decide (k < 0) = false := decide_eq_false k0
              by_cases k1 : 0 < k
              · have dk1 : decide (0 < k) = true := decide_eq_true k1
                by_cases f1 : wv < pq.x + 1
                · have df1 : decide (wv < pq.x + 1) = true := decide_eq_true f1
                  have HN : Hid (readM wv hv (l.drop q0) [] ps0 = ([], 5)) := Lib.hid (HI3.out.err HLD3.out HD3.out H23.out HK.out HK2.out HRN.out (st_far k1 (.inl f1)) (by decide))
                  rw [HN.out, if_pos (by simp)] at HT
                  go_wp2_with fail
                  refine (HST.out _).mono ?_
                  rintro e w5 ⟨rfl, hw5⟩
                  have hw6 := hw5.symm
                  clear hw5
                  subst hw6
                  go_wp2
                  go_ret3
                  exact RetParse.bad HT.out hbw1
                have df1 : decide (wv < pq.x + 1) = false := decide_eq_false f1
                by_cases f2 : hv ≤ pq.y
                · have df2 : decide (hv ≤ pq.y) = true := decide_eq_true f2
                  have HN : Hid (readM wv hv (l.drop q0) [] ps0 = ([], 5)) := Lib.hid (HI3.out.err HLD3.out HD3.out H23.out HK.out HK2.out HRN.out (st_far k1 (.inr f2)) (by decide))
                  rw [HN.out, if_pos (by simp)] at HT
                  go_wp2_with fail
                  refine (HST.out _).mono ?_
                  rintro e w5 ⟨rfl, hw5⟩
                  have hw6 := hw5.symm
                  clear hw5
                  subst hw6
                  go_wp2
                  go_ret3
                  exact RetParse.bad HT.out hbw1
                have df2 : decide (hv ≤ pq.y) = false := decide_eq_false f2
                by_cases f3 : 5000 < (pq.out.length : Int) + 1
                · have df3 : decide (5000 < (pq.out.length : Int) + 1) = true := decide_eq_true f3
                  have HN : Hid (readM wv hv (l.drop q0) [] ps0 = ([], 6)) := Lib.hid (HI3.out.err HLD3.out HD3.out H23.out HK.out HK2.out HRN.out (st_many k1 (by omega) f3) (by decide))
                  rw [HN.out, if_pos (by simp)] at HT
                  obtain ⟨A, c, rfl, -, -⟩ := hown.cls
                  go_wp2_with fail
                  refine (HST.out _).mono ?_
                  rintro e w5 ⟨rfl, hw5⟩
                  have hw6 := hw5.symm
                  clear hw5
                  subst hw6
                  go_wp2
                  go_ret3
                  exact RetParse.bad HT.out hbw1
                have df3 : decide (5000 < (pq.out.length : Int) + 1) = false := decide_eq_false f3
                have HI2 := Lib.hid (HI3.out.next HLD3.out HD3.out H23.out HK.out HK2.out HRN.out HN01.out.1 HN01.out.2 (st_push k1 (by omega) f3))
                obtain ⟨nn, hnn⟩ : ∃ nn : Nat, nn = (1 : Int).toNat := ⟨_, rfl⟩
                have HNE : Hid (((nn : Nat) : Int) = 1) := Lib.hid (by rw [hnn]; have := HN01.out; omega)
                rw [← hnn] at HI2
                have HNN : Hid (nn ≤ 5000) := Lib.hid (by have := HNE.out; omega)
                clear hnn f1 f2 f3
                obtain ⟨A, c, hv9, hcl, hnw⟩ := hown.cls
                subst hv9
                go_wp2_with fail
                refine (HST.out _).mono ?_
                rintro e w5 ⟨rfl, hw5⟩
                have hw6 := hw5.symm
                clear hw5
                subst hw6
                go_upto_region 44 with fail
                try rw [hxn]
                try rw [hln]
                try rw [hwp]
                go_loopw [12, 17] (fun o i wr2 => ∃ m : Nat, m ≤ nn ∧ i = .int .i64 m ∧ Hid (OwnC 42 wr2 w1.heap.size o (pq.out ++ cellsP pq.x pq.y m k)) ∧ Hid (Below w1.heap.size w1 wr2)) (fun _ i _ => nn - (intOf i).toNat)
                case atStart => exact ⟨0, Nat.zero_le _, rfl, Lib.hid (by rw [cellsP_zero, List.append_nil]; exact hown), Lib.hid hbw⟩
                case round =>
                  clear hown hbw hbw1
                  obtain ⟨m, hm, rfl, HO, HBW⟩ := hrel
                  by_cases hlt9 : m < nn
                  · have dm : decide ((m : Int) < 1) = true := decide_eq_true (by rw [← HNE.out]; omega)
                    have hxm : wrap64 (pq.x + (m : Int)) = pq.x + (m : Int) := wrap_sum HXB.out.1 HXB.out.2.1 (Int.natCast_nonneg m) (m_le hlt9 HNN.out)
                    have hwm : wrap64 ((m : Int) + 1) = (m : Int) + 1 := wrap_m hlt9 HNN.out
                    obtain ⟨A, c, hv9, -, -⟩ := HO.out.cls
                    have hown9 := HO.out
                    rw [hv9] at hown9
                    have hlen9 : (pq.out ++ cellsP pq.x pq.y m k).length < 4294967296 := len9 HXB.out.2.2.2.2 hlt9 HNN.out
                    have hbs9 : w1.heap.size ≤ _ := HBW.out.size
                    subst hv9
                    go_wp2_with (at_builtin; refine wpList_pushC rfl _ _ _ rfl w1.heap.size 42 Tryd.underlying23 Tryd.infoCell _ _ rfl hown9 _ _ _ rfl hlen9 hbs9 ?_)
                    intro v' w9 ho9 hb9
                    have HO2 : Hid (OwnC 42 w9 w1.heap.size v' (pq.out ++ cellsP pq.x pq.y (m + 1) k)) := Lib.hid (by rw [cellsP_snoc, ← List.append_assoc]; first | exact ho9 | (rw [List.append_assoc]; exact ho9))
                    have HBW2 : Hid (Below w1.heap.size w1 w9) := Lib.hid (HBW.out.trans hb9)
                    clear ho9 hb9 hown9
                    go_wp2
                    go_roundw
                    case rel => exact ⟨m + 1, hlt9, (by first | rfl | (rw [hwm]; rfl)), HO2, HBW2⟩
                    case measure => first | exact meas_up3 hlt9 | (rw [hwm]; exact meas_up3 hlt9)
                  · have hme : m = nn := by omega
                    subst hme
                    have dm : decide ((m : Int) < 1) = false := decide_eq_false (by rw [← HNE.out]; omega)
                    go_wp2
                    go_roundw
                    case rel => exact ⟨pos + 1, ⟨pq.out ++ cellsP pq.x pq.y m k, pq.x + 1, pq.y⟩, HPS.out.2, rfl, (by first | rfl | rw [hxn]), rfl, HO.out, HBW.out, HI2⟩
                    case measure => exact meas_up4 HPS.out.1 hps
              have dk1 : decide (0 < k) = false := decide_eq_false k1
              have HI2 := Lib.hid (HI3.out.next HLD3.out HD3.out H23.out HK.out HK2.out HRN.out HN01.out.1 HN01.out.2 (st_gap (by omega)))
              have dn0 : decide ((0 : Int) < 1) = true := by decide
              go_wp2_with fail
              refine (HST.out _).mono ?_
              rintro e w5 ⟨rfl, hw5⟩
              have hw6 := hw5.symm
              clear hw5
              subst hw6
              go_upto_region 44 with fail
              try rw [hwp]
              go_loopw [12, 17] (fun o i wr2 => i = .int .i64 0 ∧ Hid (OwnC 42 wr2 w1.heap.size o pq.out) ∧ Hid (Below w1.heap.size w1 wr2)) (fun _ i _ => 0)
              case atStart => exact ⟨rfl, Lib.hid hown, Lib.hid hbw⟩
              case round =>
                clear hown hbw hbw1
                obtain ⟨rfl, HO, HBW⟩ := hrel
                go_wp2
                go_roundw
                case rel => exact ⟨pos + 1, ⟨pq.out, pq.x + 1, pq.y⟩, HPS.out.2, rfl, (by first | rfl | rw [hxn]), rfl, HO.out, HBW.out, HI2⟩
                case measure => exact meas_up4 HPS.out.1 hps
            · have HNQ1 := Lib.hid (HNQ.out pos wr (Nat.le_of_lt hps))
              have hdne : digRun (l.drop pos) ≠ [] := by rw [HLD.out]; simp [digRun, hdg]
              have HRB := Lib.hid (fun h0 => HI.out.runbad hdne h0)
              have HRG := Lib.hid (fun h0 h1 => HI.out.run h0 h1)
              have HDA := Lib.hid (digRun_all (l.drop pos))
              have HDS := Lib.hid (fun c => run_stop (l := l.drop pos) (c := c))
              have HQD : Hid (numQ 7 l pos = if okN 7 (digRun (l.drop pos)) = true then (numL (digRun (l.drop pos)), (pos : Int) + (digRun (l.drop pos)).length) else (-1, (pos : Int))) := Lib.hid rfl
              have hdl : pos + (digRun (l.drop pos)).length ≤ s.size := by
                have := digRun_le (l.drop pos)
                rw [List.length_drop, HG.out.1] at this
                omega
              obtain ⟨ds, hds⟩ : ∃ ds, ds = digRun (l.drop pos) := ⟨_, rfl⟩
              rw [← hds] at hdne HRB HRG HDA HQD hdl HDS
              clear hds hdg
              by_cases hok : okN 7 ds = true ∧ 1 ≤ numL ds
              · rw [if_pos hok.1] at HQD
                have hd7 : ds.length ≤ 7 := (okN_good7 hok.1 hok.2).2.1
                have HNB := Lib.hid (numL_bd7 HDA.out hd7)
                have HI3 := Lib.hid (HRG.out hok.1 hok.2)
                have HRN0 : Hid (runN ds = numL ds) := Lib.hid (by unfold runN; rw [if_neg hdne])
                obtain ⟨n, hn⟩ : ∃ n, n = numL ds := ⟨_, rfl⟩
                obtain ⟨pos2, hp2⟩ : ∃ p, p = pos + ds.length := ⟨_, rfl⟩
                have hq : numQ 7 l pos = (n, (pos2 : Int)) := by rw [HQD.out, hn, hp2]; rfl
                rw [hq] at HNQ1
                dsimp only at HNQ1
                have hn1 : ¬ n < 1 := by rw [hn]; omega
                rw [← hn] at HNB HRN0
                rw [← hp2] at HI3 hdl
                have dn1 : decide (n < 1) = false := decide_eq_false hn1
                have HPP : Hid (pos < pos2) := Lib.hid (by have := List.length_pos_iff.2 hdne; omega)
                have HD2 : Hid (∀ (h : pos2 < s.size), isDig s[pos2] = false) := Lib.hid (fun h => HDS.out s[pos2] (by
                  have h' : pos2 < l.length := by rw [HG.out.1]; exact h
                  rw [List.getElem?_drop, ← hp2, List.getElem?_eq_getElem h', HG.out.2 pos2 h h']))
                have HRN := HRN0
                have HNB1 : Hid (1 ≤ n) := Lib.hid (by omega)
                have HN01 : Hid ((0 : Int) ≤ n ∧ n ≤ 10000000) := Lib.hid ⟨HNB.out.1, by have := HNB.out.2; omega⟩
                have H23 : Hid (ds = [] → ∀ (b : UInt8), ¬ (b = 32 ∨ b = 10) ∧ ¬ b = 33) := Lib.hid (fun h => absurd h hdne)
                clear hn hp2 hq hok hdne hn1 hd7
                by_cases hpe : pos2 = s.size
                · have HN : Hid (readM wv hv (l.drop q0) [] ps0 = ([], 4)) := Lib.hid (by rw [HI3.out.m, List.drop_of_length_le (by rw [HG.out.1]; omega), rd_end])
                  have dpe : ((pos2 : Int) == (s.size : Int)) = true := by rw [hpe]; simp
                  rw [HN.out, if_pos (by simp)] at HT
                  clear hpe
                  go_wp2_with fail
                  refine HNQ1.out.mono ?_
                  rintro e w5 ⟨rfl, hw5⟩
                  have hw6 := hw5.symm
                  clear hw5
                  subst hw6
                  go_wp2
                  go_ret3
                  exact RetParse.bad HT.out hbw1
                have dpe : ((pos2 : Int) == (s.size : Int)) = false := by simp; omega
                have hps2 : pos2 < s.size := by omega
                have hps2' : pos2 < l.length := by rw [HG.out.1]; exact hps2
                have HLD3 : Hid (l.drop pos2 = s[pos2] :: l.drop (pos2 + 1)) := Lib.hid (by rw [List.drop_eq_getElem_cons hps2', HG.out.2 pos2 hps2 hps2'])
                have HD3 := Lib.hid (HD2.out hps2)
                obtain ⟨b2, hb2⟩ : ∃ b, b = s[pos2] := ⟨_, rfl⟩
                rw [← hb2] at HLD3 HD3
                have eb2 : s[pos2] = b2 := hb2.symm
                clear hb2
                have hwp2 : wrap64 ((pos2 : Int) + 1) = (pos2 : Int) + 1 := by unfold wrap64; omega
                clear hpe
                have hbn : (b2.toNat : Int) ≤ 255 := by have := b2.toNat_lt; omega
                have HST : Hid (∀ w', Calls Tryd.prog 39 #[.int .u8 (b2.toNat : Int)] w' fun e w'' => e = .returned (.int .i64 (stateC b2.toNat)) ∧ w'' = w') := Lib.hid (fun w' => rstate_any (b2.toNat : Int) w' (by omega) hbn)
                obtain ⟨k, hk⟩ : ∃ k, k = stateC (b2.toNat : Int) := ⟨_, rfl⟩
                rw [← hk] at HST
                have HKB := Lib.hid (stateC_bd (b2.toNat : Int))
                rw [← hk] at HKB
                have HK := Lib.hid hk.symm
                clear hk hbn
                by_cases k2 : k = -2
                · have HN : Hid (readM wv hv (l.drop q0) [] ps0 = ([], 15)) := Lib.hid (HI3.out.bad HLD3.out HD3.out (fun h => H23.out h b2) (by rw [HK.out, k2]))
                  rw [HN.out, if_pos (by simp)] at HT
                  subst k2
                  go_wp2_with fail
                  refine HNQ1.out.mono ?_
                  rintro e w5 ⟨rfl, hw5⟩
                  have hw6 := hw5.symm
                  clear hw5
                  subst hw6
                  go_wp2_with fail
                  refine (HST.out _).mono ?_
                  rintro e w5 ⟨rfl, hw5⟩
                  have hw6 := hw5.symm
                  clear hw5
                  subst hw6
                  go_wp2
                  go_ret3
                  exact RetParse.bad HT.out hbw1
                have k2e : (k == -2) = false := by simpa using k2
                have HK2 := Lib.hid k2
                clear k2
                have HXB : Hid (0 ≤ pq.x ∧ pq.x ≤ 700000000000 ∧ 0 ≤ pq.y ∧ pq.y ≤ 700000000000 ∧ pq.out.length ≤ 5000) := Lib.hid (RqI.bnd HI3.out (Nat.le_of_lt hps2) HL6.out)
                have hyn : wrap64 (pq.y + n) = pq.y + n := wrap_sum HXB.out.2.2.1 HXB.out.2.2.2.1 HN01.out.1 HN01.out.2
                have hxn : wrap64 (pq.x + n) = pq.x + n := wrap_sum HXB.out.1 HXB.out.2.1 HN01.out.1 HN01.out.2
                have hln : wrap64 ((pq.out.length : Int) + n) = (pq.out.length : Int) + n := wrap_ln HXB.out.2.2.2.2 HN01.out.1 HN01.out.2
                have HPS : Hid (pos + 1 ≤ pos2 + 1 ∧ pos2 + 1 ≤ s.size) := Lib.hid ⟨by have := HPP.out; omega, hps2⟩
                by_cases k0 : k < 0
                · have HKM : Hid (k = -1) := Lib.hid (by have := HKB.out; have := HK2.out; omega)
                  have k1e : (k == -1) = true := by rw [HKM.out]; rfl
                  have HI2 := Lib.hid (HI3.out.next HLD3.out HD3.out (fun h => H23.out h b2) HK.out HK2.out HRN.out HN01.out.1 HN01.out.2 (st_line k0))
                  go_wp2_with fail
                  refine HNQ1.out.mono ?_
                  rintro e w5 ⟨rfl, hw5⟩
                  have hw6 := hw5.symm
                  clear hw5
                  subst hw6
                  go_wp2_with fail
                  refine (HST.out _).mono ?_
                  rintro e w5 ⟨rfl, hw5⟩
                  have hw6 := hw5.symm
                  clear hw5
                  subst hw6
                  go_wp2
                  go_roundw
                  case rel => exact ⟨pos2 + 1, ⟨pq.out, 0, pq.y + n⟩, HPS.out.2, (by first | rfl | (rw [hwp2]; rfl)), rfl, (by first | rfl | rw [hyn]), hown, hbw, HI2⟩
                  case measure => first | exact meas_up4 HPS.out.1 hps | (rw [hwp2]; exact meas_up4 HPS.out.1 hps)
                have k1e : (k == -1) = false := by have := HKB.out; simp; omega
                have dk0 : decide (k < 0) = false := decide_eq_false k0
                by_cases k1 : 0 < k
                · have dk1 : decide (0 < k) = true := decide_eq_true k1
                  by_cases f1 : wv < pq.x + n
                  · have df1 : decide (wv < pq.x + n) = true := decide_eq_true f1
                    have HN : Hid (readM wv hv (l.drop q0) [] ps0 = ([], 5)) := Lib.hid (HI3.out.err HLD3.out HD3.out (fun h => H23.out h b2) HK.out HK2.out HRN.out (st_far k1 (.inl f1)) (by decide))
                    rw [HN.out, if_pos (by simp)] at HT
                    go_wp2_with fail
                    refine HNQ1.out.mono ?_
                    rintro e w5 ⟨rfl, hw5⟩
                    have hw6 := hw5.symm
                    clear hw5
                    subst hw6
                    go_wp2_with fail
                    refine (HST.out _).mono ?_
                    rintro e w5 ⟨rfl, hw5⟩
                    have hw6 := hw5.symm
                    clear hw5
                    subst hw6
                    go_wp2
                    go_ret3
                    exact RetParse.bad HT.out hbw1
                  have df1 : decide (wv < pq.x + n) = false := decide_eq_false f1
                  by_cases f2 : hv ≤ pq.y
                  · have df2 : decide (hv ≤ pq.y) = true := decide_eq_true f2
                    have HN : Hid (readM wv hv (l.drop q0) [] ps0 = ([], 5)) := Lib.hid (HI3.out.err HLD3.out HD3.out (fun h => H23.out h b2) HK.out HK2.out HRN.out (st_far k1 (.inr f2)) (by decide))
                    rw [HN.out, if_pos (by simp)] at HT
                    go_wp2_with fail
                    refine HNQ1.out.mono ?_
                    rintro e w5 ⟨rfl, hw5⟩
                    have hw6 := hw5.symm
                    clear hw5
                    subst hw6
                    go_wp2_with fail
                    refine (HST.out _).mono ?_
                    rintro e w5 ⟨rfl, hw5⟩
                    have hw6 := hw5.symm
                    clear hw5
                    subst hw6
                    go_wp2
                    go_ret3
                    exact RetParse.bad HT.out hbw1
                  have df2 : decide (hv ≤ pq.y) = false := decide_eq_false f2
                  by_cases f3 : 5000 < (pq.out.length : Int) + n
                  · have df3 : decide (5000 < (pq.out.length : Int) + n) = true := decide_eq_true f3
                    have HN : Hid (readM wv hv (l.drop q0) [] ps0 = ([], 6)) := Lib.hid (HI3.out.err HLD3.out HD3.out (fun h => H23.out h b2) HK.out HK2.out HRN.out (st_many k1 (by omega) f3) (by decide))
                    rw [HN.out, if_pos (by simp)] at HT
                    obtain ⟨A, c, rfl, -, -⟩ := hown.cls
                    go_wp2_with fail
                    refine HNQ1.out.mono ?_
                    rintro e w5 ⟨rfl, hw5⟩
                    have hw6 := hw5.symm
                    clear hw5
                    subst hw6
                    go_wp2_with fail
                    refine (HST.out _).mono ?_
                    rintro e w5 ⟨rfl, hw5⟩
                    have hw6 := hw5.symm
                    clear hw5
                    subst hw6
                    go_wp2
                    go_ret3
                    exact RetParse.bad HT.out hbw1
                  have df3 : decide (5000 < (pq.out.length : Int) + n) = false := decide_eq_false f3
                  have HI2 := Lib.hid (HI3.out.next HLD3.out HD3.out (fun h => H23.out h b2) HK.out HK2.out HRN.out HN01.out.1 HN01.out.2 (st_push k1 (by omega) f3))
                  obtain ⟨nn, hnn⟩ : ∃ nn : Nat, nn = (n : Int).toNat := ⟨_, rfl⟩
                  have HNE : Hid (((nn : Nat) : Int) = n) := Lib.hid (by rw [hnn]; have := HN01.out; omega)
                  rw [← hnn] at HI2
                  have HNN : Hid (nn ≤ 5000) := Lib.hid (by have := HNE.out; omega)
                  clear hnn f1 f2 f3
                  obtain ⟨A, c, hv9, hcl, hnw⟩ := hown.cls
                  subst hv9
                  go_wp2_with fail
                  refine HNQ1.out.mono ?_
                  rintro e w5 ⟨rfl, hw5⟩
                  have hw6 := hw5.symm
                  clear hw5
                  subst hw6
                  go_wp2_with fail
                  refine (HST.out _).mono ?_
                  rintro e w5 ⟨rfl, hw5⟩
                  have hw6 := hw5.symm
                  clear hw5
                  subst hw6
                  go_upto_region 44 with fail
                  try rw [hxn]
                  try rw [hln]
                  try rw [hwp2]
                  go_loopw [12, 17] (fun o i wr2 => ∃ m : Nat, m ≤ nn ∧ i = .int .i64 m ∧ Hid (OwnC 42 wr2 w1.heap.size o (pq.out ++ cellsP pq.x pq.y m k)) ∧ Hid (Below w1.heap.size w1 wr2)) (fun _ i _ => nn - (intOf i).toNat)
                  case atStart => exact ⟨0, Nat.zero_le _, rfl, Lib.hid (by rw [cellsP_zero, List.append_nil]; exact hown), Lib.hid hbw⟩
                  case round =>
                    clear hown hbw hbw1
                    obtain ⟨m, hm, rfl, HO, HBW⟩ := hrel
                    by_cases hlt9 : m < nn
                    · have dm : decide ((m : Int) < n) = true := decide_eq_true (by rw [← HNE.out]; omega)
                      have hxm : wrap64 (pq.x + (m : Int)) = pq.x + (m : Int) := wrap_sum HXB.out.1 HXB.out.2.1 (Int.natCast_nonneg m) (m_le hlt9 HNN.out)
                      have hwm : wrap64 ((m : Int) + 1) = (m : Int) + 1 := wrap_m hlt9 HNN.out
                      obtain ⟨A, c, hv9, -, -⟩ := HO.out.cls
                      have hown9 := HO.out
                      rw [hv9] at hown9
                      have hlen9 : (pq.out ++ cellsP pq.x pq.y m k).length < 4294967296 := len9 HXB.out.2.2.2.2 hlt9 HNN.out
                      have hbs9 : w1.heap.size ≤ _ := HBW.out.size
                      subst hv9
                      go_wp2_with (at_builtin; refine wpList_pushC rfl _ _ _ rfl w1.heap.size 42 Tryd.underlying23 Tryd.infoCell _ _ rfl hown9 _ _ _ rfl hlen9 hbs9 ?_)
                      intro v' w9 ho9 hb9
                      have HO2 : Hid (OwnC 42 w9 w1.heap.size v' (pq.out ++ cellsP pq.x pq.y (m + 1) k)) := Lib.hid (by rw [cellsP_snoc, ← List.append_assoc]; first | exact ho9 | (rw [List.append_assoc]; exact ho9))
                      have HBW2 : Hid (Below w1.heap.size w1 w9) := Lib.hid (HBW.out.trans hb9)
                      clear ho9 hb9 hown9
                      go_wp2
                      go_roundw
                      case rel => exact ⟨m + 1, hlt9, (by first | rfl | (rw [hwm]; rfl)), HO2, HBW2⟩
                      case measure => first | exact meas_up3 hlt9 | (rw [hwm]; exact meas_up3 hlt9)
                    · have hme : m = nn := by omega
                      subst hme
                      have dm : decide ((m : Int) < n) = false := decide_eq_false (by rw [← HNE.out]; omega)
                      go_wp2
                      go_roundw
                      case rel => exact ⟨pos2 + 1, ⟨pq.out ++ cellsP pq.x pq.y m k, pq.x + n, pq.y⟩, HPS.out.2, rfl, (by first | rfl | rw [hxn]), rfl, HO.out, HBW.out, HI2⟩
                      case measure => exact meas_up4 HPS.out.1 hps
                have dk1 : decide (0 < k) = false := decide_eq_false k1
                have HI2 := Lib.hid (HI3.out.next HLD3.out HD3.out (fun h => H23.out h b2) HK.out HK2.out HRN.out HN01.out.1 HN01.out.2 (st_gap (by omega)))
                have dn0 : decide ((0 : Int) < n) = true := decide_eq_true (by have := HNB1.out; omega)
                go_wp2_with fail
                refine HNQ1.out.mono ?_
                rintro e w5 ⟨rfl, hw5⟩
                have hw6 := hw5.symm
                clear hw5
                subst hw6
                go_wp2_with fail
                refine (HST.out _).mono ?_
                rintro e w5 ⟨rfl, hw5⟩
                have hw6 := hw5.symm
                clear hw5
                subst hw6
                go_upto_region 44 with fail
                try rw [hwp2]
                go_loopw [12, 17] (fun o i wr2 => i = .int .i64 0 ∧ Hid (OwnC 42 wr2 w1.heap.size o pq.out) ∧ Hid (Below w1.heap.size w1 wr2)) (fun _ i _ => 0)
                case atStart => exact ⟨rfl, Lib.hid hown, Lib.hid hbw⟩
                case round =>
                  clear hown hbw hbw1
                  obtain ⟨rfl, HO, HBW⟩ := hrel
                  go_wp2
                  go_roundw
                  case rel => exact ⟨pos2 + 1, ⟨pq.out, pq.x + n, pq.y⟩, HPS.out.2, rfl, (by first | rfl | rw [hxn]), rfl, HO.out, HBW.out, HI2⟩
                  case measure => exact meas_up4 HPS.out.1 hps
              · have HN : Hid (readM wv hv (l.drop q0) [] ps0 = ([], 15)) := Lib.hid (HRB.out (by
                  by_cases h1 : okN 7 ds = true
                  · exact .inr (by have : ¬ 1 ≤ numL ds := fun h => hok ⟨h1, h⟩; omega)
                  · exact .inl (by simpa using h1)))
                have hlt1 : (numQ 7 l pos).1 < 1 := by
                  rw [HQD.out]
                  split
                  · rename_i h1
                    have : ¬ 1 ≤ numL ds := fun h => hok ⟨h1, h⟩
                    show numL ds < 1
                    omega
                  · show (-1 : Int) < 1; omega
                obtain ⟨nq9, hnq9⟩ : ∃ n, n = numQ 7 l pos := ⟨_, rfl⟩
                rw [← hnq9] at HNQ1 hlt1
                clear hnq9 HQD
                obtain ⟨n1, n2⟩ := nq9
                dsimp only at HNQ1 hlt1
                have dn1 : decide (n1 < 1) = true := decide_eq_true hlt1
                rw [HN.out, if_pos (by simp)] at HT
                clear hok hdne
                go_wp2_with fail
                refine HNQ1.out.mono ?_
                rintro e w5 ⟨rfl, hw5⟩
                have hw6 := hw5.symm
                clear hw5
                subst hw6
                go_wp2
                go_ret3
                exact RetParse.bad HT.out hbw1
          · have HN : Hid (readM wv hv (l.drop q0) [] ps0 = ([], 4)) := Lib.hid (by rw [HI.out.m, List.drop_of_length_le (by rw [HG.out.1]; omega), rd_end])
            rw [HN.out, if_pos (by simp)] at HT
            go_wp2
            go_ret3
            exact RetParse.bad HT.out hbw1
end Go.Proofs.YtekmldneinnmoaaDoor
