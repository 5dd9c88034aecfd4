/-
  hood.collect: the offsets of a square for which a predicate holds; hood.Moore, hood.Neumann, hood.Hex. No condition but the radius.
-/
import Derived.Test.YtaofninfjdepfaaDoorRows
import Derived.Test.YtaofninfjdepfaaDoorOwn
import Derived.Test.YtaofninfjdepfaaDoorEqP
namespace Go.Proofs.YtaofninfjdepfaaDoor
open Go.RowKit
set_option maxRecDepth 100000
set_option linter.unusedVariables false

def xsOf (r : Nat) : List Int := (List.range (2 * r + 1)).map fun (i : Nat) => (i : Int) - (r : Int)
def rowOf (r : Nat) (p : Int → Int → Bool) (y : Int) (i : Nat) : List (Int × Int) := (((xsOf r).take i).filter (p · y)).map fun x => (x, y)
def gridOf (r : Nat) (p : Int → Int → Bool) (j : Nat) : List (Int × Int) := ((xsOf r).take j).flatMap fun y => rowOf r p y (2 * r + 1)
theorem xsOf_len (r : Nat) : (xsOf r).length = 2 * r + 1 := by simp [xsOf]
theorem xsOf_take (r i : Nat) (h : i < 2 * r + 1) : (xsOf r).take (i + 1) = (xsOf r).take i ++ [(i : Int) - r] := by
  rw [List.take_succ_eq_append_getElem (by rw [xsOf_len]; exact h)]
  simp [xsOf]
theorem rowOf_yes {r : Nat} {p : Int → Int → Bool} {y : Int} {i : Nat} (h : i < 2 * r + 1) (hp : p ((i : Int) - r) y = true) : rowOf r p y (i + 1) = rowOf r p y i ++ [((i : Int) - r, y)] := by
  simp [rowOf, xsOf_take r i h, hp]
theorem rowOf_no {r : Nat} {p : Int → Int → Bool} {y : Int} {i : Nat} (h : i < 2 * r + 1) (hp : p ((i : Int) - r) y = false) : rowOf r p y (i + 1) = rowOf r p y i := by
  simp [rowOf, xsOf_take r i h, hp]
theorem gridOf_succ {r : Nat} {p : Int → Int → Bool} {j : Nat} (h : j < 2 * r + 1) : gridOf r p (j + 1) = gridOf r p j ++ rowOf r p ((j : Int) - r) (2 * r + 1) := by
  simp [gridOf, xsOf_take r j h]
theorem rowOf_len (r : Nat) (p : Int → Int → Bool) (y : Int) (i : Nat) : (rowOf r p y i).length ≤ 2 * r + 1 := by
  unfold rowOf
  rw [List.length_map]
  refine Nat.le_trans (List.length_filter_le _ _) ?_
  rw [List.length_take, xsOf_len]; omega
theorem gridOf_len (r : Nat) (p : Int → Int → Bool) : ∀ j, j ≤ 2 * r + 1 → (gridOf r p j).length ≤ j * (2 * r + 1)
  | 0, _ => by simp [gridOf]
  | j + 1, h => by
    rw [gridOf_succ (by omega), List.length_append, Nat.add_mul]
    have := gridOf_len r p j (by omega)
    have := rowOf_len r p ((j : Int) - r) (2 * r + 1)
    omega
theorem Tryd.infoPt : (Tryd.prog.info? 79).map (fun i => (i.zero, i.size, i.bytes)) = some (some (.agg #[.int .i64 0, .int .i64 0]), 2, 16) := by kernel_rfl
theorem Tryd.infoInt : (Tryd.prog.info? 3).map (fun i => (i.zero, i.size, i.bytes)) = some (some (.int .i64 0), 1, 8) := by kernel_rfl

set_option maxHeartbeats 400000 in
theorem collect_any (r : Nat) (hr : r ≤ 2) (K : FuncId) (cap : Array Value) (p : Int → Int → Bool) (w : World)
    (hent : ∀ (args : Array Value) (w : World), (callFunc K args).run Tryd.prog w = .ok (.enter K args) w)
    (hc : ∀ (x y : Int) (w' : World), -2 ≤ x → x ≤ 2 → -2 ≤ y → y ≤ 2 → Below w.heap.size w w' → Calls Tryd.prog K (#[.int .i64 x, .int .i64 y] ++ cap) w' fun e w'' => e = .returned (.bool (p x y)) ∧ w' = w'') :
    Calls Tryd.prog 52 #[.int .i64 r, .func (.func K) #[] cap] w (RetPts (gridOf r p (2 * r + 1)) w) := by
  have HC := Lib.hid hc
  clear hc
  go_enter Tryd.func52, Tryd.ntmps52
  go_wp2
  go_loopw [5, 6] (fun v y wr => ∃ j : Nat, j ≤ 2 * r + 1 ∧ y = .int .i64 ((j : Int) - r) ∧ OwnP 79 wr w.heap.size v (gridOf r p j) ∧ Below w.heap.size w wr) (fun _ y _ => (r + 1 - intOf y).toNat)
  case atStart => exact ⟨0, by omega, by go_num, OwnP.nil _ _ _, Below.refl _ _⟩
  case round =>
    obtain ⟨j, hj, rfl, hown, hb⟩ := hrel
    by_cases hlt : j < 2 * r + 1
    · have hdec : decide (((j : Int) - r) ≤ (r : Int)) = true := decide_eq_true (by omega)
      go_wp2
      obtain ⟨wo, rfl⟩ : ∃ wo : World, wo = wr := ⟨_, rfl⟩
      go_loopw [5, 7] (fun v x wr => ∃ i : Nat, i ≤ 2 * r + 1 ∧ x = .int .i64 ((i : Int) - r) ∧ OwnP 79 wr w.heap.size v (gridOf r p j ++ rowOf r p ((j : Int) - r) i) ∧ Below w.heap.size w wr) (fun _ x _ => (r + 1 - intOf x).toNat)
      case atStart => exact ⟨0, by omega, by go_num, by simpa [rowOf] using hown, hb⟩
      case round =>
        obtain ⟨i, hi, rfl, hown2, hb2⟩ := hrel
        clear hown
        by_cases hlt2 : i < 2 * r + 1
        · go_wp2_with fail
          have hcall := HC.out ((i : Int) - r) ((j : Int) - r) wr (by omega) (by omega) (by omega) (by omega) hb2
          refine hcall.mono ?_
          rintro e w' ⟨rfl, rfl⟩
          clear hcall
          have hlen := gridOf_len r p j (by omega)
          have hlen2 := rowOf_len r p ((j : Int) - r) i
          have hlen3 : j * (2 * r + 1) ≤ 5 * 5 := Nat.mul_le_mul (by omega) (by omega)
          have hlen4 : (gridOf r p j ++ rowOf r p ((j : Int) - r) i).length < 4294967296 := by
            rw [List.length_append]; omega
          clear hlen hlen2 hlen3
          cases hp : p ((i : Int) - r) ((j : Int) - r)
          · have HP := rowOf_no hlt2 hp
            have HP2 := Lib.hid HP
            clear HP
            go_wp2
            go_roundw
            case rel => exact ⟨i + 1, by omega, by go_num, by rw [HP2.out]; exact hown2, hb2⟩
            case measure => simp [intOf]; omega
          · have HP := rowOf_yes hlt2 hp
            have HP2 := Lib.hid HP
            clear HP
            go_wp2_with (at_builtin; refine wpList_pushP rfl _ _ _ rfl w.heap.size 79 Tryd.underlying23 Tryd.infoPt _ _ rfl hown2 _ _ rfl hlen4 hb2.size ?_)
            intro v' w1 hown3 hb3
            have hb4 := hb2.trans hb3
            go_wp2
            go_roundw
            case rel => exact ⟨i + 1, by omega, by go_num, by rw [HP2.out]; exact hown3, hb4⟩
            case measure => simp [intOf]; omega
        · obtain rfl : i = 2 * r + 1 := by omega
          have HG := Lib.hid (gridOf_succ (p := p) hlt)
          go_wp2
          go_roundw
          case rel => exact ⟨j + 1, by omega, by go_num, by rw [HG.out]; exact hown2, hb2⟩
          case measure => simp [intOf]; omega
    · obtain rfl : j = 2 * r + 1 := by omega
      obtain ⟨A, c, hv, hp, hnew⟩ := hown.pts
      subst hv
      go_wp2
      go_ret
      exact ⟨A, c, rfl, hp, hnew, hb⟩

theorem enters {P : Program} {f : FuncId} {fn : Func} {c : Code} (hf : P.funcs[f]? = some fn) (hname : (fn.name == "runtime.NumGoroutine") = false) (hb : fn.body = some c) (args : Array Value) (w : World) :
    (callFunc f args).run P w = .ok (.enter f args) w := by
  have h1 : fn.name ≠ "runtime.NumGoroutine" := by simpa using hname
  simp [callFunc, hf, h1, hb]
def inAll (_ _ : Int) : Bool := true
def inDia (r : Nat) (x y : Int) : Bool := decide (x.natAbs + y.natAbs ≤ r)
def inHex (x y : Int) : Bool := decide (0 ≤ x * y)
def mooreL (r : Nat) : List (Int × Int) := gridOf r inAll (2 * r + 1)
def neumL (r : Nat) : List (Int × Int) := gridOf r (inDia r) (2 * r + 1)
def hexL : List (Int × Int) := gridOf 1 inHex 3
set_option maxHeartbeats 400000 in
theorem moore1_any (x y : Int) (w : World) : Calls Tryd.prog 53 #[.int .i64 x, .int .i64 y] w fun e w' => e = .returned (.bool (inAll x y)) ∧ w = w' := by
  go_enter Tryd.func53, Tryd.ntmps53
  go_wp2
  go_ret
  exact ⟨rfl, rfl⟩
set_option maxHeartbeats 400000 in
theorem hex1_any (x y : Int) (w : World) (hx : -2 ≤ x) (hx' : x ≤ 2) (hy : -2 ≤ y) (hy' : y ≤ 2) : Calls Tryd.prog 56 #[.int .i64 x, .int .i64 y] w fun e w' => e = .returned (.bool (inHex x y)) ∧ w = w' := by
  have h1 : -4 ≤ x * y ∧ x * y ≤ 4 := by
    obtain rfl | rfl | rfl | rfl | rfl : x = -2 ∨ x = -1 ∨ x = 0 ∨ x = 1 ∨ x = 2 := by omega
    all_goals omega
  obtain ⟨h1, h2⟩ := h1
  go_enter Tryd.func56, Tryd.ntmps56
  go_wp2
  go_ret
  exact ⟨rfl, rfl⟩
set_option maxHeartbeats 400000 in
theorem neum1_any (r : Nat) (hr : r ≤ 2) (a : Addr) (x y : Int) (w : World) (hc : w.cell? a = some (.int .i64 r)) (hx : -2 ≤ x) (hx' : x ≤ 2) (hy : -2 ≤ y) (hy' : y ≤ 2) :
    Calls Tryd.prog 55 #[.int .i64 x, .int .i64 y, .pointer (some a)] w fun e w' => e = .returned (.bool (inDia r x y)) ∧ w = w' := by
  go_enter Tryd.func55, Tryd.ntmps55
  go_wp2
  all_goals go_ret
  all_goals exact ⟨ret_bool (decide_eq_decide.2 (by omega)), rfl⟩
set_option maxHeartbeats 400000 in
theorem moore_any (r : Nat) (hr : r ≤ 2) (w : World) :
    Calls Tryd.prog 23 #[.int .i64 r] w (RetPts (mooreL r) w) := by
  have hE := enters Tryd.func53 (by kernel_rfl) rfl
  have hC := Lib.hid (collect_any r hr 53 #[] inAll w hE (fun x y w' _ _ _ _ _ => moore1_any x y w'))
  clear hE
  go_enter Tryd.func23, Tryd.ntmps23
  go_wp2_with fail
  refine hC.out.mono ?_
  rintro e w' ⟨A, c, rfl, hp, hnew, hb⟩
  go_wp2
  go_ret
  exact ⟨A, c, rfl, hp, hnew, hb⟩
set_option maxHeartbeats 400000 in
theorem hex_any (w : World) :
    Calls Tryd.prog 26 #[] w (RetPts hexL w) := by
  have hE := enters Tryd.func56 (by kernel_rfl) rfl
  have hC := Lib.hid (collect_any 1 (by omega) 56 #[] inHex w hE (fun x y w' h1 h2 h3 h4 _ => hex1_any x y w' h1 h2 h3 h4))
  clear hE
  go_enter Tryd.func26, Tryd.ntmps26
  go_wp2_with fail
  refine hC.out.mono ?_
  rintro e w' ⟨A, c, rfl, hp, hnew, hb⟩
  go_wp2
  go_ret
  exact ⟨A, c, rfl, hp, hnew, hb⟩
set_option maxHeartbeats 400000 in
theorem neum_any (r : Nat) (hr : r ≤ 2) (w : World) :
    Calls Tryd.prog 25 #[.int .i64 r] w (RetPts (neumL r) w) := by
  have hE := enters Tryd.func55 (by kernel_rfl) rfl
  have hc0 : (w.alloc (.cells #[.int .i64 r] 3)).cell? ⟨w.heap.size, 0, none⟩ = some (.int .i64 r) := cell_of_row _ _ _ _ _ _ (heap_alloc_new w _)
  have hC := Lib.hid (collect_any r hr 55 #[.pointer (some ⟨w.heap.size, 0, none⟩)] (inDia r) (w.alloc (.cells #[.int .i64 r] 3)) hE
    (fun x y w' h1 h2 h3 h4 h5 => neum1_any r hr _ x y w' ((h5.cell (by simp)).trans hc0) h1 h2 h3 h4))
  clear hE hc0
  go_enter Tryd.func25, Tryd.ntmps25
  go_wp2_with fail
  refine hC.out.mono ?_
  rintro e w' ⟨A, c, rfl, hp, hnew, hb⟩
  have hb' := (((Below.refl w.heap.size w).alloc (Nat.le_refl _) (.cells #[.int .i64 r] 3)).trans (hb.mono (by simp)))
  clear hb
  go_wp2
  go_ret
  exact ⟨A, c, rfl, hp, hnew.mono (by simp), hb'⟩
end Go.Proofs.YtaofninfjdepfaaDoor
