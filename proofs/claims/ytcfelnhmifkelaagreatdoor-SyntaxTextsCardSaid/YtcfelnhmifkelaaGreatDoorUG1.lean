/-
  texts Ord Pat Pat2 Pat3: parts of the proof; conditions stand with each theorem.
-/
import Derived.Test.YtcfelnhmifkelaaGreatDoorUG0
import Derived.Test.YtcfelnhmifkelaaGreatDoorUShelf
import Derived.BigQuiet
import Derived.Lib.QuietBelow
import Derived.Deep.RegionWith
import Derived.Deep.Cut
namespace Go.Proofs.YtcfelnhmifkelaaGreatDoor
open Lib(hid)
open Go.RowKit
set_option maxRecDepth 100000
set_option linter.unusedVariables false
set_option linter.unusedSimpArgs false

theorem below_new (w:World)(o:Obj):Below w.heap.size w (w.alloc o):=(Below.refl _ w).alloc (Nat.le_refl _) o
def placeB (x y:Int):Bool:=decide (-1048576≤x) && decide (x≤1048576) && decide (-1048576≤y) && decide (y≤1048576)
def befB (a b:Cel):Bool:=decide (a.y < b.y) || (a.y == b.y && decide (a.x < b.x))
def ptV (x y:Int):Value:=.agg #[.int .i64 x,.int .i64 y]
def celV (c:Cel):Value:=.agg #[.int .i64 c.x,.int .i64 c.y,.int .i64 c.s]
def ordP (x y x' y':Int):Int:=if Lib.compareInt y y'≠0 then Lib.compareInt y y' else Lib.compareInt x x'
def ordC (a b:Cel):Int:=ordP a.x a.y b.x b.y
theorem ord_bef (a b:Cel):decide (0≤ordC a b) = !befB a b:=by
 unfold ordC ordP befB Lib.compareInt;by_cases h1:a.y < b.y
 ·simp[h1]
 ·by_cases h2:b.y < a.y
  ·have h3:¬ a.y=b.y:=by omega
   simp[h1,h2,h3]
  ·have h3:a.y=b.y:=by omega
   by_cases h4:a.x < b.x
   ·simp[h3,h4]
   ·by_cases h5:b.x < a.x
    ·simp[h3,h4,h5]
    ·simp[h3,h4,h5]
set_option maxHeartbeats 800000 in
theorem place_any (x y:Int)(w:World):Calls Tryz.prog 93 #[.int .i64 x,.int .i64 y] w fun e w'=>e=.returned (.bool (placeB x y))∧w'=w:=by
 unfold placeB;cases k1:decide (-1048576≤x)
 ·go_enter Tryz.func93,Tryz.ntmps93;go_wp2;go_ret;exact⟨ret_bool (by simp),rfl⟩
 cases k2:decide (x≤1048576)
 ·go_enter Tryz.func93,Tryz.ntmps93;go_wp2;go_ret;exact⟨ret_bool (by simp),rfl⟩
 cases k3:decide (-1048576≤y)
 ·go_enter Tryz.func93,Tryz.ntmps93;go_wp2;go_ret;exact⟨ret_bool (by simp),rfl⟩
 go_enter Tryz.func93,Tryz.ntmps93;go_wp2;go_ret;exact⟨ret_bool (by simp),rfl⟩
set_option maxHeartbeats 800000 in
theorem before_any (a b:Cel)(w:World):Calls Tryz.prog 94 #[celV a,celV b] w fun e w'=>e=.returned (.bool (befB a b))∧Below w.heap.size w w':=by
 unfold celV befB;have hb1:=(below_new w (.cells #[.int .i64 a.x,.int .i64 a.y,.int .i64 a.s] 114))
 have hb2:=hid (hb1.alloc hb1.size (.cells #[.int .i64 b.x,.int .i64 b.y,.int .i64 b.s] 114));clear hb1;cases k1:decide (a.y < b.y)
 ·cases k2:(a.y == b.y)
  ·go_enter Tryz.func94,Tryz.ntmps94;go_wp2;go_ret;exact⟨ret_bool (by simp),hb2.out⟩
  ·go_enter Tryz.func94,Tryz.ntmps94;go_wp2;go_ret;exact⟨ret_bool (by simp),hb2.out⟩
 ·go_enter Tryz.func94,Tryz.ntmps94;go_wp2;go_ret;exact⟨ret_bool (by simp),hb2.out⟩
set_option maxHeartbeats 400000 in
theorem order_any (a b:Int)(w:World):Calls Tryz.prog 129 #[.int .i64 a,.int .i64 b] w fun e w'=>e=.returned (.int .i64 (Lib.compareInt a b))∧w'=w:=by
 unfold Lib.compareInt;by_cases k1:a < b
 ·rw[if_pos k1];go_enter Tryz.func129,Tryz.ntmps129;go_wp2;go_ret;exact⟨rfl,rfl⟩
 ·rw[if_neg k1];by_cases k2:b < a
  ·rw[if_pos k2];go_enter Tryz.func129,Tryz.ntmps129;go_wp2;go_ret;exact⟨rfl,rfl⟩
  ·rw[if_neg k2];go_enter Tryz.func129,Tryz.ntmps129;go_wp2;go_ret;exact⟨rfl,rfl⟩
set_option maxHeartbeats 800000 in
theorem at_any (c:Cel)(w:World):Calls Tryz.prog 90 #[celV c] w fun e w'=>e=.returned (ptV c.x c.y)∧Below w.heap.size w w':=by
 unfold celV ptV;have hb1:=(below_new w (.cells #[.int .i64 c.x,.int .i64 c.y,.int .i64 c.s] 114))
 have hb3:=hid (hb1.alloc hb1.size (.cells #[.int .i64 c.x,.int .i64 c.y] 117));clear hb1;go_enter Tryz.func90,Tryz.ntmps90;go_wp2;refine bodyPost_ret (v:=.agg #[.int .i64 c.x,.int .i64 c.y]) (by simp[results,Tryz.results90,go_sem]) rfl ?_;exact⟨rfl,hb3.out⟩
theorem placed_eq (x y:Int):(decide (max x y≤1048576) && decide (-1048576≤min x y))=placeB x y:=by
 unfold placeB;rw[Bool.eq_iff_iff];simp only[Bool.and_eq_true,decide_eq_true_eq];omega
set_option maxHeartbeats 800000 in
theorem placed_any (x y:Int)(w:World):Calls Tryz.prog 89 #[ptV x y] w fun e w'=>e=.returned (.bool (placeB x y))∧Below w.heap.size w w':=by
 unfold ptV;rw[← placed_eq];have hb1:=hid (below_new w (.cells #[.int .i64 x,.int .i64 y] 117));cases k1:decide (max x y≤1048576)
 ·go_enter Tryz.func89,Tryz.ntmps89;go_wp2;go_ret;exact⟨ret_bool (by simp),hb1.out⟩
 ·go_enter Tryz.func89,Tryz.ntmps89;go_wp2;go_ret;exact⟨ret_bool (by simp),hb1.out⟩
def orL:List Int→Int
 | []=>0
 | x :: l=>if x=0 then orL l else x
theorem orL_yes {l:List Int}{j:Nat}(h:j < l.length)(hd:l[j]=0):orL (l.drop j)=orL (l.drop (j+1)):=by
 rw[List.drop_eq_getElem_cons h];simp[orL,hd]
theorem orL_no {l:List Int}{j:Nat}(h:j < l.length)(hd:¬ l[j]=0):orL (l.drop j)=l[j]:=by
 rw[List.drop_eq_getElem_cons h];simp[orL,hd]
set_option maxHeartbeats 800000 in
theorem cmpOr_any (A:Option Addr)(c:Nat)(xs:List Int)(w:World)(ha:Ints w A xs):Calls Tryz.prog 165 #[.slice A xs.length c] w fun e w'=>e=.returned (.int .i64 (orL xs))∧w'=w:=by
 have hn:=ha.le;go_enter Tryz.func165,Tryz.ntmps165;go_wp2;go_loopw [8] (fun i wr=>∃ k:Nat,k≤xs.length∧i=.int .i64 k∧wr=w∧Hid (orL xs=orL (xs.drop k))) (fun i _=>xs.length - (intOf i).toNat)
 case atStart=>exact⟨0,Nat.zero_le _,rfl,rfl,hid (by simp)⟩
 case round=>
  obtain⟨k,hk,rfl,rfl,HT⟩:=hrel;by_cases hlt:k < xs.length
  ·obtain⟨b1,o1,rfl,-,hc⟩:=ha.at_ hlt;by_cases he:xs[k]=0
   ·have hd:(xs[k] != 0)=false:=by simp[he]
    have HE:=hid (orL_yes hlt he);clear he;go_wp2;go_roundw
    case rel=>exact⟨k+1,by omega,by go_num,(by first | rfl | trivial),hid (HT.out.trans HE.out)⟩
    case measure=>simp[intOf];omega
   ·have hd:(xs[k] != 0)=true:=by simp[he]
    have HE:=hid (orL_no hlt he);clear he;go_wp2;go_ret;exact⟨ret_int (by rw[HT.out,HE.out]),rfl⟩
  ·have HZ:Hid (orL xs=0):=hid (by
    have:=HT.out;rw[List.drop_of_length_le (by omega)] at this;exact this)
   go_wp2;go_ret;exact⟨ret_int (by rw[HZ.out]),rfl⟩
theorem ints_new (w:World)(zs:List Int)(h0:0 < zs.length)(h1:zs.length≤9223372036854775807):Ints (w.alloc (.cells (zs.map (Value.int .i64)).toArray 3)) (some ⟨w.heap.size,0,none⟩) zs:=by
 refine⟨⟨?_,fun _=>⟨_,rfl,by simp,fun j v hv=>?_⟩⟩,h1⟩
 ·simp
 ·rw[addr_add];have:(w.alloc (.cells (zs.map (Value.int .i64)).toArray 3)).cell? ⟨w.heap.size,0+j,none⟩=(zs.map (Value.int .i64)).toArray[0+j]?:=cell_of_row _ _ _ _ _ _ (heap_alloc_new w _);rw[this];simpa using hv
structure CmpJ (w0:World)(P:Nat)(Q:Nat)(x:Int)(y:Int)(x':Int)(y':Int)(u:Int)(v:Int)(r:Int)(b0 b1 b2 b3 b4 b5 b6 b7 b8 b9 b10 b11 b12:Bool)(v5 v6 v7 v8 v9 v10 v11 v12 v13 v14 v15 v16 v4:Value)(w:World):Prop where
 below:Below w0.heap.size w0 w
 h0:b0=true→v5=.pointer (some ⟨P,1,none⟩)
 h1:b1=true→v6=.int .i64 y
 h2:b2=true→v7=.pointer (some ⟨Q,1,none⟩)
 h3:b3=true→v8=.int .i64 y'
 h4:b4=true→v9=.int .i64 u
 h5:b5=true→v10=.pointer (some ⟨P,0,none⟩)
 h6:b6=true→v11=.int .i64 x
 h7:b7=true→v12=.pointer (some ⟨Q,0,none⟩)
 h8:b8=true→v13=.int .i64 x'
 h9:b9=true→v14=.int .i64 v
 h10:b10=true→∃ g,v15=.slice (some ⟨g,0,none⟩) 2 2∧Ints w (some ⟨g,0,none⟩) [u,v]
 h11:b11=true→v16=.int .i64 r
 h12:b12=true→v4=.int .i64 r
section
variable {w0 : World} {P : Nat} {Q : Nat} {x : Int} {y : Int} {x' : Int} {y' : Int} {u : Int} {v : Int} {r : Int} {b0 b1 b2 b3 b4 b5 b6 b7 b8 b9 b10 b11 b12 : Bool} {v5 v6 v7 v8 v9 v10 v11 v12 v13 v14 v15 v16 v4 : Value} {w w' : World}
theorem CmpJ.world (H:CmpJ w0 P Q x y x' y' u v r b0 b1 b2 b3 b4 b5 b6 b7 b8 b9 b10 b11 b12 v5 v6 v7 v8 v9 v10 v11 v12 v13 v14 v15 v16 v4 w)(hb:Below w.heap.size w w'):CmpJ w0 P Q x y x' y' u v r b0 b1 b2 b3 b4 b5 b6 b7 b8 b9 b10 b11 b12 v5 v6 v7 v8 v9 v10 v11 v12 v13 v14 v15 v16 v4 w':=
 {H with below:=H.below.trans (hb.mono H.below.size),h10:=fun h=>by obtain⟨g,h1,h2⟩:=H.h10 h;exact⟨g,h1,h2.ext hb⟩ }
end
set_option maxHeartbeats 4000000 in
theorem compare_any (x y x' y':Int)(w:World):Calls Tryz.prog 125 #[ptV x y,ptV x' y'] w fun e w'=>e=.returned (.int .i64 (ordP x y x' y'))∧Below w.heap.size w w':=by
 unfold ptV;have hb1:=(below_new w (.cells #[.int .i64 x,.int .i64 y] 117))
 have HB:=hid (hb1.alloc hb1.size (.cells #[.int .i64 x',.int .i64 y'] 117));have p0:=(Blk.new w 117 #[.int .i64 x,.int .i64 y]).alloc (.cells #[.int .i64 x',.int .i64 y'] 117);have q0:=Blk.new (w.alloc (.cells #[.int .i64 x,.int .i64 y] 117)) 117 #[.int .i64 x',.int .i64 y'];rw[show (w.alloc (.cells #[.int .i64 x,.int .i64 y] 117)).heap.size=w.heap.size+1 from by simp] at q0;have P0:=hid (p0.cell_ 0 (.int .i64 x) rfl);have P1:=hid (p0.cell_ 1 (.int .i64 y) rfl);have Q0:=hid (q0.cell_ 0 (.int .i64 x') rfl);have Q1:=hid (q0.cell_ 1 (.int .i64 y') rfl);have HS:Hid (w.heap.size < ((w.alloc (.cells #[.int .i64 x,.int .i64 y] 117)).alloc (.cells #[.int .i64 x',.int .i64 y'] 117)).heap.size∧w.heap.size+1 < ((w.alloc (.cells #[.int .i64 x,.int .i64 y] 117)).alloc (.cells #[.int .i64 x',.int .i64 y'] 117)).heap.size):=hid (by simp;omega);clear hb1 p0 q0;obtain⟨r,hr⟩:∃ r,r=ordP x y x' y':=⟨_,rfl⟩
 have HR:Hid (orL [Lib.compareInt y y',Lib.compareInt x x']=r):=hid (by
  rw[hr];unfold ordP;by_cases h:Lib.compareInt y y'=0
  ·simp[orL,h];intro h2;exact h2.symm
  ·simp[orL,h])
 have HR2:=hid hr;clear hr;have C1:=hid (fun w=>Tryz.cmp_Compare_int y y' w);have C2:=hid (fun w=>Tryz.cmp_Compare_int x x' w);generalize Lib.compareInt y y'=u at *;generalize Lib.compareInt x x'=v at *;go_enter Tryz.func125,Tryz.ntmps125;go_upto_region 1 with fail
 generalize ((w.alloc (.cells #[.int .i64 x,.int .i64 y] 117)).alloc (.cells #[.int .i64 x',.int .i64 y'] 117))=w2 at *;refine wp_region_J (by kernel_rfl) (fun listed act w'=>∃ b0 b1 b2 b3 b4 b5 b6 b7 b8 b9 b10 b11 b12 v5 v6 v7 v8 v9 v10 v11 v12 v13 v14 v15 v16 v4,listed=#[b0,b1,b2,b3,b4,b5,b6,b7,b8,b9,b10,b11,b12]∧act=Act.mk #[.agg #[.int .i64 x,.int .i64 y],.agg #[.int .i64 x',.int .i64 y'],.pointer (some ⟨w.heap.size,0,none⟩),.pointer (some ⟨w.heap.size+1,0,none⟩),v4,v5,v6,v7,v8,v9,v10,v11,v12,v13,v14,v15,v16] []∧CmpJ w2 w.heap.size (w.heap.size+1) x y x' y' u v r b0 b1 b2 b3 b4 b5 b6 b7 b8 b9 b10 b11 b12 v5 v6 v7 v8 v9 v10 v11 v12 v13 v14 v15 v16 v4 w') ?_ ?_ ?_
 ·exact (e_8 (e_8 (e_8 (e_2 ⟨rfl,rfl,(by constructor;(case below=>exact (Below.refl _ w2).drew);all_goals simp)⟩))))
 ·rintro i listed act w' hi ⟨b0,b1,b2,b3,b4,b5,b6,b7,b8,b9,b10,b11,b12,v5,v6,v7,v8,v9,v10,v11,v12,v13,v14,v15,v16,v4,rfl,rfl,H⟩;have hi16:i < 13:=by
   obtain⟨-,o,ho,-⟩:=mem_ready.1 hi;exact (Array.getElem?_eq_some_iff.1 ho).1
  obtain rfl | rfl | rfl | rfl | rfl | rfl | rfl | rfl | rfl | rfl | rfl | rfl | rfl:i=0∨i=1∨i=2∨i=3∨i=4∨i=5∨i=6∨i=7∨i=8∨i=9∨i=10∨i=11∨i=12:=by omega
  all_goals simp[mem_ready,Region.binds] at hi
  ·refine wpOp_hidden rfl fun K hK=>?_;go_wp2;refine OnlyN.mk (hK.out _ _ (e_8 (e_8 (e_8 (e_2 ⟨rfl,rfl,{ H with h0:=fun _=>rfl }⟩)))))
  ·obtain rfl:=H.h0 (by simp[hi]);have cc:w'.cell? ⟨w.heap.size,1,none⟩=_:=(H.below.cell (p:=⟨w.heap.size,1,none⟩) HS.out.1).trans P1.out;refine wpOp_hidden rfl fun K hK=>?_;go_wp2;refine OnlyN.mk (hK.out _ _ (e_8 (e_8 (e_8 (e_2 ⟨rfl,rfl,{ H with h1:=fun _=>rfl }⟩)))))
  ·refine wpOp_hidden rfl fun K hK=>?_;go_wp2;refine OnlyN.mk (hK.out _ _ (e_8 (e_8 (e_8 (e_2 ⟨rfl,rfl,{ H with h2:=fun _=>rfl }⟩)))))
  ·obtain rfl:=H.h2 (by simp[hi]);have cc:w'.cell? ⟨w.heap.size+1,1,none⟩=_:=(H.below.cell (p:=⟨w.heap.size+1,1,none⟩) HS.out.2).trans Q1.out;refine wpOp_hidden rfl fun K hK=>?_;go_wp2;refine OnlyN.mk (hK.out _ _ (e_8 (e_8 (e_8 (e_2 ⟨rfl,rfl,{ H with h3:=fun _=>rfl }⟩)))))
  ·obtain rfl:=H.h1 (by simp[hi]);obtain rfl:=H.h3 (by simp[hi]);refine wpOp_hidden rfl fun K hK=>?_;go_wp2_with fail;refine (C1.out _).mono ?_;rintro e w9 ⟨rfl,hw9⟩;have hw8:=hw9.symm;clear hw9;subst hw8;go_wp2;refine OnlyN.mk (hK.out _ _ (e_8 (e_8 (e_8 (e_2 ⟨rfl,rfl,{ H with h4:=fun _=>rfl }⟩)))))
  ·refine wpOp_hidden rfl fun K hK=>?_;go_wp2;refine OnlyN.mk (hK.out _ _ (e_8 (e_8 (e_8 (e_2 ⟨rfl,rfl,{ H with h5:=fun _=>rfl }⟩)))))
  ·obtain rfl:=H.h5 (by simp[hi]);have cc:w'.cell? ⟨w.heap.size,0,none⟩=_:=(H.below.cell (p:=⟨w.heap.size,0,none⟩) HS.out.1).trans P0.out;refine wpOp_hidden rfl fun K hK=>?_;go_wp2;refine OnlyN.mk (hK.out _ _ (e_8 (e_8 (e_8 (e_2 ⟨rfl,rfl,{ H with h6:=fun _=>rfl }⟩)))))
  ·refine wpOp_hidden rfl fun K hK=>?_;go_wp2;refine OnlyN.mk (hK.out _ _ (e_8 (e_8 (e_8 (e_2 ⟨rfl,rfl,{ H with h7:=fun _=>rfl }⟩)))))
  ·obtain rfl:=H.h7 (by simp[hi]);have cc:w'.cell? ⟨w.heap.size+1,0,none⟩=_:=(H.below.cell (p:=⟨w.heap.size+1,0,none⟩) HS.out.2).trans Q0.out;refine wpOp_hidden rfl fun K hK=>?_;go_wp2;refine OnlyN.mk (hK.out _ _ (e_8 (e_8 (e_8 (e_2 ⟨rfl,rfl,{ H with h8:=fun _=>rfl }⟩)))))
  ·obtain rfl:=H.h6 (by simp[hi]);obtain rfl:=H.h8 (by simp[hi]);refine wpOp_hidden rfl fun K hK=>?_;go_wp2_with fail;refine (C2.out _).mono ?_;rintro e w9 ⟨rfl,hw9⟩;have hw8:=hw9.symm;clear hw9;subst hw8;go_wp2;refine OnlyN.mk (hK.out _ _ (e_8 (e_8 (e_8 (e_2 ⟨rfl,rfl,{ H with h9:=fun _=>rfl }⟩)))))
  ·obtain rfl:=H.h4 (by simp[hi]);obtain rfl:=H.h9 (by simp[hi]);have HA:=hid (H.world (below_new w' (.cells #[.int .i64 u,.int .i64 v] 3)));have HI:=hid (ints_new w' [u,v] (by simp) (by simp));have HH:=hid H;clear H;refine wpOp_hidden rfl fun K hK=>?_;go_wp2;refine OnlyN.mk (hK.out _ _ (e_8 (e_8 (e_8 (e_2 ⟨rfl,rfl,⟨HA.out.below,HA.out.h0,HA.out.h1,HA.out.h2,HA.out.h3,HA.out.h4,HA.out.h5,HA.out.h6,HA.out.h7,HA.out.h8,HA.out.h9,fun _=>⟨w'.heap.size,rfl,HI.out⟩,HA.out.h11,HA.out.h12⟩⟩)))))
  ·obtain⟨g,rfl,hg⟩:=H.h10 (by simp[hi]);have HO:=hid (cmpOr_any (some ⟨g,0,none⟩) 2 [u,v] w' hg);rw[HR.out] at HO;clear hg;refine wpOp_hidden rfl fun K hK=>?_;go_wp2_with fail;refine HO.out.mono ?_;rintro e w9 ⟨rfl,hw9⟩;have hw8:=hw9.symm;clear hw9;subst hw8;go_wp2;refine OnlyN.mk (hK.out _ _ (e_8 (e_8 (e_8 (e_2 ⟨rfl,rfl,{ H with h11:=fun _=>rfl }⟩)))))
  ·obtain rfl:=H.h11 (by simp[hi]);refine wpOp_hidden rfl fun K hK=>?_;go_wp2;refine OnlyN.mk (hK.out _ _ (e_8 (e_8 (e_8 (e_2 ⟨rfl,rfl,{ H with h12:=fun _=>rfl }⟩)))))
 ·rintro listed act w' hr ⟨b0,b1,b2,b3,b4,b5,b6,b7,b8,b9,b10,b11,b12,v5,v6,v7,v8,v9,v10,v11,v12,v13,v14,v15,v16,v4,rfl,rfl,H⟩;have hn:=List.eq_nil_iff_forall_not_mem.1 hr;have r0:=hn 0;simp[mem_ready,Region.binds] at r0;subst r0;have r1:=hn 1;simp[mem_ready,Region.binds] at r1;subst r1;have r2:=hn 2;simp[mem_ready,Region.binds] at r2;subst r2;have r3:=hn 3;simp[mem_ready,Region.binds] at r3;subst r3;have r4:=hn 4;simp[mem_ready,Region.binds] at r4;subst r4;have r5:=hn 5;simp[mem_ready,Region.binds] at r5;subst r5;have r6:=hn 6;simp[mem_ready,Region.binds] at r6;subst r6;have r7:=hn 7;simp[mem_ready,Region.binds] at r7;subst r7;have r8:=hn 8;simp[mem_ready,Region.binds] at r8;subst r8;have r9:=hn 9;simp[mem_ready,Region.binds] at r9;subst r9;have r10:=hn 10;simp[mem_ready,Region.binds] at r10;subst r10;have r11:=hn 11;simp[mem_ready,Region.binds] at r11;subst r11;have r12:=hn 12;simp[mem_ready,Region.binds] at r12;subst r12;obtain rfl:=H.h12 rfl;go_wp2_with fail;go_ret;exact⟨ret_int HR2.out,HB.out.trans (H.below.mono HB.out.size)⟩

set_option maxHeartbeats 2000000 in
theorem order2_any (a b:Cel)(w:World):Calls Tryz.prog 91 #[celV a,celV b] w fun e w'=>e=.returned (.int .i64 (ordC a b))∧Below w.heap.size w w':=by
 obtain⟨w2,hw2⟩:∃ w2,w2=(w.alloc (.cells #[.int .i64 a.x,.int .i64 a.y,.int .i64 a.s] 114)).alloc (.cells #[.int .i64 b.x,.int .i64 b.y,.int .i64 b.s] 114):=⟨_,rfl⟩
 have hb1:=(below_new w (.cells #[.int .i64 a.x,.int .i64 a.y,.int .i64 a.s] 114))
 have hb2:=hb1.alloc hb1.size (.cells #[.int .i64 b.x,.int .i64 b.y,.int .i64 b.s] 114);have p0:=(Blk.new w 114 #[.int .i64 a.x,.int .i64 a.y,.int .i64 a.s]).alloc (.cells #[.int .i64 b.x,.int .i64 b.y,.int .i64 b.s] 114);have q0:=Blk.new (w.alloc (.cells #[.int .i64 a.x,.int .i64 a.y,.int .i64 a.s] 114)) 114 #[.int .i64 b.x,.int .i64 b.y,.int .i64 b.s];rw[show (w.alloc (.cells #[.int .i64 a.x,.int .i64 a.y,.int .i64 a.s] 114)).heap.size=w.heap.size+1 from by simp] at q0;rw[← hw2] at hb2 p0 q0;have HB:=hid hb2;have P0:=cell_regrown (p0.cell_ 0 (.int .i64 a.x) rfl);have P1:=cell_regrown (p0.cell_ 1 (.int .i64 a.y) rfl);have P2:=cell_regrown (p0.cell_ 2 (.int .i64 a.s) rfl);have Q0:=cell_regrown (q0.cell_ 0 (.int .i64 b.x) rfl);have Q1:=cell_regrown (q0.cell_ 1 (.int .i64 b.y) rfl);have Q2:=cell_regrown (q0.cell_ 2 (.int .i64 b.s) rfl);have cA:=fun d os=>Calls.regrown_of (w:=w2) (d:=d) (os:=os) (at_any a _);have cB:=fun d os=>Calls.regrown_of (w:=w2) (d:=d) (os:=os) (at_any b _);have cC:=fun d os=>Calls.regrown_of (w:=w2) (d:=d) (os:=os) (compare_any a.x a.y b.x b.y _);unfold celV ptV at *;unfold ordC;have CA:=hid cA;have CB:=hid cB;have CC:=hid cC;have HW:=hid hw2;clear cA cB cC hb1 hb2 p0 q0 hw2;go_enter Tryz.func91,Tryz.ntmps91;go_upto_region 1 with fail
 rw[← HW.out];refine wp_region_quiet_below (by kernel_rfl) (by kernel_rfl) ?_;repeat (go_big_quiet_step (first | with_reducible exact CA.out _ _ | with_reducible exact CB.out _ _ | with_reducible exact CC.out _ _))
 refine wpQuiet_nil ?_;intro _ hw';obtain⟨⟨dq,osq⟩,hw''⟩:=hw';subst hw'';go_wp2;go_ret;exact⟨rfl,HB.out.trans ((below_regrown w2 dq osq).mono HB.out.size)⟩

def okB (p:Option Cel)(c:Cel):Bool:=placeB c.x c.y && decide (1≤c.s) && decide (c.s < 8) && (match p with | none=>true | some q=>befB q c)
def chainB:Option Cel→List Cel→Bool
 | _,[]=>true
 | p,c :: l=>okB p c && chainB (some c) l
def rightC (ps:List Cel):Bool:=decide (ps.length≤5000) && chainB none ps
def prevC (ps:List Cel):Nat→Option Cel
 | 0=>none
 | k+1=>ps[k]?
theorem chain_yes {ps:List Cel}{k:Nat}(h:k < ps.length)(hd:okB (prevC ps k) ps[k]=true):chainB (prevC ps k) (ps.drop k)=chainB (prevC ps (k+1)) (ps.drop (k+1)):=by
 rw[List.drop_eq_getElem_cons h];show (okB (prevC ps k) ps[k] && chainB (some ps[k]) (ps.drop (k+1)))=chainB ps[k]? (ps.drop (k+1));rw[hd,List.getElem?_eq_getElem h];rfl
theorem chain_no {ps:List Cel}{k:Nat}(h:k < ps.length)(hd:okB (prevC ps k) ps[k]=false):chainB (prevC ps k) (ps.drop k)=false:=by
 rw[List.drop_eq_getElem_cons h];simp[chainB,hd]
set_option maxHeartbeats 8000000 in
theorem right_any (A:Option Addr)(c:Nat)(ps:List Cel)(w:World)(ha:Cls w A ps) :
  Calls Tryz.prog 45 #[.slice A ps.length c] w fun e w'=>e=.returned (.bool (rightC ps))∧Below w.heap.size w w':=by
 have hn:=ha.le;unfold rightC;by_cases hl:ps.length≤5000
 ·have d0:decide ((5000:Int) < (ps.length:Int))=false:=decide_eq_false (by omega);rw[decide_eq_true hl];go_enter Tryz.func45,Tryz.ntmps45;go_wp2;go_loopw [10] (fun i wr=>∃ k:Nat,k≤ps.length∧i=.int .i64 k∧Hid (Below w.heap.size w wr)∧Hid (chainB none ps=chainB (prevC ps k) (ps.drop k))) (fun i _=>ps.length - (intOf i).toNat)
  case atStart=>exact⟨0,Nat.zero_le _,rfl,hid (Below.refl _ _),hid rfl⟩
  case round=>
   obtain⟨k,hk,rfl,HB,HT⟩:=hrel;by_cases hlt:k < ps.length
   ·obtain⟨b1,o1,e1,hb1,hc0,hc1,hc2⟩:=(ha.ext HB.out).at_ hlt;have hc1':wr.cell? ⟨b1,o1+k*3+1,none⟩=some (.int .i64 ps[k].y):=hc1;obtain⟨cx,hcx⟩:∃ cx,cx=ps[k]:=⟨_,rfl⟩
    rw[← hcx] at hc0 hc1 hc2;have HCX:=hid hcx;have HE1:=hid e1;have hnb:=below_new wr (.cells #[.int .i64 cx.x,.int .i64 cx.y,.int .i64 cx.s] 114);obtain⟨wb,hwb⟩:∃ wb,wb=wr.alloc (.cells #[.int .i64 cx.x,.int .i64 cx.y,.int .i64 cx.s] 114):=⟨_,rfl⟩
    have p0:=Blk.new wr 114 #[.int .i64 cx.x,.int .i64 cx.y,.int .i64 cx.s];rw[← hwb] at hnb p0;have P0:=cell_regrown (p0.cell_ 0 (.int .i64 cx.x) rfl);have P1:=cell_regrown (p0.cell_ 1 (.int .i64 cx.y) rfl);have P2:=cell_regrown (p0.cell_ 2 (.int .i64 cx.s) rfl);have HB2:=hid (HB.out.trans (hnb.mono HB.out.size));have HX:=hid (And.intro p0 hnb);have cA:=fun d os=>Calls.regrown_of (w:=wb) (d:=d) (os:=os) (at_any cx _);have cB:=fun d os=>Calls.regrown_of (w:=wb) (d:=d) (os:=os) (placed_any cx.x cx.y _);have HW:=hid hwb;unfold celV ptV at *;clear hcx hc1' p0 hnb hwb;cases k1:placeB cx.x cx.y
    ·rw[k1] at cB;have K1:=hid k1;clear k1;have CA:=hid cA;have CB:=hid cB;clear cA cB;subst e1;go_upto_region 6 with fail
     rw[← HW.out];refine wp_region_quiet_below (by kernel_rfl) (by kernel_rfl) ?_;repeat (go_big_quiet_step (first | with_reducible exact CA.out _ _ | with_reducible exact CB.out _ _))
     refine wpQuiet_nil ?_;intro _ hw';obtain⟨⟨dq,osq⟩,hw''⟩:=hw';subst hw'';have HF:Hid (chainB none ps=false):=hid (by rw[HT.out];exact chain_no hlt (by rw[← HCX.out];unfold okB;rw[K1.out] <;> rfl));go_wp2;go_ret;exact⟨ret_bool (by rw[HF.out] <;> rfl),HB2.out.trans ((below_regrown wb dq osq).mono HB2.out.size)⟩
    rw[k1] at cB;have K1:=hid k1;clear k1;by_cases k2:cx.s < 1
    ·have d2:decide (cx.s < 1)=true:=decide_eq_true k2;have K2:=hid k2;clear k2;have CA:=hid cA;have CB:=hid cB;clear cA cB;subst e1;go_upto_region 6 with fail
     rw[← HW.out];refine wp_region_quiet_below (by kernel_rfl) (by kernel_rfl) ?_;repeat (go_big_quiet_step (first | with_reducible exact CA.out _ _ | with_reducible exact CB.out _ _))
     refine wpQuiet_nil ?_;intro _ hw';obtain⟨⟨dq,osq⟩,hw''⟩:=hw';subst hw'';have HF:Hid (chainB none ps=false):=hid (by rw[HT.out];exact chain_no hlt (by rw[← HCX.out];unfold okB;rw[K1.out,decide_eq_false (by have:=K2.out;omega)] <;> rfl));go_wp2;go_ret;exact⟨ret_bool (by rw[HF.out] <;> rfl),HB2.out.trans ((below_regrown wb dq osq).mono HB2.out.size)⟩
    have d2:decide (cx.s < 1)=false:=decide_eq_false k2;have K2:=hid k2;clear k2;by_cases k3:8≤cx.s
    ·have d3:decide (8≤cx.s)=true:=decide_eq_true k3;have K3:=hid k3;clear k3;have CA:=hid cA;have CB:=hid cB;clear cA cB;subst e1;go_upto_region 6 with fail
     rw[← HW.out];refine wp_region_quiet_below (by kernel_rfl) (by kernel_rfl) ?_;repeat (go_big_quiet_step (first | with_reducible exact CA.out _ _ | with_reducible exact CB.out _ _))
     refine wpQuiet_nil ?_;intro _ hw';obtain⟨⟨dq,osq⟩,hw''⟩:=hw';subst hw'';have HF:Hid (chainB none ps=false):=hid (by rw[HT.out];exact chain_no hlt (by rw[← HCX.out];unfold okB;rw[K1.out,decide_eq_false (p:=cx.s < 8) (by have:=K3.out;omega)] <;> simp));go_wp2;go_ret;exact⟨ret_bool (by rw[HF.out] <;> rfl),HB2.out.trans ((below_regrown wb dq osq).mono HB2.out.size)⟩
    have d3:decide (8≤cx.s)=false:=decide_eq_false k3;have K3:=hid k3;clear k3;cases k with
    | zero=>
     simp only[Nat.zero_mul,Nat.add_zero] at hc0 hc1 hc2;have d4:decide ((0:Int) < ((0:Nat):Int))=false:=by simp
     have CA:=hid cA;have CB:=hid cB;clear cA cB;subst e1;go_upto_region 6 with fail
     rw[← HW.out];refine wp_region_quiet_below (by kernel_rfl) (by kernel_rfl) ?_;repeat (go_big_quiet_step (first | with_reducible exact CA.out _ _ | with_reducible exact CB.out _ _))
     refine wpQuiet_nil ?_;intro _ hw';obtain⟨⟨dq,osq⟩,hw''⟩:=hw';subst hw'';have HF:=hid (HT.out.trans (chain_yes hlt (by rw[← HCX.out];unfold okB;rw[K1.out,decide_eq_true (by have:=K2.out;omega),decide_eq_true (by have:=K3.out;omega)] <;> rfl)));have HB3:=hid (HB2.out.trans ((below_regrown wb dq osq).mono HB2.out.size));go_wp2;go_roundw
     case rel=>exact⟨0+1,by omega,rfl,HB3,HF⟩
     case measure=>simp[intOf];omega
    | succ k=>
     have d4:decide ((0:Int) < ((k+1:Nat):Int))=true:=decide_eq_true (by omega);have hw1:wrap64 (((k+1:Nat):Int) - 1)=(k:Int):=by unfold wrap64;omega
     have hi1:(k:Int) < (ps.length:Int):=by omega
     have hk1:k < ps.length:=by omega
     obtain⟨b2,o2,e2,-,hd0,hd1,hd2⟩:=((ha.ext HB.out).ext HX.out.2).at_ hk1;rw[e1] at e2;injection e2 with e2
     injection e2 with e3 e4
     subst e3 e4;obtain⟨px,hpx⟩:∃ px,px=ps[k]:=⟨_,rfl⟩
     rw[← hpx] at hd0 hd1 hd2;have HPX:=hid hpx;have R0:=cell_regrown hd0;have R1:=cell_regrown hd1;have R2:=cell_regrown hd2;have cD:=fun d os=>Calls.regrown_of (w:=wb) (d:=d) (os:=os) (order2_any px cx _);unfold celV at cD;have HPR:Hid (prevC ps (k+1)=some px):=hid (by show ps[k]?=_;rw[List.getElem?_eq_getElem hk1,hpx]);have hob:=ord_bef px cx;cases k5:befB px cx
     ·have d5:decide (0≤ordC px cx)=true:=by rw[hob,k5];rfl
      have K5:=hid k5;generalize ordC px cx=z at *;clear hob k5 hpx hd0 hd1 hd2;have CA:=hid cA;have CB:=hid cB;have CD:=hid cD;clear cA cB cD;subst e1;go_upto_region 6 with fail
      rw[← HW.out];refine wp_region_quiet_below (by kernel_rfl) (by kernel_rfl) ?_;repeat (go_big_quiet_step (first | with_reducible exact CA.out _ _ | with_reducible exact CB.out _ _ | with_reducible exact CD.out _ _))
      refine wpQuiet_nil ?_;intro _ hw';obtain⟨⟨dq,osq⟩,hw''⟩:=hw';subst hw'';have HF:Hid (chainB none ps=false):=hid (by rw[HT.out];exact chain_no hlt (by rw[← HCX.out,HPR.out];unfold okB;rw[K1.out];show (true && decide (1≤cx.s) && decide (cx.s < 8) && befB px cx)=_;rw[K5.out] <;> simp));go_wp2;go_ret;exact⟨ret_bool (by rw[HF.out] <;> rfl),HB2.out.trans ((below_regrown wb dq osq).mono HB2.out.size)⟩
     ·have d5:decide (0≤ordC px cx)=false:=by rw[hob,k5];rfl
      have K5:=hid k5;generalize ordC px cx=z at *;clear hob k5 hpx hd0 hd1 hd2;have CA:=hid cA;have CB:=hid cB;have CD:=hid cD;clear cA cB cD;subst e1;go_upto_region 6 with fail
      rw[← HW.out];refine wp_region_quiet_below (by kernel_rfl) (by kernel_rfl) ?_;repeat (go_big_quiet_step (first | with_reducible exact CA.out _ _ | with_reducible exact CB.out _ _ | with_reducible exact CD.out _ _))
      refine wpQuiet_nil ?_;intro _ hw';obtain⟨⟨dq,osq⟩,hw''⟩:=hw';subst hw'';have HF:=hid (HT.out.trans (chain_yes hlt (by rw[← HCX.out,HPR.out];unfold okB;rw[K1.out];show (true && decide (1≤cx.s) && decide (cx.s < 8) && befB px cx)=_;rw[K5.out,decide_eq_true (by have:=K2.out;omega),decide_eq_true (by have:=K3.out;omega)] <;> rfl)));have HB3:=hid (HB2.out.trans ((below_regrown wb dq osq).mono HB2.out.size));go_wp2;go_roundw
      case rel=>exact⟨k+1+1,by omega,by go_num,HB3,HF⟩
      case measure=>simp[intOf];omega
   ·have HF:Hid (chainB none ps=true):=hid (by rw[HT.out,List.drop_of_length_le (by omega)];cases prevC ps k <;> rfl);go_wp2;go_ret;exact⟨ret_bool (by rw[HF.out] <;> rfl),HB.out⟩
 ·have d0:decide ((5000:Int) < (ps.length:Int))=true:=decide_eq_true (by omega);rw[decide_eq_false hl];go_enter Tryz.func45,Tryz.ntmps45;go_wp2;go_ret;exact⟨rfl,Below.refl _ _⟩

set_option maxHeartbeats 8000000 in
theorem rright_any (A:Option Addr)(c:Nat)(ps:List Cel)(w:World)(ha:Cls w A ps) :
  Calls Tryz.prog 50 #[.slice A ps.length c] w fun e w'=>e=.returned (.bool (rightC ps))∧Below w.heap.size w w':=by
 have hn:=ha.le;unfold rightC;go_enter Tryz.func50,Tryz.ntmps50;go_wp2;go_loopw [3] (fun i wr=>∃ k:Nat,k≤ps.length∧i=.int .i64 k∧Hid (Below w.heap.size w wr)∧Hid (chainB none ps=chainB (prevC ps k) (ps.drop k))) (fun i _=>ps.length - (intOf i).toNat)
 case atStart=>exact⟨0,Nat.zero_le _,rfl,hid (Below.refl _ _),hid rfl⟩
 case round=>
  obtain⟨k,hk,rfl,HB,HT⟩:=hrel;by_cases hlt:k < ps.length
  ·obtain⟨b1,o1,e1,hb1,hc0,hc1,hc2⟩:=(ha.ext HB.out).at_ hlt;have hi0:(k:Int) < (ps.length:Int):=by omega
   have hlt':decide ((k:Int) < (ps.length:Int))=true:=decide_eq_true hi0;obtain⟨cx,hcx⟩:∃ cx,cx=ps[k]:=⟨_,rfl⟩
   rw[← hcx] at hc0 hc1 hc2;have HCX:=hid hcx;have HE1:=hid e1;have cB:=fun d os=>Calls.regrown_of (w:=wr) (d:=d) (os:=os) ((place_any cx.x cx.y _).mono fun e w' h=>⟨h.1,by rw[h.2];exact Below.refl _ _⟩);clear hcx;cases k1:placeB cx.x cx.y
   ·rw[k1] at cB;have K1:=hid k1;clear k1;have CB:=hid cB;clear cB;have P0:=cell_regrown hc0;have P1:=cell_regrown hc1;have P2:=cell_regrown hc2;subst e1;go_upto_region 4 with fail
    refine wp_region_quiet_below (by kernel_rfl) (by kernel_rfl) ?_;repeat (go_big_quiet_step (first | with_reducible exact CB.out _ _))
    refine wpQuiet_nil ?_;intro _ hw';obtain⟨⟨dq,osq⟩,hw''⟩:=hw';subst hw'';have HF:Hid (chainB none ps=false):=hid (by rw[HT.out];exact chain_no hlt (by rw[← HCX.out];unfold okB;rw[K1.out] <;> rfl));go_wp2;go_ret;exact⟨ret_bool (by rw[HF.out];simp),HB.out.trans ((below_regrown wr dq osq).mono HB.out.size)⟩
   rw[k1] at cB;have K1:=hid k1;clear k1;by_cases k2:cx.s < 1
   ·have d2:decide (cx.s < 1)=true:=decide_eq_true k2;have K2:=hid k2;clear k2;have CB:=hid cB;clear cB;have P0:=cell_regrown hc0;have P1:=cell_regrown hc1;have P2:=cell_regrown hc2;subst e1;go_upto_region 4 with fail
    refine wp_region_quiet_below (by kernel_rfl) (by kernel_rfl) ?_;repeat (go_big_quiet_step (first | with_reducible exact CB.out _ _))
    refine wpQuiet_nil ?_;intro _ hw';obtain⟨⟨dq,osq⟩,hw''⟩:=hw';subst hw'';have HF:Hid (chainB none ps=false):=hid (by rw[HT.out];exact chain_no hlt (by rw[← HCX.out];unfold okB;rw[K1.out,decide_eq_false (by have:=K2.out;omega)] <;> rfl));go_wp2;go_ret;exact⟨ret_bool (by rw[HF.out];simp),HB.out.trans ((below_regrown wr dq osq).mono HB.out.size)⟩
   have d2:decide (cx.s < 1)=false:=decide_eq_false k2;have K2:=hid k2;clear k2;by_cases k3:8≤cx.s
   ·have d3:decide (8≤cx.s)=true:=decide_eq_true k3;have K3:=hid k3;clear k3;have CB:=hid cB;clear cB;have P0:=cell_regrown hc0;have P1:=cell_regrown hc1;have P2:=cell_regrown hc2;subst e1;go_upto_region 4 with fail
    refine wp_region_quiet_below (by kernel_rfl) (by kernel_rfl) ?_;repeat (go_big_quiet_step (first | with_reducible exact CB.out _ _))
    refine wpQuiet_nil ?_;intro _ hw';obtain⟨⟨dq,osq⟩,hw''⟩:=hw';subst hw'';have HF:Hid (chainB none ps=false):=hid (by rw[HT.out];exact chain_no hlt (by rw[← HCX.out];unfold okB;rw[K1.out,decide_eq_false (p:=cx.s < 8) (by have:=K3.out;omega)] <;> simp));go_wp2;go_ret;exact⟨ret_bool (by rw[HF.out];simp),HB.out.trans ((below_regrown wr dq osq).mono HB.out.size)⟩
   have d3:decide (8≤cx.s)=false:=decide_eq_false k3;have K3:=hid k3;clear k3;cases k with
   | zero=>
    simp only[Nat.zero_mul,Nat.add_zero] at hc0 hc1 hc2;have d4:decide ((0:Int) < ((0:Nat):Int))=false:=by simp
    have CB:=hid cB;clear cB;have P0:=cell_regrown hc0;have P1:=cell_regrown hc1;have P2:=cell_regrown hc2;subst e1;go_upto_region 4 with fail
    refine wp_region_quiet_below (by kernel_rfl) (by kernel_rfl) ?_;repeat (go_big_quiet_step (first | with_reducible exact CB.out _ _))
    refine wpQuiet_nil ?_;intro _ hw';obtain⟨⟨dq,osq⟩,hw''⟩:=hw';subst hw'';have HF:=hid (HT.out.trans (chain_yes hlt (by rw[← HCX.out];unfold okB;rw[K1.out,decide_eq_true (by have:=K2.out;omega),decide_eq_true (by have:=K3.out;omega)] <;> rfl)));have HB3:=hid (HB.out.trans ((below_regrown wr dq osq).mono HB.out.size));go_wp2;go_roundw
    case rel=>exact⟨0+1,by omega,rfl,HB3,HF⟩
    case measure=>simp[intOf];omega
   | succ k=>
    have d4:decide ((0:Int) < ((k+1:Nat):Int))=true:=decide_eq_true (by omega);have hw1:wrap64 (((k+1:Nat):Int) - 1)=(k:Int):=by unfold wrap64;omega
    have hi1:(k:Int) < (ps.length:Int):=by omega
    have hk1:k < ps.length:=by omega
    obtain⟨b2,o2,e2,-,hd0,hd1,hd2⟩:=((ha.ext HB.out)).at_ hk1;rw[e1] at e2;injection e2 with e2
    injection e2 with e3 e4
    subst e3 e4;obtain⟨px,hpx⟩:∃ px,px=ps[k]:=⟨_,rfl⟩
    rw[← hpx] at hd0 hd1 hd2;have HPX:=hid hpx;have R0:=cell_regrown hd0;have R1:=cell_regrown hd1;have R2:=cell_regrown hd2;have cD:=fun d os=>Calls.regrown_of (w:=wr) (d:=d) (os:=os) (before_any px cx _);unfold celV at cD;have HPR:Hid (prevC ps (k+1)=some px):=hid (by show ps[k]?=_;rw[List.getElem?_eq_getElem hk1,hpx]);have hob:=True.intro;cases k5:befB px cx
    ·rw[k5] at cD;have K5:=hid k5;generalize ordC px cx=z at *;clear hob k5 hpx hd0 hd1 hd2;have CB:=hid cB;have CD:=hid cD;clear cB cD;have P0:=cell_regrown hc0;have P1:=cell_regrown hc1;have P2:=cell_regrown hc2;subst e1;go_upto_region 4 with fail
     refine wp_region_quiet_below (by kernel_rfl) (by kernel_rfl) ?_;repeat (go_big_quiet_step (first | with_reducible exact CB.out _ _ | with_reducible exact CD.out _ _))
     refine wpQuiet_nil ?_;intro _ hw';obtain⟨⟨dq,osq⟩,hw''⟩:=hw';subst hw'';have HF:Hid (chainB none ps=false):=hid (by rw[HT.out];exact chain_no hlt (by rw[← HCX.out,HPR.out];unfold okB;rw[K1.out];show (true && decide (1≤cx.s) && decide (cx.s < 8) && befB px cx)=_;rw[K5.out] <;> simp));go_wp2;go_ret;exact⟨ret_bool (by rw[HF.out];simp),HB.out.trans ((below_regrown wr dq osq).mono HB.out.size)⟩
    ·rw[k5] at cD;have K5:=hid k5;generalize ordC px cx=z at *;clear hob k5 hpx hd0 hd1 hd2;have CB:=hid cB;have CD:=hid cD;clear cB cD;have P0:=cell_regrown hc0;have P1:=cell_regrown hc1;have P2:=cell_regrown hc2;subst e1;go_upto_region 4 with fail
     refine wp_region_quiet_below (by kernel_rfl) (by kernel_rfl) ?_;repeat (go_big_quiet_step (first | with_reducible exact CB.out _ _ | with_reducible exact CD.out _ _))
     refine wpQuiet_nil ?_;intro _ hw';obtain⟨⟨dq,osq⟩,hw''⟩:=hw';subst hw'';have HF:=hid (HT.out.trans (chain_yes hlt (by rw[← HCX.out,HPR.out];unfold okB;rw[K1.out];show (true && decide (1≤cx.s) && decide (cx.s < 8) && befB px cx)=_;rw[K5.out,decide_eq_true (by have:=K2.out;omega),decide_eq_true (by have:=K3.out;omega)] <;> rfl)));have HB3:=hid (HB.out.trans ((below_regrown wr dq osq).mono HB.out.size));go_wp2;go_roundw
     case rel=>exact⟨k+1+1,by omega,by go_num,HB3,HF⟩
     case measure=>simp[intOf];omega
  ·have HF:Hid (chainB none ps=true):=hid (by rw[HT.out,List.drop_of_length_le (by omega)];cases prevC ps k <;> rfl);have hlt':decide ((k:Int) < (ps.length:Int))=false:=decide_eq_false (by omega);have HD:Hid (decide ((ps.length:Int)≤5000)=decide (ps.length≤5000)):=hid (decide_eq_decide.2 (by omega));go_wp2;go_ret;exact⟨ret_bool (by rw[HF.out,Bool.and_true,← HD.out]),HB.out⟩

def topC (ps:List Cel):Int:=ps.foldl (fun n c=>max n c.s) 0
theorem topC_snoc {ps:List Cel}{k:Nat}(h:k < ps.length):topC (ps.take (k+1))=max (topC (ps.take k)) ps[k].s:=by
 unfold topC;rw[List.take_succ_eq_append_getElem h,List.foldl_append];rfl
set_option maxHeartbeats 800000 in
theorem top_any (A:Option Addr)(c:Nat)(ps:List Cel)(w:World)(ha:Cls w A ps) :
  Calls Tryz.prog 76 #[.slice A ps.length c] w fun e w'=>e=.returned (.int .i64 (topC ps))∧w'=w:=by
 have hn:=ha.le;go_enter Tryz.func76,Tryz.ntmps76;go_wp2;go_loopw [3,7] (fun n i wr=>∃ k:Nat,k≤ps.length∧i=.int .i64 k∧wr=w∧n=.int .i64 (topC (ps.take k))) (fun _ i _=>ps.length - (intOf i).toNat)
 case atStart=>exact⟨0,Nat.zero_le _,rfl,rfl,rfl⟩
 case round=>
  obtain⟨k,hk,rfl,rfl,rfl⟩:=hrel;by_cases hlt:k < ps.length
  ·obtain⟨b1,o1,rfl,-,hc0,hc1,hc2⟩:=ha.at_ hlt;have HT:=hid (topC_snoc hlt);obtain⟨z,hz⟩:∃ z,z=topC (ps.take k):=⟨_,rfl⟩
   have HZ:=hid hz;rw[← hz];clear hz;go_wp2;go_roundw
   case rel=>exact⟨k+1,by omega,by go_num,(by first | rfl | trivial),by rw[HT.out,HZ.out]⟩
   case measure=>simp[intOf];omega
  ·obtain rfl:k=ps.length:=by omega
   rw[List.take_length];go_wp2;go_ret;exact⟨rfl,rfl⟩
set_option maxHeartbeats 800000 in
theorem rtop_any (A:Option Addr)(c:Nat)(ps:List Cel)(w:World)(ha:Cls w A ps) :
  Calls Tryz.prog 119 #[.slice A ps.length c] w fun e w'=>e=.returned (.int .i64 (topC ps))∧w'=w:=by
 have hn:=ha.le;go_enter Tryz.func119,Tryz.ntmps119;go_wp2;go_loopw [3,4] (fun n i wr=>∃ k:Nat,k≤ps.length∧i=.int .i64 k∧wr=w∧n=.int .i64 (topC (ps.take k))) (fun _ i _=>ps.length - (intOf i).toNat)
 case atStart=>exact⟨0,Nat.zero_le _,rfl,rfl,rfl⟩
 case round=>
  obtain⟨k,hk,rfl,rfl,rfl⟩:=hrel;by_cases hlt:k < ps.length
  ·obtain⟨b1,o1,rfl,-,hc0,hc1,hc2⟩:=ha.at_ hlt;have HT:=hid (topC_snoc hlt);obtain⟨z,hz⟩:∃ z,z=topC (ps.take k):=⟨_,rfl⟩
   have HZ:=hid hz;rw[← hz];clear hz;go_wp2;go_roundw
   case rel=>exact⟨k+1,by omega,by go_num,(by first | rfl | trivial),by rw[HT.out,HZ.out]⟩
   case measure=>simp[intOf];omega
  ·obtain rfl:k=ps.length:=by omega
   rw[List.take_length];go_wp2;go_ret;exact⟨rfl,rfl⟩
def cmpL:List Cel→List Cel→Int
 | a :: ps,b :: qs=>if a.y≠b.y then Lib.compareInt a.y b.y else if a.x≠b.x then Lib.compareInt a.x b.x else if a.s≠b.s then Lib.compareInt a.s b.s else cmpL ps qs
 | ps,qs=>Lib.compareInt ps.length qs.length
theorem cmpInt_ne {a b:Int}(h:a≠b):Lib.compareInt a b≠0:=by
 unfold Lib.compareInt
 split
 ·omega
 ·split <;> omega
theorem cmpL_zero:∀ ps qs:List Cel,cmpL ps qs=0 ↔ ps=qs
 | [],[]=>by simp[cmpL,Lib.compareInt]
 | [],b :: qs=>by
  simp only[cmpL,List.length_nil,List.length_cons];exact⟨fun h=>absurd h (cmpInt_ne (by omega)),fun h=>by cases h⟩
 | a :: ps,[]=>by
  simp only[cmpL,List.length_nil,List.length_cons];exact⟨fun h=>absurd h (cmpInt_ne (by omega)),fun h=>by cases h⟩
 | a :: ps,b :: qs=>by
  rw[cmpL];by_cases h1:a.y=b.y
  ·rw[if_neg (by simpa using h1)];by_cases h2:a.x=b.x
   ·rw[if_neg (by simpa using h2)];by_cases h3:a.s=b.s
    ·rw[if_neg (by simpa using h3),cmpL_zero ps qs];have:a=b:=by cases a;cases b;simp_all
     simp[this]
    ·rw[if_pos h3];exact⟨fun h=>absurd h (cmpInt_ne h3),fun h=>by injection h with h _;subst h;exact absurd rfl h3⟩
   ·rw[if_pos h2];exact⟨fun h=>absurd h (cmpInt_ne h2),fun h=>by injection h with h _;subst h;exact absurd rfl h2⟩
  ·rw[if_pos h1];exact⟨fun h=>absurd h (cmpInt_ne h1),fun h=>by injection h with h _;subst h;exact absurd rfl h1⟩
def sameC (ps qs:List Cel):Bool:=decide (ps=qs)
theorem cmpL_step {ps qs:List Cel}{k:Nat}(ha:k < ps.length)(hb:k < qs.length):cmpL (ps.drop k) (qs.drop k) =
  if ps[k].y≠qs[k].y then Lib.compareInt ps[k].y qs[k].y else if ps[k].x≠qs[k].x then Lib.compareInt ps[k].x qs[k].x else if ps[k].s≠qs[k].s then Lib.compareInt ps[k].s qs[k].s else cmpL (ps.drop (k+1)) (qs.drop (k+1)):=by
 rw[List.drop_eq_getElem_cons ha,List.drop_eq_getElem_cons hb,cmpL]
theorem cmpL_end {ps qs:List Cel}{k:Nat}(h1:k≤ps.length)(h2:k≤qs.length)(h:ps.length≤k∨qs.length≤k):cmpL (ps.drop k) (qs.drop k)=Lib.compareInt ps.length qs.length:=by
 have key:∀ m n:Nat,Lib.compareInt ((m - k:Nat):Int) ((n - k:Nat):Int)=Lib.compareInt m n∨¬ (k≤m∧k≤n):=by
  intro m n;by_cases hk:k≤m∧k≤n
  ·left
   unfold Lib.compareInt
   split <;> split <;> (try split) <;> (try split) <;> omega
  ·exact .inr hk
 have hcase:cmpL (ps.drop k) (qs.drop k)=Lib.compareInt ((ps.drop k).length:Int) ((qs.drop k).length:Int):=by
  rcases h with h | h
  ·rw[List.drop_of_length_le h];cases qs.drop k <;> rfl
  ·rw[List.drop_of_length_le h];cases ps.drop k <;> rfl
 rw[hcase,List.length_drop,List.length_drop];rcases key ps.length qs.length with h3 | h3
 ·exact h3
 ·exact absurd ⟨h1,h2⟩ h3
set_option maxHeartbeats 4000000 in
theorem rcompare_any (A B:Option Addr)(c d:Nat)(ps qs:List Cel)(w:World)(ha:Cls w A ps)(hb:Cls w B qs) :
  Calls Tryz.prog 95 #[.slice A ps.length c,.slice B qs.length d] w fun e w'=>e=.returned (.int .i64 (cmpL ps qs))∧Below w.heap.size w w':=by
 have hn:=ha.le;have hm:=hb.le;go_enter Tryz.func95,Tryz.ntmps95;go_wp2;go_loopw [5] (fun i wr=>∃ k:Nat,k≤ps.length∧k≤qs.length∧i=.int .i64 k∧Hid (Qt w wr)∧Hid (cmpL ps qs=cmpL (ps.drop k) (qs.drop k))) (fun i _=>ps.length - (intOf i).toNat)
 case atStart=>exact⟨0,Nat.zero_le _,Nat.zero_le _,rfl,hid (Qt.refl _),hid rfl⟩
 case round=>
  obtain⟨k,hk,hk2,rfl,HQ,HT⟩:=hrel;by_cases hlt:k < ps.length∧k < qs.length
  ·obtain⟨b1,o1,rfl,-,hc0,hc1,hc2⟩:=(ha.ext (HQ.out.below _)).at_ hlt.1;obtain⟨b2,o2,rfl,-,hd0,hd1,hd2⟩:=(hb.ext (HQ.out.below _)).at_ hlt.2;have i1:(k:Int) < (ps.length:Int):=by omega
   have i2:(k:Int) < (qs.length:Int):=by omega
   have j1:decide ((k:Int) < (ps.length:Int))=true:=decide_eq_true i1;have j2:decide ((k:Int) < (qs.length:Int))=true:=decide_eq_true i2;have HS:=hid (cmpL_step hlt.1 hlt.2);obtain⟨x,hx⟩:∃ x,x=ps[k]'hlt.1:=⟨_,rfl⟩
   obtain⟨y,hy⟩:∃ y,y=qs[k]'hlt.2:=⟨_,rfl⟩
   rw[← hx] at hc0 hc1 hc2 HS;rw[← hy] at hd0 hd1 hd2 HS;clear hx hy;have HK:=hid hlt;clear hlt;by_cases h1:x.y=y.y
   ·have e1:(x.y != y.y)=false:=by simp[h1]
    by_cases h2:x.x=y.x
    ·have e2:(x.x != y.x)=false:=by simp[h2]
     by_cases h3:x.s=y.s
     ·have e3:(x.s != y.s)=false:=by simp[h3]
      have HF:Hid (cmpL ps qs=cmpL (ps.drop (k+1)) (qs.drop (k+1))):=hid (by rw[HT.out,HS.out,if_neg (by simpa using h1),if_neg (by simpa using h2),if_neg (by simpa using h3)]);clear h1 h2 h3;go_upto_region 4 with fail
      go_quiet (fail)
      have q1:=HQ.out.step nq;have hc0:(wr.drewN nq).cell? ⟨b1,o1+k*3,none⟩=some (.int .i64 x.x):=hc0;have hc1:(wr.drewN nq).cell? ⟨b1,o1+k*3+1,none⟩=some (.int .i64 x.y):=hc1;have hc2:(wr.drewN nq).cell? ⟨b1,o1+k*3+2,none⟩=some (.int .i64 x.s):=hc2;have hd0:(wr.drewN nq).cell? ⟨b2,o2+k*3,none⟩=some (.int .i64 y.x):=hd0;have hd1:(wr.drewN nq).cell? ⟨b2,o2+k*3+1,none⟩=some (.int .i64 y.y):=hd1;have hd2:(wr.drewN nq).cell? ⟨b2,o2+k*3+2,none⟩=some (.int .i64 y.s):=hd2;generalize wr.drewN nq=wr2 at *;have HQ2:=hid q1;clear q1;go_upto_region 6 with fail
      go_quiet (fail)
      have q1:=HQ2.out.step nq;have hc0:(wr2.drewN nq).cell? ⟨b1,o1+k*3,none⟩=some (.int .i64 x.x):=hc0;have hc1:(wr2.drewN nq).cell? ⟨b1,o1+k*3+1,none⟩=some (.int .i64 x.y):=hc1;have hc2:(wr2.drewN nq).cell? ⟨b1,o1+k*3+2,none⟩=some (.int .i64 x.s):=hc2;have hd0:(wr2.drewN nq).cell? ⟨b2,o2+k*3,none⟩=some (.int .i64 y.x):=hd0;have hd1:(wr2.drewN nq).cell? ⟨b2,o2+k*3+1,none⟩=some (.int .i64 y.y):=hd1;have hd2:(wr2.drewN nq).cell? ⟨b2,o2+k*3+2,none⟩=some (.int .i64 y.s):=hd2;generalize wr2.drewN nq=wr3 at *;have HQ3:=hid q1;clear q1;go_upto_region 8 with fail
      go_quiet (fail)
      have q1:=HQ3.out.step nq;have hc0:(wr3.drewN nq).cell? ⟨b1,o1+k*3,none⟩=some (.int .i64 x.x):=hc0;have hc1:(wr3.drewN nq).cell? ⟨b1,o1+k*3+1,none⟩=some (.int .i64 x.y):=hc1;have hc2:(wr3.drewN nq).cell? ⟨b1,o1+k*3+2,none⟩=some (.int .i64 x.s):=hc2;have hd0:(wr3.drewN nq).cell? ⟨b2,o2+k*3,none⟩=some (.int .i64 y.x):=hd0;have hd1:(wr3.drewN nq).cell? ⟨b2,o2+k*3+1,none⟩=some (.int .i64 y.y):=hd1;have hd2:(wr3.drewN nq).cell? ⟨b2,o2+k*3+2,none⟩=some (.int .i64 y.s):=hd2;generalize wr3.drewN nq=wr4 at *;have HQ4:=hid q1;clear q1;go_wp2;go_roundw
      case rel=>exact⟨k+1,by have:=HK.out;omega,by have:=HK.out;omega,by go_num,HQ4,HF⟩
      case measure=>simp[intOf];have:=HK.out;omega
     ·have e3:(x.s != y.s)=true:=by simp[h3]
      have HF:Hid (cmpL ps qs=Lib.compareInt x.s y.s):=hid (by rw[HT.out,HS.out,if_neg (by simpa using h1),if_neg (by simpa using h2),if_pos h3]);clear h1 h2 h3;go_upto_region 4 with fail
      go_quiet (fail)
      have q1:=HQ.out.step nq;have hc0:(wr.drewN nq).cell? ⟨b1,o1+k*3,none⟩=some (.int .i64 x.x):=hc0;have hc1:(wr.drewN nq).cell? ⟨b1,o1+k*3+1,none⟩=some (.int .i64 x.y):=hc1;have hc2:(wr.drewN nq).cell? ⟨b1,o1+k*3+2,none⟩=some (.int .i64 x.s):=hc2;have hd0:(wr.drewN nq).cell? ⟨b2,o2+k*3,none⟩=some (.int .i64 y.x):=hd0;have hd1:(wr.drewN nq).cell? ⟨b2,o2+k*3+1,none⟩=some (.int .i64 y.y):=hd1;have hd2:(wr.drewN nq).cell? ⟨b2,o2+k*3+2,none⟩=some (.int .i64 y.s):=hd2;generalize wr.drewN nq=wr2 at *;have HQ2:=hid q1;clear q1;go_upto_region 6 with fail
      go_quiet (fail)
      have q1:=HQ2.out.step nq;have hc0:(wr2.drewN nq).cell? ⟨b1,o1+k*3,none⟩=some (.int .i64 x.x):=hc0;have hc1:(wr2.drewN nq).cell? ⟨b1,o1+k*3+1,none⟩=some (.int .i64 x.y):=hc1;have hc2:(wr2.drewN nq).cell? ⟨b1,o1+k*3+2,none⟩=some (.int .i64 x.s):=hc2;have hd0:(wr2.drewN nq).cell? ⟨b2,o2+k*3,none⟩=some (.int .i64 y.x):=hd0;have hd1:(wr2.drewN nq).cell? ⟨b2,o2+k*3+1,none⟩=some (.int .i64 y.y):=hd1;have hd2:(wr2.drewN nq).cell? ⟨b2,o2+k*3+2,none⟩=some (.int .i64 y.s):=hd2;generalize wr2.drewN nq=wr3 at *;have HQ3:=hid q1;clear q1;go_upto_region 8 with fail
      go_quiet (fail)
      have q1:=HQ3.out.step nq;have hc0:(wr3.drewN nq).cell? ⟨b1,o1+k*3,none⟩=some (.int .i64 x.x):=hc0;have hc1:(wr3.drewN nq).cell? ⟨b1,o1+k*3+1,none⟩=some (.int .i64 x.y):=hc1;have hc2:(wr3.drewN nq).cell? ⟨b1,o1+k*3+2,none⟩=some (.int .i64 x.s):=hc2;have hd0:(wr3.drewN nq).cell? ⟨b2,o2+k*3,none⟩=some (.int .i64 y.x):=hd0;have hd1:(wr3.drewN nq).cell? ⟨b2,o2+k*3+1,none⟩=some (.int .i64 y.y):=hd1;have hd2:(wr3.drewN nq).cell? ⟨b2,o2+k*3+2,none⟩=some (.int .i64 y.s):=hd2;generalize wr3.drewN nq=wr4 at *;have HQ4:=hid q1;clear q1;have R1:=cell_regrown hc2;have R2:=cell_regrown hd2;have CO:=hid (fun d os=>Calls.regrown_of (w:=wr4) (d:=d) (os:=os) ((order_any x.s y.s _).mono fun e w' h=>⟨h.1,by rw[h.2];exact Below.refl _ _⟩));go_upto_region 9 with fail
      refine wp_region_quiet_below (by kernel_rfl) (by kernel_rfl) ?_;repeat (go_big_quiet_step (first | with_reducible exact CO.out _ _))
      refine wpQuiet_nil ?_;intro _ hw';obtain⟨⟨dq,osq⟩,hw''⟩:=hw';subst hw'';have q1:=hid ((HQ4.out.below w.heap.size).trans ((below_regrown wr4 dq osq).mono (HQ4.out.below w.heap.size).size));go_wp2;go_ret;exact⟨ret_int (by rw[HF.out]),q1.out⟩
    ·have e2:(x.x != y.x)=true:=by simp[h2]
     have HF:Hid (cmpL ps qs=Lib.compareInt x.x y.x):=hid (by rw[HT.out,HS.out,if_neg (by simpa using h1),if_pos h2]);clear h1 h2;go_upto_region 4 with fail
     go_quiet (fail)
     have q1:=HQ.out.step nq;have hc0:(wr.drewN nq).cell? ⟨b1,o1+k*3,none⟩=some (.int .i64 x.x):=hc0;have hc1:(wr.drewN nq).cell? ⟨b1,o1+k*3+1,none⟩=some (.int .i64 x.y):=hc1;have hc2:(wr.drewN nq).cell? ⟨b1,o1+k*3+2,none⟩=some (.int .i64 x.s):=hc2;have hd0:(wr.drewN nq).cell? ⟨b2,o2+k*3,none⟩=some (.int .i64 y.x):=hd0;have hd1:(wr.drewN nq).cell? ⟨b2,o2+k*3+1,none⟩=some (.int .i64 y.y):=hd1;have hd2:(wr.drewN nq).cell? ⟨b2,o2+k*3+2,none⟩=some (.int .i64 y.s):=hd2;generalize wr.drewN nq=wr2 at *;have HQ2:=hid q1;clear q1;go_upto_region 6 with fail
     go_quiet (fail)
     have q1:=HQ2.out.step nq;have hc0:(wr2.drewN nq).cell? ⟨b1,o1+k*3,none⟩=some (.int .i64 x.x):=hc0;have hc1:(wr2.drewN nq).cell? ⟨b1,o1+k*3+1,none⟩=some (.int .i64 x.y):=hc1;have hc2:(wr2.drewN nq).cell? ⟨b1,o1+k*3+2,none⟩=some (.int .i64 x.s):=hc2;have hd0:(wr2.drewN nq).cell? ⟨b2,o2+k*3,none⟩=some (.int .i64 y.x):=hd0;have hd1:(wr2.drewN nq).cell? ⟨b2,o2+k*3+1,none⟩=some (.int .i64 y.y):=hd1;have hd2:(wr2.drewN nq).cell? ⟨b2,o2+k*3+2,none⟩=some (.int .i64 y.s):=hd2;generalize wr2.drewN nq=wr3 at *;have HQ3:=hid q1;clear q1;have R1:=cell_regrown hc0;have R2:=cell_regrown hd0;have CO:=hid (fun d os=>Calls.regrown_of (w:=wr3) (d:=d) (os:=os) ((order_any x.x y.x _).mono fun e w' h=>⟨h.1,by rw[h.2];exact Below.refl _ _⟩));go_upto_region 7 with fail
     refine wp_region_quiet_below (by kernel_rfl) (by kernel_rfl) ?_;repeat (go_big_quiet_step (first | with_reducible exact CO.out _ _))
     refine wpQuiet_nil ?_;intro _ hw';obtain⟨⟨dq,osq⟩,hw''⟩:=hw';subst hw'';have q1:=hid ((HQ3.out.below w.heap.size).trans ((below_regrown wr3 dq osq).mono (HQ3.out.below w.heap.size).size));go_wp2;go_ret;exact⟨ret_int (by rw[HF.out]),q1.out⟩
   ·have e1:(x.y != y.y)=true:=by simp[h1]
    have HF:Hid (cmpL ps qs=Lib.compareInt x.y y.y):=hid (by rw[HT.out,HS.out,if_pos h1]);clear h1;go_upto_region 4 with fail
    go_quiet (fail)
    have q1:=HQ.out.step nq;have hc0:(wr.drewN nq).cell? ⟨b1,o1+k*3,none⟩=some (.int .i64 x.x):=hc0;have hc1:(wr.drewN nq).cell? ⟨b1,o1+k*3+1,none⟩=some (.int .i64 x.y):=hc1;have hc2:(wr.drewN nq).cell? ⟨b1,o1+k*3+2,none⟩=some (.int .i64 x.s):=hc2;have hd0:(wr.drewN nq).cell? ⟨b2,o2+k*3,none⟩=some (.int .i64 y.x):=hd0;have hd1:(wr.drewN nq).cell? ⟨b2,o2+k*3+1,none⟩=some (.int .i64 y.y):=hd1;have hd2:(wr.drewN nq).cell? ⟨b2,o2+k*3+2,none⟩=some (.int .i64 y.s):=hd2;generalize wr.drewN nq=wr2 at *;have HQ2:=hid q1;clear q1;have R1:=cell_regrown hc1;have R2:=cell_regrown hd1;have CO:=hid (fun d os=>Calls.regrown_of (w:=wr2) (d:=d) (os:=os) ((order_any x.y y.y _).mono fun e w' h=>⟨h.1,by rw[h.2];exact Below.refl _ _⟩));go_upto_region 5 with fail
    refine wp_region_quiet_below (by kernel_rfl) (by kernel_rfl) ?_;repeat (go_big_quiet_step (first | with_reducible exact CO.out _ _))
    refine wpQuiet_nil ?_;intro _ hw';obtain⟨⟨dq,osq⟩,hw''⟩:=hw';subst hw'';have q1:=hid ((HQ2.out.below w.heap.size).trans ((below_regrown wr2 dq osq).mono (HQ2.out.below w.heap.size).size));go_wp2;go_ret;exact⟨ret_int (by rw[HF.out]),q1.out⟩
  ·have HE:Hid (cmpL ps qs=Lib.compareInt ps.length qs.length):=hid (by rw[HT.out];exact cmpL_end hk hk2 (by omega));by_cases hA:k < ps.length
   ·have hB:¬ k < qs.length:=fun h=>hlt ⟨hA,h⟩;clear hlt;go_wp2_with fail;refine (order_any _ _ _).mono ?_;rintro e w' ⟨rfl,hw'⟩;have hw2:=hw'.symm;clear hw';subst hw2;go_wp2;go_ret;exact⟨ret_int (by rw[HE.out]),HQ.out.below _⟩
   ·clear hlt;go_wp2_with fail;refine (order_any _ _ _).mono ?_;rintro e w' ⟨rfl,hw'⟩;have hw2:=hw'.symm;clear hw';subst hw2;go_wp2;go_ret;exact⟨ret_int (by rw[HE.out]),HQ.out.below _⟩
set_option maxHeartbeats 800000 in
theorem rsame_any (A B:Option Addr)(c d:Nat)(ps qs:List Cel)(w:World)(ha:Cls w A ps)(hb:Cls w B qs) :
  Calls Tryz.prog 51 #[.slice A ps.length c,.slice B qs.length d] w fun e w'=>e=.returned (.bool (sameC ps qs))∧Below w.heap.size w w':=by
 have HC:=hid (rcompare_any A B c d ps qs w ha hb);have HZ:Hid ((cmpL ps qs == 0)=sameC ps qs):=hid (by
  unfold sameC;rw[Bool.eq_iff_iff,beq_iff_eq,decide_eq_true_eq];exact cmpL_zero ps qs)
 go_enter Tryz.func51,Tryz.ntmps51;go_wp2_with fail;refine HC.out.mono ?_;rintro e w' ⟨rfl,hq⟩;have HQ:=hid hq;clear hq;go_wp2;go_ret;exact⟨ret_bool HZ.out,HQ.out⟩
end Go.Proofs.YtcfelnhmifkelaaGreatDoor
