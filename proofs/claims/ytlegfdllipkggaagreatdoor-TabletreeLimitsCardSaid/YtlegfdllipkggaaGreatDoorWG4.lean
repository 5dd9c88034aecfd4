/-
  texts Cmp HoodR Right Cl: parts of the proof; conditions stand with each theorem.
-/
import Derived.Test.YtlegfdllipkggaaGreatDoorWG1
import Derived.Test.YtlegfdllipkggaaGreatDoorWG2
import Derived.Lib.Small
import Derived.BigQuiet
import Derived.Lib.QuietBelow
import Derived.Deep.RegionWith
import Derived.Deep.Cut
import Derived.Test.YtlegfdllipkggaaGreatDoorWG3
import Derived.Test.YtlegfdllipkggaaGreatDoorWRbt
namespace Go.Proofs.YtlegfdllipkggaaGreatDoor
open Lib(hid)
open Go.RowKit
set_option maxRecDepth 100000
set_option linter.unusedVariables false
set_option linter.unusedSimpArgs false

def ptV (x y:Int):Value:=.agg #[.int .i64 x,.int .i64 y]
def ordP (x y x' y':Int):Int:=if Lib.compareInt y y'≠0 then Lib.compareInt y y' else Lib.compareInt x x'
theorem isNan_any (x:Int)(w:World):Calls Tryz.prog 105 #[.int .i64 x] w fun e w'=>e=.returned (.bool false)∧w'=w:=by
 have hd:(x != x)=false:=by simp
 go_enter Tryz.func105,Tryz.ntmps105;go_wp2;go_ret;exact⟨rfl,rfl⟩
set_option maxHeartbeats 800000 in
theorem cmpCompare (x y:Int)(w:World):Calls Tryz.prog 84 #[.int .i64 x,.int .i64 y] w fun e w'=>e=.returned (.int .i64 (Lib.compareInt x y))∧w'=w:=by
 have H1:=hid (isNan_any x w);have H2:=hid (isNan_any y w);unfold Lib.compareInt;by_cases h1:x < y
 ·rw[if_pos h1];have d1:decide (x < y)=true:=decide_eq_true h1;clear h1;go_enter Tryz.func84,Tryz.ntmps84;go_wp2_with (first | (go_at_call_of 105 x;refine H1.out.mono ?_;rintro e w1 ⟨rfl,rfl⟩) | (go_at_call_of 105 y;refine H2.out.mono ?_;rintro e w1 ⟨rfl,rfl⟩));go_ret;exact⟨rfl,rfl⟩
 ·rw[if_neg h1];have d1:decide (x < y)=false:=decide_eq_false h1;by_cases h2:x > y
  ·rw[if_pos h2];have d2:decide (y < x)=true:=decide_eq_true h2;clear h1 h2;go_enter Tryz.func84,Tryz.ntmps84;go_wp2_with (first | (go_at_call_of 105 x;refine H1.out.mono ?_;rintro e w1 ⟨rfl,rfl⟩) | (go_at_call_of 105 y;refine H2.out.mono ?_;rintro e w1 ⟨rfl,rfl⟩));go_ret;exact⟨rfl,rfl⟩
  ·rw[if_neg h2];have d2:decide (y < x)=false:=decide_eq_false h2;clear h1 h2;go_enter Tryz.func84,Tryz.ntmps84;go_wp2_with (first | (go_at_call_of 105 x;refine H1.out.mono ?_;rintro e w1 ⟨rfl,rfl⟩) | (go_at_call_of 105 y;refine H2.out.mono ?_;rintro e w1 ⟨rfl,rfl⟩));go_ret;exact⟨rfl,rfl⟩
def orL:List Int→Int
 | []=>0
 | x :: l=>if x=0 then orL l else x
theorem orL_yes {l:List Int}{j:Nat}(h:j < l.length)(hd:l[j]=0):orL (l.drop j)=orL (l.drop (j+1)):=by
 rw[List.drop_eq_getElem_cons h];simp[orL,hd]
theorem orL_no {l:List Int}{j:Nat}(h:j < l.length)(hd:¬ l[j]=0):orL (l.drop j)=l[j]:=by
 rw[List.drop_eq_getElem_cons h];simp[orL,hd]
set_option maxHeartbeats 800000 in
theorem cmpOr_any (A:Option Addr)(c:Nat)(xs:List Int)(w:World)(ha:Ints w A xs):Calls Tryz.prog 83 #[.slice A xs.length c] w fun e w'=>e=.returned (.int .i64 (orL xs))∧w'=w:=by
 have hn:=ha.le;go_enter Tryz.func83,Tryz.ntmps83;go_wp2;go_loopw [8] (fun i wr=>∃ k:Nat,k≤xs.length∧i=.int .i64 k∧wr=w∧Hid (orL xs=orL (xs.drop k))) (fun i _=>xs.length - (intOf i).toNat)
 case atStart=>exact⟨0,Nat.zero_le _,rfl,rfl,hid (by simp)⟩
 case round=>
  obtain⟨k,hk,rfl,rfl,HT⟩:=hrel;by_cases hlt:k < xs.length
  ·obtain⟨b1,o1,rfl,-,hc⟩:=ha.at_ hlt;by_cases he:xs[k]=0
   ·have hd:(xs[k] != 0)=false:=by simp[he]
    have HE:=hid (orL_yes hlt he);clear he;go_wp2;go_roundw
    case rel=>exact⟨k+1,by omega,by go_num,(by first | rfl | trivial),hid (HT.out.trans HE.out)⟩
    case measure=>simp[intOf];omega
   ·have hd:(xs[k] != 0)=true:=by simp[he]
    have HE:=hid (orL_no hlt he);clear he;go_wp2;go_ret;exact⟨ret_int (by rw[HT.out,HE.out]),rfl⟩
  ·have HZ:Hid (orL xs=0):=hid (by
    have:=HT.out;rw[List.drop_of_length_le (by omega)] at this;exact this)
   go_wp2;go_ret;exact⟨ret_int (by rw[HZ.out]),rfl⟩
theorem ints_new (w:World)(zs:List Int)(h0:0 < zs.length)(h1:zs.length≤9223372036854775807):Ints (w.alloc (.cells (zs.map (Value.int .i64)).toArray 3)) (some ⟨w.heap.size,0,none⟩) zs:=by
 refine⟨⟨?_,fun _=>⟨_,rfl,by simp,fun j v hv=>?_⟩⟩,h1⟩
 ·simp
 ·rw[addr_add];have:(w.alloc (.cells (zs.map (Value.int .i64)).toArray 3)).cell? ⟨w.heap.size,0+j,none⟩=(zs.map (Value.int .i64)).toArray[0+j]?:=cell_of_row _ _ _ _ _ _ (heap_alloc_new w _);rw[this];simpa using hv
structure CmpJ (w0:World)(P:Nat)(Q:Nat)(x:Int)(y:Int)(x':Int)(y':Int)(u:Int)(v:Int)(r:Int)(b0 b1 b2 b3 b4 b5 b6 b7 b8 b9 b10 b11 b12:Bool)(v5 v6 v7 v8 v9 v10 v11 v12 v13 v14 v15 v16 v4:Value)(w:World):Prop where
 below:Below w0.heap.size w0 w
 h0:b0=true→v5=.pointer (some ⟨P,1,none⟩)
 h1:b1=true→v6=.int .i64 y
 h2:b2=true→v7=.pointer (some ⟨Q,1,none⟩)
 h3:b3=true→v8=.int .i64 y'
 h4:b4=true→v9=.int .i64 u
 h5:b5=true→v10=.pointer (some ⟨P,0,none⟩)
 h6:b6=true→v11=.int .i64 x
 h7:b7=true→v12=.pointer (some ⟨Q,0,none⟩)
 h8:b8=true→v13=.int .i64 x'
 h9:b9=true→v14=.int .i64 v
 h10:b10=true→∃ g,v15=.slice (some ⟨g,0,none⟩) 2 2∧Ints w (some ⟨g,0,none⟩) [u,v]
 h11:b11=true→v16=.int .i64 r
 h12:b12=true→v4=.int .i64 r
section
variable {w0 : World} {P : Nat} {Q : Nat} {x : Int} {y : Int} {x' : Int} {y' : Int} {u : Int} {v : Int} {r : Int} {b0 b1 b2 b3 b4 b5 b6 b7 b8 b9 b10 b11 b12 : Bool} {v5 v6 v7 v8 v9 v10 v11 v12 v13 v14 v15 v16 v4 : Value} {w w' : World}
theorem CmpJ.world (H:CmpJ w0 P Q x y x' y' u v r b0 b1 b2 b3 b4 b5 b6 b7 b8 b9 b10 b11 b12 v5 v6 v7 v8 v9 v10 v11 v12 v13 v14 v15 v16 v4 w)(hb:Below w.heap.size w w'):CmpJ w0 P Q x y x' y' u v r b0 b1 b2 b3 b4 b5 b6 b7 b8 b9 b10 b11 b12 v5 v6 v7 v8 v9 v10 v11 v12 v13 v14 v15 v16 v4 w':=
 {H with below:=H.below.trans (hb.mono H.below.size),h10:=fun h=>by obtain⟨g,h1,h2⟩:=H.h10 h;exact⟨g,h1,h2.ext hb⟩ }
end
set_option maxHeartbeats 4000000 in
theorem compare_any (x y x' y':Int)(w:World):Calls Tryz.prog 65 #[ptV x y,ptV x' y'] w fun e w'=>e=.returned (.int .i64 (ordP x y x' y'))∧Below w.heap.size w w':=by
 unfold ptV;have hb1:=(below_new w (.cells #[.int .i64 x,.int .i64 y] 56))
 have HB:=hid (hb1.alloc hb1.size (.cells #[.int .i64 x',.int .i64 y'] 56));have p0:=(Blk.new w 56 #[.int .i64 x,.int .i64 y]).alloc (.cells #[.int .i64 x',.int .i64 y'] 56);have q0:=Blk.new (w.alloc (.cells #[.int .i64 x,.int .i64 y] 56)) 56 #[.int .i64 x',.int .i64 y'];rw[show (w.alloc (.cells #[.int .i64 x,.int .i64 y] 56)).heap.size=w.heap.size+1 from by simp] at q0;have P0:=hid (p0.cell_ 0 (.int .i64 x) rfl);have P1:=hid (p0.cell_ 1 (.int .i64 y) rfl);have Q0:=hid (q0.cell_ 0 (.int .i64 x') rfl);have Q1:=hid (q0.cell_ 1 (.int .i64 y') rfl);have HS:Hid (w.heap.size < ((w.alloc (.cells #[.int .i64 x,.int .i64 y] 56)).alloc (.cells #[.int .i64 x',.int .i64 y'] 56)).heap.size∧w.heap.size+1 < ((w.alloc (.cells #[.int .i64 x,.int .i64 y] 56)).alloc (.cells #[.int .i64 x',.int .i64 y'] 56)).heap.size):=hid (by simp;omega);clear hb1 p0 q0;obtain⟨r,hr⟩:∃ r,r=ordP x y x' y':=⟨_,rfl⟩
 have HR:Hid (orL [Lib.compareInt y y',Lib.compareInt x x']=r):=hid (by
  rw[hr];unfold ordP;by_cases h:Lib.compareInt y y'=0
  ·simp[orL,h];intro h2;exact h2.symm
  ·simp[orL,h])
 have HR2:=hid hr;clear hr;have C1:=hid (fun w=>cmpCompare y y' w);have C2:=hid (fun w=>cmpCompare x x' w);generalize Lib.compareInt y y'=u at *;generalize Lib.compareInt x x'=v at *;go_enter Tryz.func65,Tryz.ntmps65;go_upto_region 1 with fail
 generalize ((w.alloc (.cells #[.int .i64 x,.int .i64 y] 56)).alloc (.cells #[.int .i64 x',.int .i64 y'] 56))=w2 at *;refine wp_region_J (by kernel_rfl) (fun listed act w'=>∃ b0 b1 b2 b3 b4 b5 b6 b7 b8 b9 b10 b11 b12 v5 v6 v7 v8 v9 v10 v11 v12 v13 v14 v15 v16 v4,listed=#[b0,b1,b2,b3,b4,b5,b6,b7,b8,b9,b10,b11,b12]∧act=Act.mk #[.agg #[.int .i64 x,.int .i64 y],.agg #[.int .i64 x',.int .i64 y'],.pointer (some ⟨w.heap.size,0,none⟩),.pointer (some ⟨w.heap.size+1,0,none⟩),v4,v5,v6,v7,v8,v9,v10,v11,v12,v13,v14,v15,v16] []∧CmpJ w2 w.heap.size (w.heap.size+1) x y x' y' u v r b0 b1 b2 b3 b4 b5 b6 b7 b8 b9 b10 b11 b12 v5 v6 v7 v8 v9 v10 v11 v12 v13 v14 v15 v16 v4 w') ?_ ?_ ?_
 ·exact (e_8 (e_8 (e_8 (e_2 ⟨rfl,rfl,(by constructor;(case below=>exact (Below.refl _ w2).drew);all_goals simp)⟩))))
 ·rintro i listed act w' hi ⟨b0,b1,b2,b3,b4,b5,b6,b7,b8,b9,b10,b11,b12,v5,v6,v7,v8,v9,v10,v11,v12,v13,v14,v15,v16,v4,rfl,rfl,H⟩;have hi16:i < 13:=by
   obtain⟨-,o,ho,-⟩:=mem_ready.1 hi;exact (Array.getElem?_eq_some_iff.1 ho).1
  obtain rfl | rfl | rfl | rfl | rfl | rfl | rfl | rfl | rfl | rfl | rfl | rfl | rfl:i=0∨i=1∨i=2∨i=3∨i=4∨i=5∨i=6∨i=7∨i=8∨i=9∨i=10∨i=11∨i=12:=by omega
  all_goals simp[mem_ready,Region.binds] at hi
  ·refine wpOp_hidden rfl fun K hK=>?_;go_wp2;refine OnlyN.mk (hK.out _ _ (e_8 (e_8 (e_8 (e_2 ⟨rfl,rfl,{ H with h0:=fun _=>rfl }⟩)))))
  ·obtain rfl:=H.h0 (by simp[hi]);have cc:w'.cell? ⟨w.heap.size,1,none⟩=_:=(H.below.cell (p:=⟨w.heap.size,1,none⟩) HS.out.1).trans P1.out;refine wpOp_hidden rfl fun K hK=>?_;go_wp2;refine OnlyN.mk (hK.out _ _ (e_8 (e_8 (e_8 (e_2 ⟨rfl,rfl,{ H with h1:=fun _=>rfl }⟩)))))
  ·refine wpOp_hidden rfl fun K hK=>?_;go_wp2;refine OnlyN.mk (hK.out _ _ (e_8 (e_8 (e_8 (e_2 ⟨rfl,rfl,{ H with h2:=fun _=>rfl }⟩)))))
  ·obtain rfl:=H.h2 (by simp[hi]);have cc:w'.cell? ⟨w.heap.size+1,1,none⟩=_:=(H.below.cell (p:=⟨w.heap.size+1,1,none⟩) HS.out.2).trans Q1.out;refine wpOp_hidden rfl fun K hK=>?_;go_wp2;refine OnlyN.mk (hK.out _ _ (e_8 (e_8 (e_8 (e_2 ⟨rfl,rfl,{ H with h3:=fun _=>rfl }⟩)))))
  ·obtain rfl:=H.h1 (by simp[hi]);obtain rfl:=H.h3 (by simp[hi]);refine wpOp_hidden rfl fun K hK=>?_;go_wp2_with fail;refine (C1.out _).mono ?_;rintro e w9 ⟨rfl,hw9⟩;have hw8:=hw9.symm;clear hw9;subst hw8;go_wp2;refine OnlyN.mk (hK.out _ _ (e_8 (e_8 (e_8 (e_2 ⟨rfl,rfl,{ H with h4:=fun _=>rfl }⟩)))))
  ·refine wpOp_hidden rfl fun K hK=>?_;go_wp2;refine OnlyN.mk (hK.out _ _ (e_8 (e_8 (e_8 (e_2 ⟨rfl,rfl,{ H with h5:=fun _=>rfl }⟩)))))
  ·obtain rfl:=H.h5 (by simp[hi]);have cc:w'.cell? ⟨w.heap.size,0,none⟩=_:=(H.below.cell (p:=⟨w.heap.size,0,none⟩) HS.out.1).trans P0.out;refine wpOp_hidden rfl fun K hK=>?_;go_wp2;refine OnlyN.mk (hK.out _ _ (e_8 (e_8 (e_8 (e_2 ⟨rfl,rfl,{ H with h6:=fun _=>rfl }⟩)))))
  ·refine wpOp_hidden rfl fun K hK=>?_;go_wp2;refine OnlyN.mk (hK.out _ _ (e_8 (e_8 (e_8 (e_2 ⟨rfl,rfl,{ H with h7:=fun _=>rfl }⟩)))))
  ·obtain rfl:=H.h7 (by simp[hi]);have cc:w'.cell? ⟨w.heap.size+1,0,none⟩=_:=(H.below.cell (p:=⟨w.heap.size+1,0,none⟩) HS.out.2).trans Q0.out;refine wpOp_hidden rfl fun K hK=>?_;go_wp2;refine OnlyN.mk (hK.out _ _ (e_8 (e_8 (e_8 (e_2 ⟨rfl,rfl,{ H with h8:=fun _=>rfl }⟩)))))
  ·obtain rfl:=H.h6 (by simp[hi]);obtain rfl:=H.h8 (by simp[hi]);refine wpOp_hidden rfl fun K hK=>?_;go_wp2_with fail;refine (C2.out _).mono ?_;rintro e w9 ⟨rfl,hw9⟩;have hw8:=hw9.symm;clear hw9;subst hw8;go_wp2;refine OnlyN.mk (hK.out _ _ (e_8 (e_8 (e_8 (e_2 ⟨rfl,rfl,{ H with h9:=fun _=>rfl }⟩)))))
  ·obtain rfl:=H.h4 (by simp[hi]);obtain rfl:=H.h9 (by simp[hi]);have HA:=hid (H.world (below_new w' (.cells #[.int .i64 u,.int .i64 v] 3)));have HI:=hid (ints_new w' [u,v] (by simp) (by simp));have HH:=hid H;clear H;refine wpOp_hidden rfl fun K hK=>?_;go_wp2;refine OnlyN.mk (hK.out _ _ (e_8 (e_8 (e_8 (e_2 ⟨rfl,rfl,⟨HA.out.below,HA.out.h0,HA.out.h1,HA.out.h2,HA.out.h3,HA.out.h4,HA.out.h5,HA.out.h6,HA.out.h7,HA.out.h8,HA.out.h9,fun _=>⟨w'.heap.size,rfl,HI.out⟩,HA.out.h11,HA.out.h12⟩⟩)))))
  ·obtain⟨g,rfl,hg⟩:=H.h10 (by simp[hi]);have HO:=hid (cmpOr_any (some ⟨g,0,none⟩) 2 [u,v] w' hg);rw[HR.out] at HO;clear hg;refine wpOp_hidden rfl fun K hK=>?_;go_wp2_with fail;refine HO.out.mono ?_;rintro e w9 ⟨rfl,hw9⟩;have hw8:=hw9.symm;clear hw9;subst hw8;go_wp2;refine OnlyN.mk (hK.out _ _ (e_8 (e_8 (e_8 (e_2 ⟨rfl,rfl,{ H with h11:=fun _=>rfl }⟩)))))
  ·obtain rfl:=H.h11 (by simp[hi]);refine wpOp_hidden rfl fun K hK=>?_;go_wp2;refine OnlyN.mk (hK.out _ _ (e_8 (e_8 (e_8 (e_2 ⟨rfl,rfl,{ H with h12:=fun _=>rfl }⟩)))))
 ·rintro listed act w' hr ⟨b0,b1,b2,b3,b4,b5,b6,b7,b8,b9,b10,b11,b12,v5,v6,v7,v8,v9,v10,v11,v12,v13,v14,v15,v16,v4,rfl,rfl,H⟩;have hn:=List.eq_nil_iff_forall_not_mem.1 hr;have r0:=hn 0;simp[mem_ready,Region.binds] at r0;subst r0;have r1:=hn 1;simp[mem_ready,Region.binds] at r1;subst r1;have r2:=hn 2;simp[mem_ready,Region.binds] at r2;subst r2;have r3:=hn 3;simp[mem_ready,Region.binds] at r3;subst r3;have r4:=hn 4;simp[mem_ready,Region.binds] at r4;subst r4;have r5:=hn 5;simp[mem_ready,Region.binds] at r5;subst r5;have r6:=hn 6;simp[mem_ready,Region.binds] at r6;subst r6;have r7:=hn 7;simp[mem_ready,Region.binds] at r7;subst r7;have r8:=hn 8;simp[mem_ready,Region.binds] at r8;subst r8;have r9:=hn 9;simp[mem_ready,Region.binds] at r9;subst r9;have r10:=hn 10;simp[mem_ready,Region.binds] at r10;subst r10;have r11:=hn 11;simp[mem_ready,Region.binds] at r11;subst r11;have r12:=hn 12;simp[mem_ready,Region.binds] at r12;subst r12;obtain rfl:=H.h12 rfl;go_wp2_with fail;go_ret;exact⟨ret_int HR2.out,HB.out.trans (H.below.mono HB.out.size)⟩


def rngB (p:Int × Int):Bool:=decide (-2≤p.1) && decide (p.1≤2) && decide (-2≤p.2) && decide (p.2≤2)
def okH (q:Option (Int × Int))(p:Int × Int):Bool:=rngB p && (match q with | none=>true | some a=>decide (ordP a.1 a.2 p.1 p.2 < 0))
def chainH:Option (Int × Int)→List (Int × Int)→Bool
 | _,[]=>true
 | q,p :: l=>okH q p && chainH (some p) l
def hoodB (ps:List (Int × Int)):Bool:=decide (1≤ps.length) && decide (ps.length≤25) && chainH none ps
def prevH (ps:List (Int × Int)):Nat→Option (Int × Int)
 | 0=>none
 | k+1=>ps[k]?
theorem chainH_yes {ps:List (Int × Int)}{k:Nat}(h:k < ps.length)(hd:okH (prevH ps k) ps[k]=true):chainH (prevH ps k) (ps.drop k)=chainH (prevH ps (k+1)) (ps.drop (k+1)):=by
 rw[List.drop_eq_getElem_cons h];show (okH (prevH ps k) ps[k] && chainH (some ps[k]) (ps.drop (k+1)))=chainH ps[k]? (ps.drop (k+1));rw[hd,List.getElem?_eq_getElem h,Bool.true_and]
theorem chainH_no {ps:List (Int × Int)}{k:Nat}(h:k < ps.length)(hd:okH (prevH ps k) ps[k]=false):chainH (prevH ps k) (ps.drop k)=false:=by
 rw[List.drop_eq_getElem_cons h];show (okH (prevH ps k) ps[k] && chainH (some ps[k]) (ps.drop (k+1)))=false;rw[hd,Bool.false_and]
set_option maxHeartbeats 16000000 in
theorem hood_any (A:Option Addr)(c:Nat)(ps:List (Int × Int))(w:World)(ha:Pts w A ps) :
  Calls Tryz.prog 45 #[.slice A ps.length c] w fun e w'=>e=.returned (.bool (hoodB ps))∧Below w.heap.size w w':=by
 have hn:=ha.le;by_cases h1:ps.length < 1
 ·have d1:decide ((ps.length:Int) < 1)=true:=decide_eq_true (by omega);have HE:Hid (hoodB ps=false):=hid (by unfold hoodB;rw[decide_eq_false (by omega:¬ 1≤ps.length)];rfl);clear h1;go_enter Tryz.func45,Tryz.ntmps45;go_wp2;go_ret;exact⟨ret_bool (by rw[HE.out] <;> rfl),Below.refl _ _⟩
 have d1:decide ((ps.length:Int) < 1)=false:=decide_eq_false (by omega);by_cases h2:25 < ps.length
 ·have d2:decide ((25:Int) < (ps.length:Int))=true:=decide_eq_true (by omega);have HE:Hid (hoodB ps=false):=hid (by unfold hoodB;rw[decide_eq_false (by omega:¬ ps.length≤25),Bool.and_false];rfl);clear h1 h2;go_enter Tryz.func45,Tryz.ntmps45;go_wp2;go_ret;exact⟨ret_bool (by rw[HE.out] <;> rfl),Below.refl _ _⟩
 have d2:decide ((25:Int) < (ps.length:Int))=false:=decide_eq_false (by omega);have HL:=hid (show 1≤ps.length∧ps.length≤25 by omega);have HE:Hid (hoodB ps=chainH none ps):=hid (by unfold hoodB;rw[decide_eq_true HL.out.1,decide_eq_true HL.out.2];rfl);have HA:=hid ha;clear h1 h2 ha;go_enter Tryz.func45,Tryz.ntmps45;go_wp2;go_loopw [15] (fun i wr=>∃ k:Nat,k≤ps.length∧i=.int .i64 k∧Hid (Below w.heap.size w wr)∧Hid (chainH none ps=chainH (prevH ps k) (ps.drop k))) (fun i _=>ps.length - (intOf i).toNat)
 case atStart=>exact⟨0,Nat.zero_le _,rfl,hid (Below.refl _ _),hid rfl⟩
 case round=>
  obtain⟨k,hk,rfl,HB,HT⟩:=hrel;by_cases hlt:k < ps.length
  ·obtain⟨b1,o1,e1,hb1,hc0,hc1⟩:=(HA.out.ext HB.out).at_ hlt;have hpre:0 < k→wr.cell? ⟨b1,o1+(k - 1)*2,none⟩=some (.int .i64 (ps[k - 1]'(by omega)).1)∧wr.cell? ⟨b1,o1+(k - 1)*2+1,none⟩=some (.int .i64 (ps[k - 1]'(by omega)).2):=fun h=>by
    obtain⟨b1',o1',e1',-,h0,h1⟩:=(HA.out.ext HB.out).at_ (k:=k - 1) (by omega);rw[e1] at e1';injection e1' with e1'
    injection e1' with e2 e3
    subst e2 e3;exact⟨h0,h1⟩
   obtain⟨cx,hcx⟩:∃ cx,cx=ps[k]:=⟨_,rfl⟩
   rw[← hcx] at hc0 hc1;have HCX:=hid hcx;have HPRE:=hid hpre;have HLT:=hid hlt;obtain⟨x,y⟩:=cx;dsimp only at hc0 hc1;have hw1:wrap64 ((k:Int)+1)=(k:Int)+1:=by have:=HL.out;unfold wrap64;omega
   obtain⟨wb,hwb⟩:∃ wb,wb=wr.alloc (.cells #[.int .i64 x,.int .i64 y] 56):=⟨_,rfl⟩
   have hnb:=below_new wr (.cells #[.int .i64 x,.int .i64 y] 56);have p0:=Blk.new wr 56 #[.int .i64 x,.int .i64 y];rw[← hwb] at hnb p0;have P0:=cell_regrown (p0.cell_ 0 (.int .i64 x) rfl);have P1:=cell_regrown (p0.cell_ 1 (.int .i64 y) rfl);have HB2:=hid (HB.out.trans (hnb.mono HB.out.size));have HW:=hid hwb;have HNB:=hid hnb;clear hcx hpre p0 hnb hwb hk;by_cases a1:x < -2
   ·have e1d:decide (x < -2)=true:=decide_eq_true a1;have HF:Hid (chainH none ps=false):=hid (by rw[HT.out];exact chainH_no HLT.out (by rw[← HCX.out];unfold okH rngB;dsimp only;rw[decide_eq_false (by omega:¬ -2≤x)] <;> rfl));subst e1;go_upto_region 6 with fail
    rw[← HW.out];refine wp_region_quiet_below (by kernel_rfl) (by kernel_rfl) ?_;repeat (go_big_quiet_step (fail))
    refine wpQuiet_nil ?_;intro _ hw';obtain⟨⟨dq,osq⟩,hw''⟩:=hw';subst hw'';go_wp2;go_ret;exact⟨ret_bool (by rw[HE.out,HF.out] <;> rfl),HB2.out.trans ((below_regrown wb dq osq).mono HB2.out.size)⟩
   have f1:decide (x < -2)=false:=decide_eq_false a1;by_cases a2:2 < x
   ·have e2d:decide (2 < x)=true:=decide_eq_true a2;have HF:Hid (chainH none ps=false):=hid (by rw[HT.out];exact chainH_no HLT.out (by rw[← HCX.out];unfold okH rngB;dsimp only;rw[decide_eq_false (by omega:¬ x≤2)];simp));subst e1;go_upto_region 6 with fail
    rw[← HW.out];refine wp_region_quiet_below (by kernel_rfl) (by kernel_rfl) ?_;repeat (go_big_quiet_step (fail))
    refine wpQuiet_nil ?_;intro _ hw';obtain⟨⟨dq,osq⟩,hw''⟩:=hw';subst hw'';go_wp2;go_ret;exact⟨ret_bool (by rw[HE.out,HF.out] <;> rfl),HB2.out.trans ((below_regrown wb dq osq).mono HB2.out.size)⟩
   have f2:decide (2 < x)=false:=decide_eq_false a2;by_cases a3:y < -2
   ·have e3d:decide (y < -2)=true:=decide_eq_true a3;have HF:Hid (chainH none ps=false):=hid (by rw[HT.out];exact chainH_no HLT.out (by rw[← HCX.out];unfold okH rngB;dsimp only;rw[decide_eq_false (by omega:¬ -2≤y)];simp));subst e1;go_upto_region 6 with fail
    rw[← HW.out];refine wp_region_quiet_below (by kernel_rfl) (by kernel_rfl) ?_;repeat (go_big_quiet_step (fail))
    refine wpQuiet_nil ?_;intro _ hw';obtain⟨⟨dq,osq⟩,hw''⟩:=hw';subst hw'';go_wp2;go_ret;exact⟨ret_bool (by rw[HE.out,HF.out] <;> rfl),HB2.out.trans ((below_regrown wb dq osq).mono HB2.out.size)⟩
   have f3:decide (y < -2)=false:=decide_eq_false a3;by_cases a4:2 < y
   ·have e4d:decide (2 < y)=true:=decide_eq_true a4;have HF:Hid (chainH none ps=false):=hid (by rw[HT.out];exact chainH_no HLT.out (by rw[← HCX.out];unfold okH rngB;dsimp only;rw[decide_eq_false (by omega:¬ y≤2)];simp));subst e1;go_upto_region 6 with fail
    rw[← HW.out];refine wp_region_quiet_below (by kernel_rfl) (by kernel_rfl) ?_;repeat (go_big_quiet_step (fail))
    refine wpQuiet_nil ?_;intro _ hw';obtain⟨⟨dq,osq⟩,hw''⟩:=hw';subst hw'';go_wp2;go_ret;exact⟨ret_bool (by rw[HE.out,HF.out] <;> rfl),HB2.out.trans ((below_regrown wb dq osq).mono HB2.out.size)⟩
   have f4:decide (2 < y)=false:=decide_eq_false a4;have HR:Hid (rngB (x,y)=true):=hid (by unfold rngB;dsimp only;rw[decide_eq_true (by omega:-2≤x),decide_eq_true (by omega:x≤2),decide_eq_true (by omega:-2≤y),decide_eq_true (by omega:y≤2)];rfl);by_cases hk0:0 < k
   ·obtain⟨k1,rfl⟩:∃ k1,k=k1+1:=⟨k - 1,by omega⟩
    obtain⟨q0,q1⟩:=HPRE.out hk0;simp only[Nat.add_sub_cancel] at q0 q1;have hw1':wrap64 ((k1:Int)+1+1)=(k1:Int)+1+1:=by have:=HL.out;unfold wrap64;omega
    have hwk:wrap64 ((k1:Int)+1 - 1)=k1:=by have:=HL.out;unfold wrap64;omega
    have hwk2:wrap64 (k1:Int)=k1:=by have:=HL.out;unfold wrap64;omega
    have hprev:prevH ps (k1+1)=some (ps[k1]'(by omega)):=List.getElem?_eq_getElem (by omega);obtain⟨qx,hqx⟩:∃ qx,qx=ps[k1]'(by omega):=⟨_,rfl⟩
    rw[← hqx] at q0 q1 hprev;obtain⟨x',y'⟩:=qx;dsimp only at q0 q1;have hk1l:k1 < ps.length:=by omega
    have HPV:=hid hprev;have Q0:=cell_regrown (w:=wb) (v:=.int .i64 x') (a:=⟨b1,o1+k1*2,none⟩) ((HNB.out.cell hb1).trans q0);have Q1:=cell_regrown (w:=wb) (v:=.int .i64 y') (a:=⟨b1,o1+k1*2+1,none⟩) ((HNB.out.cell hb1).trans q1);have cC:=fun d os=>Calls.regrown_of (w:=wb) (d:=d) (os:=os) (compare_any x' y' x y _);unfold ptV at cC;have CC:=hid cC;clear cC q0 q1 hprev hqx hk0 a1 a2 a3 a4;by_cases hcm:ordP x' y' x y < 0
    ·have g2:decide ((0:Int)≤ordP x' y' x y)=false:=decide_eq_false (by omega);have HOK:Hid (chainH (prevH ps (k1+1)) (ps.drop (k1+1))=chainH (prevH ps (k1+1+1)) (ps.drop (k1+1+1))):=hid (chainH_yes HLT.out (by rw[HPV.out,← HCX.out];unfold okH;rw[HR.out];simpa using hcm));obtain⟨od,hod⟩:∃ od,od=ordP x' y' x y:=⟨_,rfl⟩
     rw[← hod] at CC g2;clear hcm hod;subst e1;go_upto_region 6 with fail
     rw[← HW.out];refine wp_region_quiet_below (by kernel_rfl) (by kernel_rfl) ?_;repeat (go_big_quiet_step (with_reducible exact CC.out _ _))
     refine wpQuiet_nil ?_;intro _ hw';obtain⟨⟨dq,osq⟩,hw''⟩:=hw';subst hw'';go_wp2;go_roundw
     case rel=>exact⟨k1+1+1,HLT.out,rfl,hid (HB2.out.trans ((below_regrown wb dq osq).mono HB2.out.size)),hid (HT.out.trans HOK.out)⟩
     case measure=>have:=HLT.out;simp[intOf];omega
    ·have g2:decide ((0:Int)≤ordP x' y' x y)=true:=decide_eq_true (by omega);have HF:Hid (chainH none ps=false):=hid (by rw[HT.out];exact chainH_no HLT.out (by rw[HPV.out,← HCX.out];unfold okH;rw[HR.out];simpa using hcm));obtain⟨od,hod⟩:∃ od,od=ordP x' y' x y:=⟨_,rfl⟩
     rw[← hod] at CC g2;clear hcm hod;subst e1;go_upto_region 6 with fail
     rw[← HW.out];refine wp_region_quiet_below (by kernel_rfl) (by kernel_rfl) ?_;repeat (go_big_quiet_step (with_reducible exact CC.out _ _))
     refine wpQuiet_nil ?_;intro _ hw';obtain⟨⟨dq,osq⟩,hw''⟩:=hw';subst hw'';go_wp2;go_ret;exact⟨ret_bool (by rw[HE.out,HF.out] <;> rfl),HB2.out.trans ((below_regrown wb dq osq).mono HB2.out.size)⟩
   ·obtain rfl:k=0:=by omega
    have HOK:Hid (chainH (prevH ps 0) (ps.drop 0)=chainH (prevH ps (0+1)) (ps.drop (0+1))):=hid (chainH_yes HLT.out (by rw[← HCX.out];unfold okH;rw[HR.out];rfl));simp only[Nat.zero_mul,Nat.add_zero] at hc0 hc1;clear a1 a2 a3 a4 hk0;subst e1;go_upto_region 6 with fail
    rw[← HW.out];refine wp_region_quiet_below (by kernel_rfl) (by kernel_rfl) ?_;repeat (go_big_quiet_step (fail))
    refine wpQuiet_nil ?_;intro _ hw';obtain⟨⟨dq,osq⟩,hw''⟩:=hw';subst hw'';go_wp2;go_roundw
    case rel=>exact⟨0+1,HLT.out,rfl,hid (HB2.out.trans ((below_regrown wb dq osq).mono HB2.out.size)),hid (HT.out.trans HOK.out)⟩
    case measure=>have:=HLT.out;simp[intOf];omega
  ·have HF:Hid (chainH none ps=true):=hid (by
    have h:=HT.out;rw[List.drop_of_length_le (by omega)] at h;exact h)
   go_wp2;go_ret;exact⟨ret_bool (by rw[HE.out,HF.out] <;> rfl),HB.out⟩

theorem ndl_at (hs:List Hd){k:Nat}(hk:k < hs.length):ndAt (hs.map Hd.nd) k=hs[k].nd:=by
 unfold ndAt;rw[List.getD_eq_getElem?_getD,List.getElem?_map,List.getElem?_eq_getElem hk];rfl
def kidB (st lv:Int)(ns:List Nd)(i:Nat)(z:Int):Bool:=decide (0≤z) && (!(lv == 1) || decide (z < st)) && (!decide (1 < lv) || (decide (z < (i:Int)) && ((ndAt ns z.toNat).1 == lv - 1)))
def nodeB (st:Int)(L:Nat)(ns:List Nd)(i:Nat):Bool:=decide (1≤(ndAt ns i).1) && decide ((ndAt ns i).1≤(L:Int)) && decide (((ndAt ns i).2.length:Int)=st) && (ndAt ns i).2.all (kidB st (ndAt ns i).1 ns i)
def allF (f:Nat→Bool):Nat→Nat→Bool
 | 0,_=>true
 | m+1,k=>f k && allF f m (k+1)
theorem allF_at {f:Nat→Bool}{n k:Nat}(h:k < n):allF f (n - k) k=(f k && allF f (n - (k+1)) (k+1)):=by
 obtain⟨m,hm⟩:∃ m,n - k=m+1:=⟨n - k - 1,by omega⟩
 rw[hm,show n - (k+1)=m by omega];rfl
theorem allF_all {f:Nat→Bool}:∀ (m k:Nat),allF f m k=true→∀ i,k≤i→i < k+m→f i=true
 | 0,k,_,i,h1,h2=>by omega
 | m+1,k,h,i,h1,h2=>by
  simp only[allF,Bool.and_eq_true] at h;rcases Nat.eq_or_lt_of_le h1 with rfl | h3
  ·exact h.1
  ·exact allF_all m (k+1) h.2 i (by omega) (by omega)
def headB (st:Int)(ps:List (Int × Int))(ns:List Nd):Bool:=decide (2≤st) && decide (st≤8) && hoodB ps && decide (1≤ns.length) && decide (ns.length≤4096) && decide ((ndAt ns (ns.length - 1)).1=(ps.length:Int))
def rightN (st:Int)(ps:List (Int × Int))(ns:List Nd):Bool:=headB st ps ns && allF (nodeB st ps.length ns) ns.length 0
theorem all_drop {p:Int→Bool}{zs:List Int}{m:Nat}(h:m < zs.length):(zs.drop m).all p=(p zs[m] && (zs.drop (m+1)).all p):=by
 rw[List.drop_eq_getElem_cons h,List.all_cons]
theorem rightN_parts {st:Int}{ps:List (Int × Int)}{ns:List Nd}(h:rightN st ps ns=true):2≤st∧st≤8∧hoodB ps=true∧1≤ns.length∧ns.length≤4096∧(ndAt ns (ns.length - 1)).1=(ps.length:Int)∧ps.length≤25∧VNd st.toNat ns∧∀ i,i < ns.length→(ndAt ns i).1≤(ps.length:Int):=by
 unfold rightN headB at h;simp only[Bool.and_eq_true,decide_eq_true_eq] at h;obtain⟨⟨⟨⟨⟨⟨a1,a2⟩,a3⟩,a4⟩,a5⟩,a6⟩,a7⟩:=h;have hp:ps.length≤25:=by
  unfold hoodB at a3;simp only[Bool.and_eq_true,decide_eq_true_eq] at a3;exact a3.1.2
 have hn:=allF_all _ _ a7;have hnode:∀ i,i < ns.length→1≤(ndAt ns i).1∧(ndAt ns i).1≤(ps.length:Int)∧((ndAt ns i).2.length:Int)=st∧∀ z ∈ (ndAt ns i).2,kidB st (ndAt ns i).1 ns i z=true:=by
  intro i hi;have:=hn i (Nat.zero_le _) (by omega);unfold nodeB at this;simp only[Bool.and_eq_true,decide_eq_true_eq,List.all_eq_true] at this;exact⟨this.1.1.1,this.1.1.2,this.1.2,this.2⟩
 refine⟨a1,a2,a3,a4,a5,a6,hp,⟨⟨fun i hi=>hi,fun i hi=>?_,fun i hi=>(hnode i hi).1,fun i hi hl z hz=>?_⟩,fun i hi hl z hz=>?_,fun i hi hl z hz=>?_⟩,fun i hi=>(hnode i hi).2.1⟩
 ·have:=(hnode i hi).2.2.1;omega
 ·have h4:=(hnode i hi).2.2.2 z hz;unfold kidB at h4;simp[hl] at h4;refine⟨h4.1.1,by omega,by omega⟩
 ·have h4:=(hnode i hi).2.2.2 z hz;unfold kidB at h4;simp[hl] at h4;omega
 ·have h4:=(hnode i hi).2.2.2 z hz;unfold kidB at h4;simp[hl] at h4;omega
set_option maxHeartbeats 16000000 in
theorem right_any (st:Int)(A:Option Addr)(c:Nat)(ps:List (Int × Int))(B:Option Addr)(d:Nat)(hs:List Hd)(w:World)(hp:Pts w A ps)(hN:Nds w B hs) :
  Calls Tryz.prog 40 #[.agg #[.int .i64 st,.slice A ps.length c,.slice B hs.length d]] w fun e w'=>e=.returned (.bool (rightN st ps (hs.map Hd.nd)))∧Below w.heap.size w w':=by
 have hn:=hN.le;have hpl:=hp.le;obtain⟨w0,hw0⟩:∃ w0,w0=w.alloc (.cells #[.int .i64 st,.slice A ps.length c,.slice B hs.length d] 31):=⟨_,rfl⟩
 have hb0:=below_new w (.cells #[.int .i64 st,.slice A ps.length c,.slice B hs.length d] 31);have p0:=Blk.new w 31 #[.int .i64 st,.slice A ps.length c,.slice B hs.length d];rw[← hw0] at hb0 p0;have P0:=cell_regrown (p0.cell_ 0 (.int .i64 st) rfl);have P1:=cell_regrown (p0.cell_ 1 (.slice A ps.length c) rfl);have P2:=cell_regrown (p0.cell_ 2 (.slice B hs.length d) rfl);have C2:=p0.cell_ 2 (.slice B hs.length d) rfl;have HB0:=hid hb0;have HP0:=hid p0;have HW0:=hid hw0;have HP:=hid (hp.ext hb0);have HN:=hid (hN.ext hb0);have cH:=fun dd os=>Calls.regrown_of (w:=w0) (d:=dd) (os:=os) (hood_any A c ps _ ((hp.ext hb0).ext (below_regrown w0 dd os)));clear hb0 p0 hw0 hp hN;by_cases a1:st < 2
 ·have e1:decide (st < 2)=true:=decide_eq_true a1;have HF:Hid (rightN st ps (hs.map Hd.nd)=false):=hid (by unfold rightN headB;rw[decide_eq_false (by omega:¬ 2≤st)];rfl);clear cH C2;go_enter Tryz.func40,Tryz.ntmps40;go_upto_region 2 with fail
  rw[← HW0.out];refine wp_region_quiet_below (by kernel_rfl) (by kernel_rfl) ?_;repeat (go_big_quiet_step (fail))
  refine wpQuiet_nil ?_;intro _ hw';obtain⟨⟨dq,osq⟩,hw''⟩:=hw';subst hw'';go_wp2;go_ret;exact⟨ret_bool (by rw[HF.out] <;> rfl),HB0.out.trans ((below_regrown w0 dq osq).mono HB0.out.size)⟩
 have f1:decide (st < 2)=false:=decide_eq_false a1;by_cases a2:8 < st
 ·have e2:decide (8 < st)=true:=decide_eq_true a2;have HF:Hid (rightN st ps (hs.map Hd.nd)=false):=hid (by unfold rightN headB;rw[decide_eq_false (by omega:¬ st≤8)];simp);clear cH C2;go_enter Tryz.func40,Tryz.ntmps40;go_upto_region 2 with fail
  rw[← HW0.out];refine wp_region_quiet_below (by kernel_rfl) (by kernel_rfl) ?_;repeat (go_big_quiet_step (fail))
  refine wpQuiet_nil ?_;intro _ hw';obtain⟨⟨dq,osq⟩,hw''⟩:=hw';subst hw'';go_wp2;go_ret;exact⟨ret_bool (by rw[HF.out] <;> rfl),HB0.out.trans ((below_regrown w0 dq osq).mono HB0.out.size)⟩
 have f2:decide (8 < st)=false:=decide_eq_false a2;cases hh:hoodB ps with
 | false=>
  rw[hh] at cH;have HF:Hid (rightN st ps (hs.map Hd.nd)=false):=hid (by unfold rightN headB;rw[hh];simp);clear hh;have CH:=hid cH;clear cH;clear C2;go_enter Tryz.func40,Tryz.ntmps40;go_upto_region 2 with fail
  rw[← HW0.out];refine wp_region_quiet_below (by kernel_rfl) (by kernel_rfl) ?_;repeat (go_big_quiet_step (with_reducible exact CH.out _ _))
  refine wpQuiet_nil ?_;intro _ hw';obtain⟨⟨dq,osq⟩,hw''⟩:=hw';subst hw'';go_wp2;go_ret;exact⟨ret_bool (by rw[HF.out] <;> rfl),HB0.out.trans ((below_regrown w0 dq osq).mono HB0.out.size)⟩
 | true=>
  rw[hh] at cH;have HH:=hid hh;clear hh;have CH:=hid cH;clear cH;by_cases a3:hs.length < 1
  ·have e3:decide ((hs.length:Int) < 1)=true:=decide_eq_true (by omega);have HF:Hid (rightN st ps (hs.map Hd.nd)=false):=hid (by unfold rightN headB;rw[List.length_map,decide_eq_false (by omega:¬ 1≤hs.length)];simp);clear C2;go_enter Tryz.func40,Tryz.ntmps40;go_upto_region 2 with fail
   rw[← HW0.out];refine wp_region_quiet_below (by kernel_rfl) (by kernel_rfl) ?_;repeat (go_big_quiet_step (with_reducible exact CH.out _ _))
   refine wpQuiet_nil ?_;intro _ hw';obtain⟨⟨dq,osq⟩,hw''⟩:=hw';subst hw'';go_wp2;go_ret;exact⟨ret_bool (by rw[HF.out] <;> rfl),HB0.out.trans ((below_regrown w0 dq osq).mono HB0.out.size)⟩
  have f3:decide ((hs.length:Int) < 1)=false:=decide_eq_false (by omega);by_cases a4:4096 < hs.length
  ·have e4:decide ((4096:Int) < (hs.length:Int))=true:=decide_eq_true (by omega);have HF:Hid (rightN st ps (hs.map Hd.nd)=false):=hid (by unfold rightN headB;rw[List.length_map,decide_eq_false (by omega:¬ hs.length≤4096)];simp);clear C2;go_enter Tryz.func40,Tryz.ntmps40;go_upto_region 2 with fail
   rw[← HW0.out];refine wp_region_quiet_below (by kernel_rfl) (by kernel_rfl) ?_;repeat (go_big_quiet_step (with_reducible exact CH.out _ _))
   refine wpQuiet_nil ?_;intro _ hw';obtain⟨⟨dq,osq⟩,hw''⟩:=hw';subst hw'';go_wp2;go_ret;exact⟨ret_bool (by rw[HF.out] <;> rfl),HB0.out.trans ((below_regrown w0 dq osq).mono HB0.out.size)⟩
  have f4:decide ((4096:Int) < (hs.length:Int))=false:=decide_eq_false (by omega);obtain⟨n1,hn1⟩:∃ n1,hs.length=n1+1:=⟨hs.length - 1,by omega⟩
  obtain⟨nb,no,eB,hnb,hl0,-,-⟩:=HN.out.at_ (k:=n1) (by omega);have hlast:(ndAt (hs.map Hd.nd) ((hs.map Hd.nd).length - 1)).1=(hs[n1]'(by omega)).lv:=by
   rw[List.length_map,show hs.length - 1=n1 by omega,ndl_at hs (by omega)];rfl
  obtain⟨ll,hll⟩:∃ ll,ll=(hs[n1]'(by omega)).lv:=⟨_,rfl⟩
  rw[← hll] at hl0 hlast;have HLAST:=hid hlast;have HLEN:=hid (And.intro hn1 (show hs.length≤4096 by omega));have L0:=cell_regrown hl0;have hwn:wrap64 ((hs.length:Int) - 1)=(n1:Int):=by unfold wrap64;omega
  have hidx:((hs.length:Int) - 1)=(n1:Int):=by omega
  have hnl:n1 < hs.length:=by omega
  clear hlast hll hn1 hl0;subst eB;by_cases a5:ll=(ps.length:Int)
  ·have f5:(ll != (ps.length:Int))=false:=by simp[a5]
   have HHEAD:Hid (headB st ps (hs.map Hd.nd)=true):=hid (by unfold headB;rw[HH.out,HLAST.out,a5,List.length_map,decide_eq_true (by omega:2≤st),decide_eq_true (by omega:st≤8),decide_eq_true (by omega:1≤hs.length),decide_eq_true (by omega:hs.length≤4096)];simp);have HA5:=hid a5;clear a5;go_enter Tryz.func40,Tryz.ntmps40;go_upto_region 2 with fail
   rw[← HW0.out];refine wp_region_quiet_below (by kernel_rfl) (by kernel_rfl) ?_;repeat (go_big_quiet_step (with_reducible exact CH.out _ _))
   refine wpQuiet_nil ?_;intro _ hw';obtain⟨⟨dq,osq⟩,hw''⟩:=hw';subst hw'';have HP25:Hid (ps.length≤25):=hid (by
    have h:=HH.out;unfold hoodB at h;simp only[Bool.and_eq_true,decide_eq_true_eq] at h;exact h.1.2)
   generalize hwq:Sort.grow (redrawn w0 dq) osq=wq at *;have hbq:Below w0.heap.size w0 wq:=by rw[← hwq];exact below_regrown w0 dq osq
   have hpq:=HP0.out.below hbq HP0.out.lt;have cq2:=hpq.cell_ 2 (.slice (some ⟨nb,no,none⟩) hs.length d) rfl;have HBQ:=hid hbq;have HST:=hid (show 2≤st∧st≤8 by omega);clear hwq hbq hpq P0 P1 P2 C2 CH L0 a1 a2 a3 a4 f1 f2 f3 f4 f5 hwn hidx hnl hpl hn;go_wp2;clear cq2;go_loopw [49] (fun i wr=>∃ k:Nat,k≤hs.length∧i=.int .i64 k∧Hid (Below w0.heap.size w0 wr)∧Hid (allF (nodeB st ps.length (hs.map Hd.nd)) hs.length 0=allF (nodeB st ps.length (hs.map Hd.nd)) (hs.length - k) k)) (fun i _=>hs.length - (intOf i).toNat)
   case atStart=>exact⟨0,Nat.zero_le _,rfl,HBQ,hid rfl⟩
   case round=>
    obtain⟨k,hk,rfl,HBW,HT⟩:=hrel;have hpw:=HP0.out.below HBW.out HP0.out.lt;by_cases hlt:k < hs.length
    ·obtain⟨nb',no',eB',-,hc0,hc1,hzI⟩:=(HN.out.ext HBW.out).at_ hlt;injection eB' with eB'
     injection eB' with eb1 eb2
     subst eb1 eb2;have hndk:=ndl_at hs hlt;obtain⟨x,hx⟩:∃ x,x=hs[k]:=⟨_,rfl⟩
     rw[← hx] at hc0 hc1 hzI hndk;obtain⟨lv,zA,zc,zs⟩:=x;dsimp only at hc0 hc1 hzI;change ndAt (hs.map Hd.nd) k=(lv,zs) at hndk;have HND:=hid hndk;have hw1:wrap64 ((k:Int)+1)=(k:Int)+1:=by have:=HLEN.out;unfold wrap64;omega
     have HLT:=hid hlt;have HBN:Hid (nodeB st ps.length (hs.map Hd.nd) k=false→rightN st ps (hs.map Hd.nd)=false):=hid (fun h=>by
      unfold rightN;rw[List.length_map,HT.out,allF_at HLT.out,h]
      simp)
     obtain⟨wx,hwx⟩:∃ wx,wx=wr.alloc (.cells #[.int .i64 lv,.slice zA zs.length zc] 58):=⟨_,rfl⟩
     have hbx:=below_new wr (.cells #[.int .i64 lv,.slice zA zs.length zc] 58);have hG:=Blk.new wr 58 #[.int .i64 lv,.slice zA zs.length zc];rw[← hwx] at hbx hG;obtain⟨gX,hgX⟩:∃ gX,gX=wr.heap.size:=⟨_,rfl⟩
     rw[← hgX] at hG;have cg0:=hG.cell_ 0 (.int .i64 lv) rfl;have cg1:=hG.cell_ 1 (.slice zA zs.length zc) rfl;have hpx:=hpw.below hbx hpw.lt;have ct0:=hpx.cell_ 0 (.int .i64 st) rfl;have ct1:=hpx.cell_ 1 (.slice A ps.length c) rfl;have ct2:=hpx.cell_ 2 (.slice (some ⟨nb,no,none⟩) hs.length d) rfl;have HZI:=hid (hzI.ext hbx);have HBX:=hid hbx;have HBX2:Hid (Below w.heap.size w wx):=hid ((HB0.out.trans (HBW.out.mono HB0.out.size)).trans (hbx.mono (by have:=HB0.out.size;have:=HBW.out.size;omega)));have HZL:=hid hzI.le;clear hx hndk hzI hbx hG hpx hpw;go_upto_region 7 with fail
     rw[← hwx,← hgX];clear hwx hgX hc0 hc1;by_cases v1:lv < 1
     ·have j1:decide (lv < 1)=true:=decide_eq_true v1;have HF:Hid (rightN st ps (hs.map Hd.nd)=false):=hid (HBN.out (by unfold nodeB;rw[HND.out];dsimp only;rw[decide_eq_false (by omega:¬ 1≤lv)] <;> rfl));go_wp2;go_ret;exact⟨ret_bool (by rw[HF.out] <;> rfl),HBX2.out⟩
     have j1:decide (lv < 1)=false:=decide_eq_false v1;by_cases v2:(ps.length:Int) < lv
     ·have j2:decide ((ps.length:Int) < lv)=true:=decide_eq_true v2;have HF:Hid (rightN st ps (hs.map Hd.nd)=false):=hid (HBN.out (by unfold nodeB;rw[HND.out];dsimp only;rw[decide_eq_false (by omega:¬ lv≤(ps.length:Int))];simp));go_wp2;go_ret;exact⟨ret_bool (by rw[HF.out] <;> rfl),HBX2.out⟩
     have j2:decide ((ps.length:Int) < lv)=false:=decide_eq_false v2;by_cases v3:(zs.length:Int)=st
     ·have j3:((zs.length:Int) != st)=false:=by simp[v3]
      have HV1:=hid v1;have HV2:=hid v2;have HV3:=hid v3;have HBAD:Hid (zs.all (kidB st lv (hs.map Hd.nd) k)=false→rightN st ps (hs.map Hd.nd)=false):=hid (fun h=>HBN.out (by unfold nodeB;rw[HND.out];dsimp only;rw[h];simp));clear v1 v2 v3 hk hlt;go_wp2;clear j1 j2 j3;go_loopw [76] (fun i wi=>∃ m q:Nat,m≤zs.length∧i=.int .i64 m∧wi=wx.drewN q∧Hid (zs.all (kidB st lv (hs.map Hd.nd) k)=(zs.drop m).all (kidB st lv (hs.map Hd.nd) k))) (fun i _=>zs.length - (intOf i).toNat)
      case atStart=>exact⟨0,0,Nat.zero_le _,rfl,rfl,hid (by simp)⟩
      case round=>
       obtain⟨m,qd,hm,rfl,rfl,HTI⟩:=hrel;by_cases hml:m < zs.length
       ·obtain⟨bz,oz,ez,-,hcm⟩:=HZI.out.at_ hml;obtain⟨z,hz⟩:∃ z,z=zs[m]:=⟨_,rfl⟩
        rw[← hz] at hcm;have hwm:wrap64 ((m:Int)+1)=(m:Int)+1:=by have:=HV3.out;have:=HST.out;unfold wrap64;omega
        have hlt:=HLT.out;subst ez;by_cases z0:z < 0
        ·have g0:decide (z < 0)=true:=decide_eq_true z0;have HF:Hid (rightN st ps (hs.map Hd.nd)=false):=hid (HBAD.out (by rw[HTI.out,all_drop hml,← hz];unfold kidB;rw[decide_eq_false (by omega:¬ 0≤z)] <;> rfl));clear hz;go_wp2;go_quiet (fail)
         go_wp2;go_ret;exact⟨ret_bool (by rw[HF.out] <;> rfl),below_drewN (below_drewN HBX2.out _) _⟩
        ·have g0:decide (z < 0)=false:=decide_eq_false z0;by_cases l1:lv=1
         ·have j1:(lv == 1)=true:=by simp[l1]
          have j2:decide (1 < lv)=false:=decide_eq_false (by omega);have HL1:=hid l1;clear l1;by_cases z1:st≤z
          ·have g1:decide (st≤z)=true:=decide_eq_true z1;have HF:Hid (rightN st ps (hs.map Hd.nd)=false):=hid (HBAD.out (by rw[HTI.out,all_drop hml,← hz];unfold kidB;rw[j1,decide_eq_false (by omega:¬ z < st)];simp));clear hz;go_wp2;go_quiet (fail)
           go_wp2;go_ret;exact⟨ret_bool (by rw[HF.out] <;> rfl),below_drewN (below_drewN HBX2.out _) _⟩
          ·have g1:decide (st≤z)=false:=decide_eq_false z1;have HOK:Hid (zs.all (kidB st lv (hs.map Hd.nd) k)=(zs.drop (m+1)).all (kidB st lv (hs.map Hd.nd) k)):=hid (by rw[HTI.out,all_drop hml,← hz];unfold kidB;rw[j1,j2,decide_eq_true (by omega:0≤z),decide_eq_true (by omega:z < st)];simp);clear hz;go_wp2;go_quiet (fail)
           go_wp2;go_roundw
           case rel=>exact⟨m+1,_,hml,(by rw[hwm];rfl),rfl,HOK⟩
           case measure=>rw[hwm];simp[intOf];omega
         ·have j1:(lv == 1)=false:=by simpa using l1
          have j2:decide (1 < lv)=true:=decide_eq_true (by have:=HV1.out;omega);by_cases z1:(k:Int)≤z
          ·have g1:decide ((k:Int)≤z)=true:=decide_eq_true z1;have HF:Hid (rightN st ps (hs.map Hd.nd)=false):=hid (HBAD.out (by rw[HTI.out,all_drop hml,← hz];unfold kidB;rw[j1,j2,decide_eq_false (by omega:¬ z < (k:Int))];simp));clear hz;go_wp2;go_quiet (fail)
           go_wp2;go_ret;exact⟨ret_bool (by rw[HF.out] <;> rfl),below_drewN (below_drewN HBX2.out _) _⟩
          ·have g1:decide ((k:Int)≤z)=false:=decide_eq_false z1;obtain⟨nb',no',eB',-,hk0,-,-⟩:=(HN.out.ext HBW.out).at_ (k:=z.toNat) (by omega);injection eB' with eB'
           injection eB' with eb1 eb2
           subst eb1 eb2;have hkx:wx.cell? ⟨nb,no+z.toNat*2,none⟩=some (.int .i64 (hs[z.toNat]'(by omega)).lv):=(HBX.out.cell (p:=⟨nb,no+z.toNat*2,none⟩) (Nat.lt_of_lt_of_le hnb HBW.out.size)).trans hk0;have hlz:(ndAt (hs.map Hd.nd) z.toNat).1=(hs[z.toNat]'(by omega)).lv:=by rw[ndl_at hs (by omega)];rfl
           obtain⟨y,hy⟩:∃ y,y=(hs[z.toNat]'(by omega)).lv:=⟨_,rfl⟩
           rw[← hy] at hkx hlz;have HLZ:=hid hlz;have hzl:z < (hs.length:Int):=by omega
           have hz0:0≤z:=by omega
           have hwl:wrap64 (lv - 1)=lv - 1:=by have h1:=HV1.out;have h2:=HV2.out;have h3:=HP25.out;unfold wrap64;omega
           clear hk0 hlz hy;by_cases y1:y=lv - 1
           ·have g2:(y != lv - 1)=false:=by simp[y1]
            have HY:=hid y1;clear y1;have HOK:Hid (zs.all (kidB st lv (hs.map Hd.nd) k)=(zs.drop (m+1)).all (kidB st lv (hs.map Hd.nd) k)):=hid (by rw[HTI.out,all_drop hml,← hz];unfold kidB;rw[j1,j2,HLZ.out,HY.out,decide_eq_true (by omega:0≤z),decide_eq_true (by omega:z < (k:Int))];simp);clear hz;go_wp2;go_quiet (fail)
            go_wp2;go_roundw
            case rel=>exact⟨m+1,_,hml,(by rw[hwm];rfl),rfl,HOK⟩
            case measure=>rw[hwm];simp[intOf];omega
           ·have g2:(y != lv - 1)=true:=by simpa using y1
            have HY:=hid y1;clear y1;have HF:Hid (rightN st ps (hs.map Hd.nd)=false):=hid (HBAD.out (by rw[HTI.out,all_drop hml,← hz];unfold kidB;rw[j1,j2,HLZ.out,show (y == lv - 1)=false from by simpa using HY.out];simp));clear hz;go_wp2;go_quiet (fail)
            go_wp2;go_ret;exact⟨ret_bool (by rw[HF.out] <;> rfl),below_drewN (below_drewN HBX2.out _) _⟩
       ·have HALL:Hid (zs.all (kidB st lv (hs.map Hd.nd) k)=true):=hid (by
         have h:=HTI.out;rw[List.drop_of_length_le (by omega)] at h;exact h)
        have HNX:Hid (allF (nodeB st ps.length (hs.map Hd.nd)) hs.length 0=allF (nodeB st ps.length (hs.map Hd.nd)) (hs.length - (k+1)) (k+1)):=hid (by
         rw[HT.out,allF_at HLT.out];have h:nodeB st ps.length (hs.map Hd.nd) k=true:=by
          unfold nodeB;rw[HND.out];dsimp only;rw[HALL.out,decide_eq_true (by have:=HV1.out;omega:1≤lv),decide_eq_true (by have:=HV2.out;omega:lv≤(ps.length:Int)),decide_eq_true HV3.out];rfl
         rw[h,Bool.true_and])
        have hlt:=HLT.out;clear cg0 cg1 ct0 ct1 ct2;go_wp2;go_roundw
        case rel=>exact⟨k+1,HLT.out,(by rw[hw1];rfl),hid (below_drewN (HBW.out.trans (HBX.out.mono HBW.out.size)) _),HNX⟩
        case measure=>rw[hw1];simp[intOf];omega
     ·have j3:((zs.length:Int) != st)=true:=by simpa using v3
      have HF:Hid (rightN st ps (hs.map Hd.nd)=false):=hid (HBN.out (by unfold nodeB;rw[HND.out];dsimp only;rw[decide_eq_false v3];simp));go_wp2;go_ret;exact⟨ret_bool (by rw[HF.out] <;> rfl),HBX2.out⟩
    ·have HF:Hid (rightN st ps (hs.map Hd.nd)=true):=hid (by
      have h:=HT.out;rw[show hs.length - k=0 by omega] at h;unfold rightN;rw[HHEAD.out,List.length_map,h];rfl)
     go_wp2;go_ret;exact⟨ret_bool (by rw[HF.out] <;> rfl),HB0.out.trans (HBW.out.mono HB0.out.size)⟩
  ·have e5:(ll != (ps.length:Int))=true:=by simpa using a5
   have HF:Hid (rightN st ps (hs.map Hd.nd)=false):=hid (by unfold rightN headB;rw[HLAST.out,decide_eq_false a5];simp);clear a5 C2;go_enter Tryz.func40,Tryz.ntmps40;go_upto_region 2 with fail
   rw[← HW0.out];refine wp_region_quiet_below (by kernel_rfl) (by kernel_rfl) ?_;repeat (go_big_quiet_step (with_reducible exact CH.out _ _))
   refine wpQuiet_nil ?_;intro _ hw';obtain⟨⟨dq,osq⟩,hw''⟩:=hw';subst hw'';go_wp2;go_ret;exact⟨ret_bool (by rw[HF.out] <;> rfl),HB0.out.trans ((below_regrown w0 dq osq).mono HB0.out.size)⟩

def chR:Int→List Int→List Int:=fun _ zs=>zs
theorem chR_chg (q:Nat):Chg q chR:=⟨fun _ _ h=>h,fun _ _ _ _ _ h=>h,fun _ _ _ _ _=>rfl,fun _ _ h=>h⟩
set_option maxHeartbeats 1000000 in
theorem clR_any (W:World)(base g cx:Nat)(zs:List Int)(lv:Int)(ho:OwnIA W base (.slice (some ⟨g,0,none⟩) zs.length cx) zs) :
  Calls Tryz.prog 58 #[.int .i64 lv,.slice (some ⟨g,0,none⟩) zs.length cx] W fun e W'=>e=.returned (.slice (some ⟨g,0,none⟩) zs.length cx)∧OwnIA W' base (.slice (some ⟨g,0,none⟩) zs.length cx) (chR lv zs)∧Kept (fun x=>x=g) W W':=by
 have HO:=hid ho;clear ho;go_enter Tryz.func58,Tryz.ntmps58;go_wp2;go_ret;exact⟨rfl,HO.out,Kept.refl _ _⟩
end Go.Proofs.YtlegfdllipkggaaGreatDoor
