/-
  texts Cmp HoodR Eq EqP RHood FI Alc TrV Ctr TabM App Syms Permit R04: parts of the proof; conditions stand with each theorem.
-/
import Derived.Test.YtcmbdhopmncmnaaGreatDoorVG0
import Derived.Lib.Small
import Derived.BigQuiet
import Derived.Lib.QuietBelow
import Derived.Deep.RegionWith
import Derived.Deep.Cut
import Derived.Test.YtcmbdhopmncmnaaGreatDoorRows
namespace Go.Proofs.YtcmbdhopmncmnaaGreatDoor
open Lib(hid)
open Go.RowKit
set_option maxRecDepth 100000
set_option linter.unusedVariables false
set_option linter.unusedSimpArgs false

def ptV (x y:Int):Value:=.agg #[.int .i64 x,.int .i64 y]
def ordP (x y x' y':Int):Int:=if Lib.compareInt y y'≠0 then Lib.compareInt y y' else Lib.compareInt x x'
theorem isNan_any (x:Int)(w:World):Calls Tryz.prog 126 #[.int .i64 x] w fun e w'=>e=.returned (.bool false)∧w'=w:=by
 have hd:(x != x)=false:=by simp
 go_enter Tryz.func126,Tryz.ntmps126;go_wp2;go_ret;exact⟨rfl,rfl⟩
set_option maxHeartbeats 800000 in
theorem cmpCompare (x y:Int)(w:World):Calls Tryz.prog 105 #[.int .i64 x,.int .i64 y] w fun e w'=>e=.returned (.int .i64 (Lib.compareInt x y))∧w'=w:=by
 have H1:=hid (isNan_any x w);have H2:=hid (isNan_any y w);unfold Lib.compareInt;by_cases h1:x < y
 ·rw[if_pos h1];have d1:decide (x < y)=true:=decide_eq_true h1;clear h1;go_enter Tryz.func105,Tryz.ntmps105;go_wp2_with (first | (go_at_call_of 126 x;refine H1.out.mono ?_;rintro e w1 ⟨rfl,rfl⟩) | (go_at_call_of 126 y;refine H2.out.mono ?_;rintro e w1 ⟨rfl,rfl⟩));go_ret;exact⟨rfl,rfl⟩
 ·rw[if_neg h1];have d1:decide (x < y)=false:=decide_eq_false h1;by_cases h2:x > y
  ·rw[if_pos h2];have d2:decide (y < x)=true:=decide_eq_true h2;clear h1 h2;go_enter Tryz.func105,Tryz.ntmps105;go_wp2_with (first | (go_at_call_of 126 x;refine H1.out.mono ?_;rintro e w1 ⟨rfl,rfl⟩) | (go_at_call_of 126 y;refine H2.out.mono ?_;rintro e w1 ⟨rfl,rfl⟩));go_ret;exact⟨rfl,rfl⟩
  ·rw[if_neg h2];have d2:decide (y < x)=false:=decide_eq_false h2;clear h1 h2;go_enter Tryz.func105,Tryz.ntmps105;go_wp2_with (first | (go_at_call_of 126 x;refine H1.out.mono ?_;rintro e w1 ⟨rfl,rfl⟩) | (go_at_call_of 126 y;refine H2.out.mono ?_;rintro e w1 ⟨rfl,rfl⟩));go_ret;exact⟨rfl,rfl⟩
def orL:List Int→Int
 | []=>0
 | x :: l=>if x=0 then orL l else x
theorem orL_yes {l:List Int}{j:Nat}(h:j < l.length)(hd:l[j]=0):orL (l.drop j)=orL (l.drop (j+1)):=by
 rw[List.drop_eq_getElem_cons h];simp[orL,hd]
theorem orL_no {l:List Int}{j:Nat}(h:j < l.length)(hd:¬ l[j]=0):orL (l.drop j)=l[j]:=by
 rw[List.drop_eq_getElem_cons h];simp[orL,hd]
set_option maxHeartbeats 800000 in
theorem cmpOr_any (A:Option Addr)(c:Nat)(xs:List Int)(w:World)(ha:Ints w A xs):Calls Tryz.prog 104 #[.slice A xs.length c] w fun e w'=>e=.returned (.int .i64 (orL xs))∧w'=w:=by
 have hn:=ha.le;go_enter Tryz.func104,Tryz.ntmps104;go_wp2;go_loopw [8] (fun i wr=>∃ k:Nat,k≤xs.length∧i=.int .i64 k∧wr=w∧Hid (orL xs=orL (xs.drop k))) (fun i _=>xs.length - (intOf i).toNat)
 case atStart=>exact⟨0,Nat.zero_le _,rfl,rfl,hid (by simp)⟩
 case round=>
  obtain⟨k,hk,rfl,rfl,HT⟩:=hrel;by_cases hlt:k < xs.length
  ·obtain⟨b1,o1,rfl,-,hc⟩:=ha.at_ hlt;by_cases he:xs[k]=0
   ·have hd:(xs[k] != 0)=false:=by simp[he]
    have HE:=hid (orL_yes hlt he);clear he;go_wp2;go_roundw
    case rel=>exact⟨k+1,by omega,by go_num,(by first | rfl | trivial),hid (HT.out.trans HE.out)⟩
    case measure=>simp[intOf];omega
   ·have hd:(xs[k] != 0)=true:=by simp[he]
    have HE:=hid (orL_no hlt he);clear he;go_wp2;go_ret;exact⟨ret_int (by rw[HT.out,HE.out]),rfl⟩
  ·have HZ:Hid (orL xs=0):=hid (by
    have:=HT.out;rw[List.drop_of_length_le (by omega)] at this;exact this)
   go_wp2;go_ret;exact⟨ret_int (by rw[HZ.out]),rfl⟩
theorem ints_new (w:World)(zs:List Int)(h0:0 < zs.length)(h1:zs.length≤9223372036854775807):Ints (w.alloc (.cells (zs.map (Value.int .i64)).toArray 3)) (some ⟨w.heap.size,0,none⟩) zs:=by
 refine⟨⟨?_,fun _=>⟨_,rfl,by simp,fun j v hv=>?_⟩⟩,h1⟩
 ·simp
 ·rw[addr_add];have:(w.alloc (.cells (zs.map (Value.int .i64)).toArray 3)).cell? ⟨w.heap.size,0+j,none⟩=(zs.map (Value.int .i64)).toArray[0+j]?:=cell_of_row _ _ _ _ _ _ (heap_alloc_new w _);rw[this];simpa using hv
structure CmpJ (w0:World)(P:Nat)(Q:Nat)(x:Int)(y:Int)(x':Int)(y':Int)(u:Int)(v:Int)(r:Int)(b0 b1 b2 b3 b4 b5 b6 b7 b8 b9 b10 b11 b12:Bool)(v5 v6 v7 v8 v9 v10 v11 v12 v13 v14 v15 v16 v4:Value)(w:World):Prop where
 below:Below w0.heap.size w0 w
 h0:b0=true→v5=.pointer (some ⟨P,1,none⟩)
 h1:b1=true→v6=.int .i64 y
 h2:b2=true→v7=.pointer (some ⟨Q,1,none⟩)
 h3:b3=true→v8=.int .i64 y'
 h4:b4=true→v9=.int .i64 u
 h5:b5=true→v10=.pointer (some ⟨P,0,none⟩)
 h6:b6=true→v11=.int .i64 x
 h7:b7=true→v12=.pointer (some ⟨Q,0,none⟩)
 h8:b8=true→v13=.int .i64 x'
 h9:b9=true→v14=.int .i64 v
 h10:b10=true→∃ g,v15=.slice (some ⟨g,0,none⟩) 2 2∧Ints w (some ⟨g,0,none⟩) [u,v]
 h11:b11=true→v16=.int .i64 r
 h12:b12=true→v4=.int .i64 r
section
variable {w0 : World} {P : Nat} {Q : Nat} {x : Int} {y : Int} {x' : Int} {y' : Int} {u : Int} {v : Int} {r : Int} {b0 b1 b2 b3 b4 b5 b6 b7 b8 b9 b10 b11 b12 : Bool} {v5 v6 v7 v8 v9 v10 v11 v12 v13 v14 v15 v16 v4 : Value} {w w' : World}
theorem CmpJ.world (H:CmpJ w0 P Q x y x' y' u v r b0 b1 b2 b3 b4 b5 b6 b7 b8 b9 b10 b11 b12 v5 v6 v7 v8 v9 v10 v11 v12 v13 v14 v15 v16 v4 w)(hb:Below w.heap.size w w'):CmpJ w0 P Q x y x' y' u v r b0 b1 b2 b3 b4 b5 b6 b7 b8 b9 b10 b11 b12 v5 v6 v7 v8 v9 v10 v11 v12 v13 v14 v15 v16 v4 w':=
 {H with below:=H.below.trans (hb.mono H.below.size),h10:=fun h=>by obtain⟨g,h1,h2⟩:=H.h10 h;exact⟨g,h1,h2.ext hb⟩ }
end
set_option maxHeartbeats 4000000 in
theorem compare_any (x y x' y':Int)(w:World):Calls Tryz.prog 68 #[ptV x y,ptV x' y'] w fun e w'=>e=.returned (.int .i64 (ordP x y x' y'))∧Below w.heap.size w w':=by
 unfold ptV;have hb1:=(below_new w (.cells #[.int .i64 x,.int .i64 y] 43))
 have HB:=hid (hb1.alloc hb1.size (.cells #[.int .i64 x',.int .i64 y'] 43));have p0:=(Blk.new w 43 #[.int .i64 x,.int .i64 y]).alloc (.cells #[.int .i64 x',.int .i64 y'] 43);have q0:=Blk.new (w.alloc (.cells #[.int .i64 x,.int .i64 y] 43)) 43 #[.int .i64 x',.int .i64 y'];rw[show (w.alloc (.cells #[.int .i64 x,.int .i64 y] 43)).heap.size=w.heap.size+1 from by simp] at q0;have P0:=hid (p0.cell_ 0 (.int .i64 x) rfl);have P1:=hid (p0.cell_ 1 (.int .i64 y) rfl);have Q0:=hid (q0.cell_ 0 (.int .i64 x') rfl);have Q1:=hid (q0.cell_ 1 (.int .i64 y') rfl);have HS:Hid (w.heap.size < ((w.alloc (.cells #[.int .i64 x,.int .i64 y] 43)).alloc (.cells #[.int .i64 x',.int .i64 y'] 43)).heap.size∧w.heap.size+1 < ((w.alloc (.cells #[.int .i64 x,.int .i64 y] 43)).alloc (.cells #[.int .i64 x',.int .i64 y'] 43)).heap.size):=hid (by simp;omega);clear hb1 p0 q0;obtain⟨r,hr⟩:∃ r,r=ordP x y x' y':=⟨_,rfl⟩
 have HR:Hid (orL [Lib.compareInt y y',Lib.compareInt x x']=r):=hid (by
  rw[hr];unfold ordP;by_cases h:Lib.compareInt y y'=0
  ·simp[orL,h];intro h2;exact h2.symm
  ·simp[orL,h])
 have HR2:=hid hr;clear hr;have C1:=hid (fun w=>cmpCompare y y' w);have C2:=hid (fun w=>cmpCompare x x' w);generalize Lib.compareInt y y'=u at *;generalize Lib.compareInt x x'=v at *;go_enter Tryz.func68,Tryz.ntmps68;go_upto_region 1 with fail
 generalize ((w.alloc (.cells #[.int .i64 x,.int .i64 y] 43)).alloc (.cells #[.int .i64 x',.int .i64 y'] 43))=w2 at *;refine wp_region_J (by kernel_rfl) (fun listed act w'=>∃ b0 b1 b2 b3 b4 b5 b6 b7 b8 b9 b10 b11 b12 v5 v6 v7 v8 v9 v10 v11 v12 v13 v14 v15 v16 v4,listed=#[b0,b1,b2,b3,b4,b5,b6,b7,b8,b9,b10,b11,b12]∧act=Act.mk #[.agg #[.int .i64 x,.int .i64 y],.agg #[.int .i64 x',.int .i64 y'],.pointer (some ⟨w.heap.size,0,none⟩),.pointer (some ⟨w.heap.size+1,0,none⟩),v4,v5,v6,v7,v8,v9,v10,v11,v12,v13,v14,v15,v16] []∧CmpJ w2 w.heap.size (w.heap.size+1) x y x' y' u v r b0 b1 b2 b3 b4 b5 b6 b7 b8 b9 b10 b11 b12 v5 v6 v7 v8 v9 v10 v11 v12 v13 v14 v15 v16 v4 w') ?_ ?_ ?_
 ·exact (e_8 (e_8 (e_8 (e_2 ⟨rfl,rfl,(by constructor;(case below=>exact (Below.refl _ w2).drew);all_goals simp)⟩))))
 ·rintro i listed act w' hi ⟨b0,b1,b2,b3,b4,b5,b6,b7,b8,b9,b10,b11,b12,v5,v6,v7,v8,v9,v10,v11,v12,v13,v14,v15,v16,v4,rfl,rfl,H⟩;have hi16:i < 13:=by
   obtain⟨-,o,ho,-⟩:=mem_ready.1 hi;exact (Array.getElem?_eq_some_iff.1 ho).1
  obtain rfl | rfl | rfl | rfl | rfl | rfl | rfl | rfl | rfl | rfl | rfl | rfl | rfl:i=0∨i=1∨i=2∨i=3∨i=4∨i=5∨i=6∨i=7∨i=8∨i=9∨i=10∨i=11∨i=12:=by omega
  all_goals simp[mem_ready,Region.binds] at hi
  ·refine wpOp_hidden rfl fun K hK=>?_;go_wp2;refine OnlyN.mk (hK.out _ _ (e_8 (e_8 (e_8 (e_2 ⟨rfl,rfl,{ H with h0:=fun _=>rfl }⟩)))))
  ·obtain rfl:=H.h0 (by simp[hi]);have cc:w'.cell? ⟨w.heap.size,1,none⟩=_:=(H.below.cell (p:=⟨w.heap.size,1,none⟩) HS.out.1).trans P1.out;refine wpOp_hidden rfl fun K hK=>?_;go_wp2;refine OnlyN.mk (hK.out _ _ (e_8 (e_8 (e_8 (e_2 ⟨rfl,rfl,{ H with h1:=fun _=>rfl }⟩)))))
  ·refine wpOp_hidden rfl fun K hK=>?_;go_wp2;refine OnlyN.mk (hK.out _ _ (e_8 (e_8 (e_8 (e_2 ⟨rfl,rfl,{ H with h2:=fun _=>rfl }⟩)))))
  ·obtain rfl:=H.h2 (by simp[hi]);have cc:w'.cell? ⟨w.heap.size+1,1,none⟩=_:=(H.below.cell (p:=⟨w.heap.size+1,1,none⟩) HS.out.2).trans Q1.out;refine wpOp_hidden rfl fun K hK=>?_;go_wp2;refine OnlyN.mk (hK.out _ _ (e_8 (e_8 (e_8 (e_2 ⟨rfl,rfl,{ H with h3:=fun _=>rfl }⟩)))))
  ·obtain rfl:=H.h1 (by simp[hi]);obtain rfl:=H.h3 (by simp[hi]);refine wpOp_hidden rfl fun K hK=>?_;go_wp2_with fail;refine (C1.out _).mono ?_;rintro e w9 ⟨rfl,hw9⟩;have hw8:=hw9.symm;clear hw9;subst hw8;go_wp2;refine OnlyN.mk (hK.out _ _ (e_8 (e_8 (e_8 (e_2 ⟨rfl,rfl,{ H with h4:=fun _=>rfl }⟩)))))
  ·refine wpOp_hidden rfl fun K hK=>?_;go_wp2;refine OnlyN.mk (hK.out _ _ (e_8 (e_8 (e_8 (e_2 ⟨rfl,rfl,{ H with h5:=fun _=>rfl }⟩)))))
  ·obtain rfl:=H.h5 (by simp[hi]);have cc:w'.cell? ⟨w.heap.size,0,none⟩=_:=(H.below.cell (p:=⟨w.heap.size,0,none⟩) HS.out.1).trans P0.out;refine wpOp_hidden rfl fun K hK=>?_;go_wp2;refine OnlyN.mk (hK.out _ _ (e_8 (e_8 (e_8 (e_2 ⟨rfl,rfl,{ H with h6:=fun _=>rfl }⟩)))))
  ·refine wpOp_hidden rfl fun K hK=>?_;go_wp2;refine OnlyN.mk (hK.out _ _ (e_8 (e_8 (e_8 (e_2 ⟨rfl,rfl,{ H with h7:=fun _=>rfl }⟩)))))
  ·obtain rfl:=H.h7 (by simp[hi]);have cc:w'.cell? ⟨w.heap.size+1,0,none⟩=_:=(H.below.cell (p:=⟨w.heap.size+1,0,none⟩) HS.out.2).trans Q0.out;refine wpOp_hidden rfl fun K hK=>?_;go_wp2;refine OnlyN.mk (hK.out _ _ (e_8 (e_8 (e_8 (e_2 ⟨rfl,rfl,{ H with h8:=fun _=>rfl }⟩)))))
  ·obtain rfl:=H.h6 (by simp[hi]);obtain rfl:=H.h8 (by simp[hi]);refine wpOp_hidden rfl fun K hK=>?_;go_wp2_with fail;refine (C2.out _).mono ?_;rintro e w9 ⟨rfl,hw9⟩;have hw8:=hw9.symm;clear hw9;subst hw8;go_wp2;refine OnlyN.mk (hK.out _ _ (e_8 (e_8 (e_8 (e_2 ⟨rfl,rfl,{ H with h9:=fun _=>rfl }⟩)))))
  ·obtain rfl:=H.h4 (by simp[hi]);obtain rfl:=H.h9 (by simp[hi]);have HA:=hid (H.world (below_new w' (.cells #[.int .i64 u,.int .i64 v] 3)));have HI:=hid (ints_new w' [u,v] (by simp) (by simp));have HH:=hid H;clear H;refine wpOp_hidden rfl fun K hK=>?_;go_wp2;refine OnlyN.mk (hK.out _ _ (e_8 (e_8 (e_8 (e_2 ⟨rfl,rfl,⟨HA.out.below,HA.out.h0,HA.out.h1,HA.out.h2,HA.out.h3,HA.out.h4,HA.out.h5,HA.out.h6,HA.out.h7,HA.out.h8,HA.out.h9,fun _=>⟨w'.heap.size,rfl,HI.out⟩,HA.out.h11,HA.out.h12⟩⟩)))))
  ·obtain⟨g,rfl,hg⟩:=H.h10 (by simp[hi]);have HO:=hid (cmpOr_any (some ⟨g,0,none⟩) 2 [u,v] w' hg);rw[HR.out] at HO;clear hg;refine wpOp_hidden rfl fun K hK=>?_;go_wp2_with fail;refine HO.out.mono ?_;rintro e w9 ⟨rfl,hw9⟩;have hw8:=hw9.symm;clear hw9;subst hw8;go_wp2;refine OnlyN.mk (hK.out _ _ (e_8 (e_8 (e_8 (e_2 ⟨rfl,rfl,{ H with h11:=fun _=>rfl }⟩)))))
  ·obtain rfl:=H.h11 (by simp[hi]);refine wpOp_hidden rfl fun K hK=>?_;go_wp2;refine OnlyN.mk (hK.out _ _ (e_8 (e_8 (e_8 (e_2 ⟨rfl,rfl,{ H with h12:=fun _=>rfl }⟩)))))
 ·rintro listed act w' hr ⟨b0,b1,b2,b3,b4,b5,b6,b7,b8,b9,b10,b11,b12,v5,v6,v7,v8,v9,v10,v11,v12,v13,v14,v15,v16,v4,rfl,rfl,H⟩;have hn:=List.eq_nil_iff_forall_not_mem.1 hr;have r0:=hn 0;simp[mem_ready,Region.binds] at r0;subst r0;have r1:=hn 1;simp[mem_ready,Region.binds] at r1;subst r1;have r2:=hn 2;simp[mem_ready,Region.binds] at r2;subst r2;have r3:=hn 3;simp[mem_ready,Region.binds] at r3;subst r3;have r4:=hn 4;simp[mem_ready,Region.binds] at r4;subst r4;have r5:=hn 5;simp[mem_ready,Region.binds] at r5;subst r5;have r6:=hn 6;simp[mem_ready,Region.binds] at r6;subst r6;have r7:=hn 7;simp[mem_ready,Region.binds] at r7;subst r7;have r8:=hn 8;simp[mem_ready,Region.binds] at r8;subst r8;have r9:=hn 9;simp[mem_ready,Region.binds] at r9;subst r9;have r10:=hn 10;simp[mem_ready,Region.binds] at r10;subst r10;have r11:=hn 11;simp[mem_ready,Region.binds] at r11;subst r11;have r12:=hn 12;simp[mem_ready,Region.binds] at r12;subst r12;obtain rfl:=H.h12 rfl;go_wp2_with fail;go_ret;exact⟨ret_int HR2.out,HB.out.trans (H.below.mono HB.out.size)⟩


def rngB (p:Int × Int):Bool:=decide (-2≤p.1) && decide (p.1≤2) && decide (-2≤p.2) && decide (p.2≤2)
def okH (q:Option (Int × Int))(p:Int × Int):Bool:=rngB p && (match q with | none=>true | some a=>decide (ordP a.1 a.2 p.1 p.2 < 0))
def chainH:Option (Int × Int)→List (Int × Int)→Bool
 | _,[]=>true
 | q,p :: l=>okH q p && chainH (some p) l
def hoodB (ps:List (Int × Int)):Bool:=decide (1≤ps.length) && decide (ps.length≤25) && chainH none ps
def prevH (ps:List (Int × Int)):Nat→Option (Int × Int)
 | 0=>none
 | k+1=>ps[k]?
theorem chainH_yes {ps:List (Int × Int)}{k:Nat}(h:k < ps.length)(hd:okH (prevH ps k) ps[k]=true):chainH (prevH ps k) (ps.drop k)=chainH (prevH ps (k+1)) (ps.drop (k+1)):=by
 rw[List.drop_eq_getElem_cons h];show (okH (prevH ps k) ps[k] && chainH (some ps[k]) (ps.drop (k+1)))=chainH ps[k]? (ps.drop (k+1));rw[hd,List.getElem?_eq_getElem h,Bool.true_and]
theorem chainH_no {ps:List (Int × Int)}{k:Nat}(h:k < ps.length)(hd:okH (prevH ps k) ps[k]=false):chainH (prevH ps k) (ps.drop k)=false:=by
 rw[List.drop_eq_getElem_cons h];show (okH (prevH ps k) ps[k] && chainH (some ps[k]) (ps.drop (k+1)))=false;rw[hd,Bool.false_and]
set_option maxHeartbeats 16000000 in
theorem hood_any (A:Option Addr)(c:Nat)(ps:List (Int × Int))(w:World)(ha:Pts w A ps) :
  Calls Tryz.prog 27 #[.slice A ps.length c] w fun e w'=>e=.returned (.bool (hoodB ps))∧Below w.heap.size w w':=by
 have hn:=ha.le;by_cases h1:ps.length < 1
 ·have d1:decide ((ps.length:Int) < 1)=true:=decide_eq_true (by omega);have HE:Hid (hoodB ps=false):=hid (by unfold hoodB;rw[decide_eq_false (by omega:¬ 1≤ps.length)];rfl);clear h1;go_enter Tryz.func27,Tryz.ntmps27;go_wp2;go_ret;exact⟨ret_bool (by rw[HE.out] <;> rfl),Below.refl _ _⟩
 have d1:decide ((ps.length:Int) < 1)=false:=decide_eq_false (by omega);by_cases h2:25 < ps.length
 ·have d2:decide ((25:Int) < (ps.length:Int))=true:=decide_eq_true (by omega);have HE:Hid (hoodB ps=false):=hid (by unfold hoodB;rw[decide_eq_false (by omega:¬ ps.length≤25),Bool.and_false];rfl);clear h1 h2;go_enter Tryz.func27,Tryz.ntmps27;go_wp2;go_ret;exact⟨ret_bool (by rw[HE.out] <;> rfl),Below.refl _ _⟩
 have d2:decide ((25:Int) < (ps.length:Int))=false:=decide_eq_false (by omega);have HL:=hid (show 1≤ps.length∧ps.length≤25 by omega);have HE:Hid (hoodB ps=chainH none ps):=hid (by unfold hoodB;rw[decide_eq_true HL.out.1,decide_eq_true HL.out.2];rfl);have HA:=hid ha;clear h1 h2 ha;go_enter Tryz.func27,Tryz.ntmps27;go_wp2;go_loopw [15] (fun i wr=>∃ k:Nat,k≤ps.length∧i=.int .i64 k∧Hid (Below w.heap.size w wr)∧Hid (chainH none ps=chainH (prevH ps k) (ps.drop k))) (fun i _=>ps.length - (intOf i).toNat)
 case atStart=>exact⟨0,Nat.zero_le _,rfl,hid (Below.refl _ _),hid rfl⟩
 case round=>
  obtain⟨k,hk,rfl,HB,HT⟩:=hrel;by_cases hlt:k < ps.length
  ·obtain⟨b1,o1,e1,hb1,hc0,hc1⟩:=(HA.out.ext HB.out).at_ hlt;have hpre:0 < k→wr.cell? ⟨b1,o1+(k - 1)*2,none⟩=some (.int .i64 (ps[k - 1]'(by omega)).1)∧wr.cell? ⟨b1,o1+(k - 1)*2+1,none⟩=some (.int .i64 (ps[k - 1]'(by omega)).2):=fun h=>by
    obtain⟨b1',o1',e1',-,h0,h1⟩:=(HA.out.ext HB.out).at_ (k:=k - 1) (by omega);rw[e1] at e1';injection e1' with e1'
    injection e1' with e2 e3
    subst e2 e3;exact⟨h0,h1⟩
   obtain⟨cx,hcx⟩:∃ cx,cx=ps[k]:=⟨_,rfl⟩
   rw[← hcx] at hc0 hc1;have HCX:=hid hcx;have HPRE:=hid hpre;have HLT:=hid hlt;obtain⟨x,y⟩:=cx;dsimp only at hc0 hc1;have hw1:wrap64 ((k:Int)+1)=(k:Int)+1:=by have:=HL.out;unfold wrap64;omega
   obtain⟨wb,hwb⟩:∃ wb,wb=wr.alloc (.cells #[.int .i64 x,.int .i64 y] 43):=⟨_,rfl⟩
   have hnb:=below_new wr (.cells #[.int .i64 x,.int .i64 y] 43);have p0:=Blk.new wr 43 #[.int .i64 x,.int .i64 y];rw[← hwb] at hnb p0;have P0:=cell_regrown (p0.cell_ 0 (.int .i64 x) rfl);have P1:=cell_regrown (p0.cell_ 1 (.int .i64 y) rfl);have HB2:=hid (HB.out.trans (hnb.mono HB.out.size));have HW:=hid hwb;have HNB:=hid hnb;clear hcx hpre p0 hnb hwb hk;by_cases a1:x < -2
   ·have e1d:decide (x < -2)=true:=decide_eq_true a1;have HF:Hid (chainH none ps=false):=hid (by rw[HT.out];exact chainH_no HLT.out (by rw[← HCX.out];unfold okH rngB;dsimp only;rw[decide_eq_false (by omega:¬ -2≤x)] <;> rfl));subst e1;go_upto_region 6 with fail
    rw[← HW.out];refine wp_region_quiet_below (by kernel_rfl) (by kernel_rfl) ?_;repeat (go_big_quiet_step (fail))
    refine wpQuiet_nil ?_;intro _ hw';obtain⟨⟨dq,osq⟩,hw''⟩:=hw';subst hw'';go_wp2;go_ret;exact⟨ret_bool (by rw[HE.out,HF.out] <;> rfl),HB2.out.trans ((below_regrown wb dq osq).mono HB2.out.size)⟩
   have f1:decide (x < -2)=false:=decide_eq_false a1;by_cases a2:2 < x
   ·have e2d:decide (2 < x)=true:=decide_eq_true a2;have HF:Hid (chainH none ps=false):=hid (by rw[HT.out];exact chainH_no HLT.out (by rw[← HCX.out];unfold okH rngB;dsimp only;rw[decide_eq_false (by omega:¬ x≤2)];simp));subst e1;go_upto_region 6 with fail
    rw[← HW.out];refine wp_region_quiet_below (by kernel_rfl) (by kernel_rfl) ?_;repeat (go_big_quiet_step (fail))
    refine wpQuiet_nil ?_;intro _ hw';obtain⟨⟨dq,osq⟩,hw''⟩:=hw';subst hw'';go_wp2;go_ret;exact⟨ret_bool (by rw[HE.out,HF.out] <;> rfl),HB2.out.trans ((below_regrown wb dq osq).mono HB2.out.size)⟩
   have f2:decide (2 < x)=false:=decide_eq_false a2;by_cases a3:y < -2
   ·have e3d:decide (y < -2)=true:=decide_eq_true a3;have HF:Hid (chainH none ps=false):=hid (by rw[HT.out];exact chainH_no HLT.out (by rw[← HCX.out];unfold okH rngB;dsimp only;rw[decide_eq_false (by omega:¬ -2≤y)];simp));subst e1;go_upto_region 6 with fail
    rw[← HW.out];refine wp_region_quiet_below (by kernel_rfl) (by kernel_rfl) ?_;repeat (go_big_quiet_step (fail))
    refine wpQuiet_nil ?_;intro _ hw';obtain⟨⟨dq,osq⟩,hw''⟩:=hw';subst hw'';go_wp2;go_ret;exact⟨ret_bool (by rw[HE.out,HF.out] <;> rfl),HB2.out.trans ((below_regrown wb dq osq).mono HB2.out.size)⟩
   have f3:decide (y < -2)=false:=decide_eq_false a3;by_cases a4:2 < y
   ·have e4d:decide (2 < y)=true:=decide_eq_true a4;have HF:Hid (chainH none ps=false):=hid (by rw[HT.out];exact chainH_no HLT.out (by rw[← HCX.out];unfold okH rngB;dsimp only;rw[decide_eq_false (by omega:¬ y≤2)];simp));subst e1;go_upto_region 6 with fail
    rw[← HW.out];refine wp_region_quiet_below (by kernel_rfl) (by kernel_rfl) ?_;repeat (go_big_quiet_step (fail))
    refine wpQuiet_nil ?_;intro _ hw';obtain⟨⟨dq,osq⟩,hw''⟩:=hw';subst hw'';go_wp2;go_ret;exact⟨ret_bool (by rw[HE.out,HF.out] <;> rfl),HB2.out.trans ((below_regrown wb dq osq).mono HB2.out.size)⟩
   have f4:decide (2 < y)=false:=decide_eq_false a4;have HR:Hid (rngB (x,y)=true):=hid (by unfold rngB;dsimp only;rw[decide_eq_true (by omega:-2≤x),decide_eq_true (by omega:x≤2),decide_eq_true (by omega:-2≤y),decide_eq_true (by omega:y≤2)];rfl);by_cases hk0:0 < k
   ·obtain⟨k1,rfl⟩:∃ k1,k=k1+1:=⟨k - 1,by omega⟩
    obtain⟨q0,q1⟩:=HPRE.out hk0;simp only[Nat.add_sub_cancel] at q0 q1;have hw1':wrap64 ((k1:Int)+1+1)=(k1:Int)+1+1:=by have:=HL.out;unfold wrap64;omega
    have hwk:wrap64 ((k1:Int)+1 - 1)=k1:=by have:=HL.out;unfold wrap64;omega
    have hwk2:wrap64 (k1:Int)=k1:=by have:=HL.out;unfold wrap64;omega
    have hprev:prevH ps (k1+1)=some (ps[k1]'(by omega)):=List.getElem?_eq_getElem (by omega);obtain⟨qx,hqx⟩:∃ qx,qx=ps[k1]'(by omega):=⟨_,rfl⟩
    rw[← hqx] at q0 q1 hprev;obtain⟨x',y'⟩:=qx;dsimp only at q0 q1;have hk1l:k1 < ps.length:=by omega
    have HPV:=hid hprev;have Q0:=cell_regrown (w:=wb) (v:=.int .i64 x') (a:=⟨b1,o1+k1*2,none⟩) ((HNB.out.cell hb1).trans q0);have Q1:=cell_regrown (w:=wb) (v:=.int .i64 y') (a:=⟨b1,o1+k1*2+1,none⟩) ((HNB.out.cell hb1).trans q1);have cC:=fun d os=>Calls.regrown_of (w:=wb) (d:=d) (os:=os) (compare_any x' y' x y _);unfold ptV at cC;have CC:=hid cC;clear cC q0 q1 hprev hqx hk0 a1 a2 a3 a4;by_cases hcm:ordP x' y' x y < 0
    ·have g2:decide ((0:Int)≤ordP x' y' x y)=false:=decide_eq_false (by omega);have HOK:Hid (chainH (prevH ps (k1+1)) (ps.drop (k1+1))=chainH (prevH ps (k1+1+1)) (ps.drop (k1+1+1))):=hid (chainH_yes HLT.out (by rw[HPV.out,← HCX.out];unfold okH;rw[HR.out];simpa using hcm));obtain⟨od,hod⟩:∃ od,od=ordP x' y' x y:=⟨_,rfl⟩
     rw[← hod] at CC g2;clear hcm hod;subst e1;go_upto_region 6 with fail
     rw[← HW.out];refine wp_region_quiet_below (by kernel_rfl) (by kernel_rfl) ?_;repeat (go_big_quiet_step (with_reducible exact CC.out _ _))
     refine wpQuiet_nil ?_;intro _ hw';obtain⟨⟨dq,osq⟩,hw''⟩:=hw';subst hw'';go_wp2;go_roundw
     case rel=>exact⟨k1+1+1,HLT.out,rfl,hid (HB2.out.trans ((below_regrown wb dq osq).mono HB2.out.size)),hid (HT.out.trans HOK.out)⟩
     case measure=>have:=HLT.out;simp[intOf];omega
    ·have g2:decide ((0:Int)≤ordP x' y' x y)=true:=decide_eq_true (by omega);have HF:Hid (chainH none ps=false):=hid (by rw[HT.out];exact chainH_no HLT.out (by rw[HPV.out,← HCX.out];unfold okH;rw[HR.out];simpa using hcm));obtain⟨od,hod⟩:∃ od,od=ordP x' y' x y:=⟨_,rfl⟩
     rw[← hod] at CC g2;clear hcm hod;subst e1;go_upto_region 6 with fail
     rw[← HW.out];refine wp_region_quiet_below (by kernel_rfl) (by kernel_rfl) ?_;repeat (go_big_quiet_step (with_reducible exact CC.out _ _))
     refine wpQuiet_nil ?_;intro _ hw';obtain⟨⟨dq,osq⟩,hw''⟩:=hw';subst hw'';go_wp2;go_ret;exact⟨ret_bool (by rw[HE.out,HF.out] <;> rfl),HB2.out.trans ((below_regrown wb dq osq).mono HB2.out.size)⟩
   ·obtain rfl:k=0:=by omega
    have HOK:Hid (chainH (prevH ps 0) (ps.drop 0)=chainH (prevH ps (0+1)) (ps.drop (0+1))):=hid (chainH_yes HLT.out (by rw[← HCX.out];unfold okH;rw[HR.out];rfl));simp only[Nat.zero_mul,Nat.add_zero] at hc0 hc1;clear a1 a2 a3 a4 hk0;subst e1;go_upto_region 6 with fail
    rw[← HW.out];refine wp_region_quiet_below (by kernel_rfl) (by kernel_rfl) ?_;repeat (go_big_quiet_step (fail))
    refine wpQuiet_nil ?_;intro _ hw';obtain⟨⟨dq,osq⟩,hw''⟩:=hw';subst hw'';go_wp2;go_roundw
    case rel=>exact⟨0+1,HLT.out,rfl,hid (HB2.out.trans ((below_regrown wb dq osq).mono HB2.out.size)),hid (HT.out.trans HOK.out)⟩
    case measure=>have:=HLT.out;simp[intOf];omega
  ·have HF:Hid (chainH none ps=true):=hid (by
    have h:=HT.out;rw[List.drop_of_length_le (by omega)] at h;exact h)
   go_wp2;go_ret;exact⟨ret_bool (by rw[HE.out,HF.out] <;> rfl),HB.out⟩
end Go.Proofs.YtcmbdhopmncmnaaGreatDoor
namespace Go.Proofs.YtcmbdhopmncmnaaGreatDoor
set_option linter.unusedSimpArgs false
set_option linter.unusedVariables false
open Go.RowKit
theorem take_eq_snoc {α:Type}{xs ys:List α}{k:Nat}(h:xs.take k=ys.take k)(h1:k < xs.length)(h2:k < ys.length)(h3:xs[k]=ys[k]):xs.take (k+1)=ys.take (k+1):=by
 rw[List.take_succ_eq_append_getElem h1,List.take_succ_eq_append_getElem h2,h,h3]
set_option maxRecDepth 100000
theorem Tryz.stood_pt:Tryz.prog.stoodInHeld 43=false:=by kernel_rfl
theorem Tryz.guard_pt:Tryz.prog.eqGuardType Tryz.prog.depth 43=false:=by kernel_rfl
theorem neq_pt (a b c d:Int)(w:World):(binOp .neq 43 (.agg #[.int .i64 a,.int .i64 b]) (.agg #[.int .i64 c,.int .i64 d])).run Tryz.prog w=.ok (.bool (ptNe a b c d)) w:=by
 have h1:=Tryz.stood_pt;simp[go_sem,h1];unfold ptNe;by_cases h2:a=c <;> by_cases h3:b=d <;> simp[h2,h3]
theorem eql_pt (a b c d:Int)(w:World):(binOp .eql 43 (.agg #[.int .i64 a,.int .i64 b]) (.agg #[.int .i64 c,.int .i64 d])).run Tryz.prog w=.ok (.bool (ptEq a b c d)) w:=by
 have h1:=Tryz.stood_pt;simp[go_sem,h1];unfold ptEq;by_cases h2:a=c <;> by_cases h3:b=d <;> simp[h2,h3]
end Go.Proofs.YtcmbdhopmncmnaaGreatDoor
namespace Go.Proofs.YtcmbdhopmncmnaaGreatDoor
open Lib(hid)
open Go.RowKit
set_option maxRecDepth 100000
set_option linter.unusedVariables false
set_option linter.unusedSimpArgs false

theorem bef_ord (x' y' x y:Int):(decide (y' < y) || (y' == y && decide (x' < x)))=decide (ordP x' y' x y < 0):=by
 unfold ordP Lib.compareInt;by_cases h1:y' < y
 ·simp[h1]
 ·by_cases h2:y'=y
  ·subst h2;by_cases h3:x' < x
   ·simp[h3]
   ·by_cases h4:x' > x
    ·simp[h3,h4]
    ·simp[h3,h4]
  ·have h3:y' > y:=by omega
   have h4:¬ y' < y:=h1;simp[h1,h2,h3]
set_option maxHeartbeats 1000000 in
theorem rbefore_any (x' y' x y:Int)(w:World):Calls Tryz.prog 71 #[ptV x' y',ptV x y] w fun e w'=>e=.returned (.bool (decide (ordP x' y' x y < 0)))∧Below w.heap.size w w':=by
 rw[← bef_ord];unfold ptV;by_cases h1:y' < y
 ·have d1:decide (y' < y)=true:=decide_eq_true h1;rw[d1,Bool.true_or];clear h1;go_enter Tryz.func71,Tryz.ntmps71;go_wp2;go_ret;exact⟨rfl,(below_new w _).alloc (below_new w _).size _⟩
 ·have d1:decide (y' < y)=false:=decide_eq_false h1;rw[d1,Bool.false_or];by_cases h2:y'=y
  ·have e2:(y' == y)=true:=by simp[h2]
   rw[e2,Bool.true_and];clear h1 h2;go_enter Tryz.func71,Tryz.ntmps71;go_wp2;go_ret;exact⟨rfl,(below_new w _).alloc (below_new w _).size _⟩
  ·have e2:(y' == y)=false:=by simpa using h2
   rw[e2,Bool.false_and];clear h1 h2;go_enter Tryz.func71,Tryz.ntmps71;go_wp2;go_ret;exact⟨rfl,(below_new w _).alloc (below_new w _).size _⟩
set_option maxHeartbeats 16000000 in
theorem rhood_any (A:Option Addr)(c:Nat)(ps:List (Int × Int))(w:World)(ha:Pts w A ps) :
  Calls Tryz.prog 31 #[.slice A ps.length c] w fun e w'=>e=.returned (.bool (hoodB ps))∧Below w.heap.size w w':=by
 have hn:=ha.le;by_cases h1:ps.length < 1
 ·have d1:decide ((ps.length:Int) < 1)=true:=decide_eq_true (by omega);have HE:Hid (hoodB ps=false):=hid (by unfold hoodB;rw[decide_eq_false (by omega:¬ 1≤ps.length)];rfl);clear h1;go_enter Tryz.func31,Tryz.ntmps31;go_wp2;go_ret;exact⟨ret_bool (by rw[HE.out] <;> rfl),Below.refl _ _⟩
 have d1:decide ((ps.length:Int) < 1)=false:=decide_eq_false (by omega);by_cases h2:25 < ps.length
 ·have d2:decide ((25:Int) < (ps.length:Int))=true:=decide_eq_true (by omega);have HE:Hid (hoodB ps=false):=hid (by unfold hoodB;rw[decide_eq_false (by omega:¬ ps.length≤25),Bool.and_false];rfl);clear h1 h2;go_enter Tryz.func31,Tryz.ntmps31;go_wp2;go_ret;exact⟨ret_bool (by rw[HE.out] <;> rfl),Below.refl _ _⟩
 have d2:decide ((25:Int) < (ps.length:Int))=false:=decide_eq_false (by omega);have HL:=hid (show 1≤ps.length∧ps.length≤25 by omega);have HE:Hid (hoodB ps=chainH none ps):=hid (by unfold hoodB;rw[decide_eq_true HL.out.1,decide_eq_true HL.out.2];rfl);have HA:=hid ha;clear h1 h2 ha;go_enter Tryz.func31,Tryz.ntmps31;go_wp2;go_loopw [3] (fun i wr=>∃ k:Nat,k≤ps.length∧i=.int .i64 k∧Hid (Below w.heap.size w wr)∧Hid (chainH none ps=chainH (prevH ps k) (ps.drop k))) (fun i _=>ps.length - (intOf i).toNat)
 case atStart=>exact⟨0,Nat.zero_le _,rfl,hid (Below.refl _ _),hid rfl⟩
 case round=>
  obtain⟨k,hk,rfl,HB,HT⟩:=hrel;by_cases hlt:k < ps.length
  ·obtain⟨b1,o1,e1,hb1,hc0,hc1⟩:=(HA.out.ext HB.out).at_ hlt;have hpre:0 < k→wr.cell? ⟨b1,o1+(k - 1)*2,none⟩=some (.int .i64 (ps[k - 1]'(by omega)).1)∧wr.cell? ⟨b1,o1+(k - 1)*2+1,none⟩=some (.int .i64 (ps[k - 1]'(by omega)).2):=fun h=>by
    obtain⟨b1',o1',e1',-,h0,h1⟩:=(HA.out.ext HB.out).at_ (k:=k - 1) (by omega);rw[e1] at e1';injection e1' with e1'
    injection e1' with e2 e3
    subst e2 e3;exact⟨h0,h1⟩
   obtain⟨cx,hcx⟩:∃ cx,cx=ps[k]:=⟨_,rfl⟩
   rw[← hcx] at hc0 hc1;have HCX:=hid hcx;have HPRE:=hid hpre;have HLT:=hid hlt;obtain⟨x,y⟩:=cx;dsimp only at hc0 hc1;have hw1:wrap64 ((k:Int)+1)=(k:Int)+1:=by have:=HL.out;unfold wrap64;omega
   obtain⟨wb,hwb⟩:∃ wb,wb=wr.alloc (.cells #[.int .i64 x,.int .i64 y] 43):=⟨_,rfl⟩
   have hnb:=below_new wr (.cells #[.int .i64 x,.int .i64 y] 43);have p0:=Blk.new wr 43 #[.int .i64 x,.int .i64 y];rw[← hwb] at hnb p0;have P0:=cell_regrown (p0.cell_ 0 (.int .i64 x) rfl);have P1:=cell_regrown (p0.cell_ 1 (.int .i64 y) rfl);have HB2:=hid (HB.out.trans (hnb.mono HB.out.size));have HW:=hid hwb;have HNB:=hid hnb;clear hcx hpre p0 hnb hwb hk;by_cases a1:x < -2
   ·have e1d:decide (x < -2)=true:=decide_eq_true a1;have HF:Hid (chainH none ps=false):=hid (by rw[HT.out];exact chainH_no HLT.out (by rw[← HCX.out];unfold okH rngB;dsimp only;rw[decide_eq_false (by omega:¬ -2≤x)] <;> rfl));subst e1;go_upto_region 7 with fail
    rw[← HW.out];refine wp_region_quiet_below (by kernel_rfl) (by kernel_rfl) ?_;repeat (go_big_quiet_step (fail))
    refine wpQuiet_nil ?_;intro _ hw';obtain⟨⟨dq,osq⟩,hw''⟩:=hw';subst hw'';go_wp2;go_ret;exact⟨ret_bool (by rw[HE.out,HF.out] <;> rfl),HB2.out.trans ((below_regrown wb dq osq).mono HB2.out.size)⟩
   have f1:decide (x < -2)=false:=decide_eq_false a1;by_cases a2:2 < x
   ·have e2d:decide (2 < x)=true:=decide_eq_true a2;have HF:Hid (chainH none ps=false):=hid (by rw[HT.out];exact chainH_no HLT.out (by rw[← HCX.out];unfold okH rngB;dsimp only;rw[decide_eq_false (by omega:¬ x≤2)];simp));subst e1;go_upto_region 7 with fail
    rw[← HW.out];refine wp_region_quiet_below (by kernel_rfl) (by kernel_rfl) ?_;repeat (go_big_quiet_step (fail))
    refine wpQuiet_nil ?_;intro _ hw';obtain⟨⟨dq,osq⟩,hw''⟩:=hw';subst hw'';go_wp2;go_ret;exact⟨ret_bool (by rw[HE.out,HF.out] <;> rfl),HB2.out.trans ((below_regrown wb dq osq).mono HB2.out.size)⟩
   have f2:decide (2 < x)=false:=decide_eq_false a2;by_cases a3:y < -2
   ·have e3d:decide (y < -2)=true:=decide_eq_true a3;have HF:Hid (chainH none ps=false):=hid (by rw[HT.out];exact chainH_no HLT.out (by rw[← HCX.out];unfold okH rngB;dsimp only;rw[decide_eq_false (by omega:¬ -2≤y)];simp));subst e1;go_upto_region 7 with fail
    rw[← HW.out];refine wp_region_quiet_below (by kernel_rfl) (by kernel_rfl) ?_;repeat (go_big_quiet_step (fail))
    refine wpQuiet_nil ?_;intro _ hw';obtain⟨⟨dq,osq⟩,hw''⟩:=hw';subst hw'';go_wp2;go_ret;exact⟨ret_bool (by rw[HE.out,HF.out] <;> rfl),HB2.out.trans ((below_regrown wb dq osq).mono HB2.out.size)⟩
   have f3:decide (y < -2)=false:=decide_eq_false a3;by_cases a4:2 < y
   ·have e4d:decide (2 < y)=true:=decide_eq_true a4;have HF:Hid (chainH none ps=false):=hid (by rw[HT.out];exact chainH_no HLT.out (by rw[← HCX.out];unfold okH rngB;dsimp only;rw[decide_eq_false (by omega:¬ y≤2)];simp));subst e1;go_upto_region 7 with fail
    rw[← HW.out];refine wp_region_quiet_below (by kernel_rfl) (by kernel_rfl) ?_;repeat (go_big_quiet_step (fail))
    refine wpQuiet_nil ?_;intro _ hw';obtain⟨⟨dq,osq⟩,hw''⟩:=hw';subst hw'';go_wp2;go_ret;exact⟨ret_bool (by rw[HE.out,HF.out] <;> rfl),HB2.out.trans ((below_regrown wb dq osq).mono HB2.out.size)⟩
   have f4:decide (2 < y)=false:=decide_eq_false a4;have HR:Hid (rngB (x,y)=true):=hid (by unfold rngB;dsimp only;rw[decide_eq_true (by omega:-2≤x),decide_eq_true (by omega:x≤2),decide_eq_true (by omega:-2≤y),decide_eq_true (by omega:y≤2)];rfl);by_cases hk0:0 < k
   ·obtain⟨k1,rfl⟩:∃ k1,k=k1+1:=⟨k - 1,by omega⟩
    obtain⟨q0,q1⟩:=HPRE.out hk0;simp only[Nat.add_sub_cancel] at q0 q1;have hw1':wrap64 ((k1:Int)+1+1)=(k1:Int)+1+1:=by have:=HL.out;unfold wrap64;omega
    have hwk:wrap64 ((k1:Int)+1 - 1)=k1:=by have:=HL.out;unfold wrap64;omega
    have hwk2:wrap64 (k1:Int)=k1:=by have:=HL.out;unfold wrap64;omega
    have hprev:prevH ps (k1+1)=some (ps[k1]'(by omega)):=List.getElem?_eq_getElem (by omega);obtain⟨qx,hqx⟩:∃ qx,qx=ps[k1]'(by omega):=⟨_,rfl⟩
    rw[← hqx] at q0 q1 hprev;obtain⟨x',y'⟩:=qx;dsimp only at q0 q1;have hk1l:k1 < ps.length:=by omega
    have HPV:=hid hprev;have Q0:=cell_regrown (w:=wb) (v:=.int .i64 x') (a:=⟨b1,o1+k1*2,none⟩) ((HNB.out.cell hb1).trans q0);have Q1:=cell_regrown (w:=wb) (v:=.int .i64 y') (a:=⟨b1,o1+k1*2+1,none⟩) ((HNB.out.cell hb1).trans q1);have cC:=fun d os=>Calls.regrown_of (w:=wb) (d:=d) (os:=os) (rbefore_any x' y' x y _);unfold ptV at cC;have CC:=hid cC;clear cC q0 q1 hprev hqx hk0 a1 a2 a3 a4;by_cases hcm:ordP x' y' x y < 0
    ·have g2:decide ((0:Int)≤ordP x' y' x y)=false:=decide_eq_false (by omega);have HOK:Hid (chainH (prevH ps (k1+1)) (ps.drop (k1+1))=chainH (prevH ps (k1+1+1)) (ps.drop (k1+1+1))):=hid (chainH_yes HLT.out (by rw[HPV.out,← HCX.out];unfold okH;rw[HR.out];simpa using hcm));simp only[decide_eq_true hcm] at CC;clear hcm g2;subst e1;go_upto_region 7 with fail
     rw[← HW.out];refine wp_region_quiet_below (by kernel_rfl) (by kernel_rfl) ?_;repeat (go_big_quiet_step (with_reducible exact CC.out _ _))
     refine wpQuiet_nil ?_;intro _ hw';obtain⟨⟨dq,osq⟩,hw''⟩:=hw';subst hw'';go_wp2;go_roundw
     case rel=>exact⟨k1+1+1,HLT.out,rfl,hid (HB2.out.trans ((below_regrown wb dq osq).mono HB2.out.size)),hid (HT.out.trans HOK.out)⟩
     case measure=>have:=HLT.out;simp[intOf];omega
    ·have g2:decide ((0:Int)≤ordP x' y' x y)=true:=decide_eq_true (by omega);have HF:Hid (chainH none ps=false):=hid (by rw[HT.out];exact chainH_no HLT.out (by rw[HPV.out,← HCX.out];unfold okH;rw[HR.out];simpa using hcm));simp only[decide_eq_false hcm] at CC;clear hcm g2;subst e1;go_upto_region 7 with fail
     rw[← HW.out];refine wp_region_quiet_below (by kernel_rfl) (by kernel_rfl) ?_;repeat (go_big_quiet_step (with_reducible exact CC.out _ _))
     refine wpQuiet_nil ?_;intro _ hw';obtain⟨⟨dq,osq⟩,hw''⟩:=hw';subst hw'';go_wp2;go_ret;exact⟨ret_bool (by rw[HE.out,HF.out] <;> rfl),HB2.out.trans ((below_regrown wb dq osq).mono HB2.out.size)⟩
   ·obtain rfl:k=0:=by omega
    have HOK:Hid (chainH (prevH ps 0) (ps.drop 0)=chainH (prevH ps (0+1)) (ps.drop (0+1))):=hid (chainH_yes HLT.out (by rw[← HCX.out];unfold okH;rw[HR.out];rfl));simp only[Nat.zero_mul,Nat.add_zero] at hc0 hc1;clear a1 a2 a3 a4 hk0;subst e1;go_upto_region 7 with fail
    rw[← HW.out];refine wp_region_quiet_below (by kernel_rfl) (by kernel_rfl) ?_;repeat (go_big_quiet_step (fail))
    refine wpQuiet_nil ?_;intro _ hw';obtain⟨⟨dq,osq⟩,hw''⟩:=hw';subst hw'';go_wp2;go_roundw
    case rel=>exact⟨0+1,HLT.out,rfl,hid (HB2.out.trans ((below_regrown wb dq osq).mono HB2.out.size)),hid (HT.out.trans HOK.out)⟩
    case measure=>have:=HLT.out;simp[intOf];omega
  ·have HF:Hid (chainH none ps=true):=hid (by
    have h:=HT.out;rw[List.drop_of_length_le (by omega)] at h;exact h)
   go_wp2;go_ret;exact⟨ret_bool (by rw[HE.out,HF.out] <;> rfl),HB.out⟩
end Go.Proofs.YtcmbdhopmncmnaaGreatDoor
namespace Go.Proofs.YtcmbdhopmncmnaaGreatDoor
set_option linter.unusedSimpArgs false
open Go.RowKit
set_option linter.unusedVariables false

def fI {α:Type}(p:α→Bool):List α→Nat→Int
 | [],_=>-1
 | z :: r,k=>if p z then (k:Int) else fI p r (k+1)
theorem fI_any {α:Type}(p:α→Bool):∀ (l:List α)(k:Nat),decide (0≤fI p l k)=l.any p
 | [],k=>rfl
 | z :: r,k=>by
  unfold fI;rw[List.any_cons];cases h:p z with
  | true=>simp
  | false=>simp[fI_any p r (k+1)]
theorem fI_step {α:Type}(p:α→Bool){l:List α}{k:Nat}(h:k < l.length):fI p (l.drop k) k=if p l[k] then (k:Int) else fI p (l.drop (k+1)) (k+1):=by
 rw[List.drop_eq_getElem_cons h];rfl
def badS (st s:Int):Bool:=decide (s < 0) || decide (st≤s)
theorem meas_step {n k:Nat}(h:k < n):n - (intOf (.int .i64 ((k:Int)+1))).toNat < n - (intOf (.int .i64 (k:Int))).toNat:=by
 simp only[intOf];omega
end Go.Proofs.YtcmbdhopmncmnaaGreatDoor
namespace Go.Proofs.YtcmbdhopmncmnaaGreatDoor
set_option linter.unusedSimpArgs false
open Go.RowKit Go.Maps
set_option linter.unusedVariables false

end Go.Proofs.YtcmbdhopmncmnaaGreatDoor

namespace Go.Proofs.YtcmbdhopmncmnaaGreatDoor
open Lib(hid)
set_option linter.unusedSimpArgs false
open Go.RowKit
set_option maxRecDepth 100000
set_option linter.unusedVariables false

def idxF {α:Type} [DecidableEq α] (p:α):Nat→List α→Int
 | _,[]=>-1
 | k,x :: l=>if x=p then (k:Int) else idxF p (k+1) l
theorem idxF_step {α:Type} [DecidableEq α] {p:α}{xs:List α}{k:Nat}(h:k < xs.length):idxF p k (xs.drop k)=if xs[k]=p then (k:Int) else idxF p (k+1) (xs.drop (k+1)):=by
 rw[List.drop_eq_getElem_cons h];rfl
theorem idxF_mem {α:Type} [DecidableEq α] {p:α}:∀ (xs:List α)(k:Nat),(0≤idxF p k xs ↔ p ∈ xs)
 | [],k=>by simp[idxF]
 | x :: l,k=>by
  unfold idxF;by_cases h:x=p
  ·rw[if_pos h];simp[h]
  ·rw[if_neg h,idxF_mem l (k+1)];simp[Ne.symm h]
set_option maxHeartbeats 800000 in
theorem iidx_any (A:Option Addr)(xs:List Int)(c:Nat)(n:Int)(w:World)(ha:Ints w A xs) :
  Calls Tryz.prog 70 #[.slice A xs.length c,.int .i64 n] w fun e w'=>e=.returned (.int .i64 (idxF n 0 xs))∧w'=w:=by
 have hn:=ha.le;go_enter Tryz.func70,Tryz.ntmps70;go_wp2
 go_loop [8] (fun i=>∃ k:Nat,k≤xs.length∧i=.int .i64 k∧Hid (idxF n 0 xs=idxF n k (xs.drop k))) (fun i=>xs.length - (intOf i).toNat)
 case atStart=>exact⟨0,Nat.zero_le _,rfl,hid rfl⟩
 case round=>
  obtain⟨k,hk,rfl,HT⟩:=hrel;by_cases hlt:k < xs.length
  ·obtain⟨b1,o1,rfl,-,hc⟩:=ha.at_ hlt;have hd:=idxF_step (p:=n) hlt;by_cases h1:xs[k]=n
   ·have HN:=hid (HT.out.trans (hd.trans (if_pos h1)));have d1:(n == xs[k])=true:=by simp[h1]
    clear hd h1 HT;go_wp2;go_ret;exact⟨ret_int HN.out.symm,rfl⟩
   ·have HN:=hid (HT.out.trans (hd.trans (if_neg h1)));have d1:(n == xs[k])=false:=by simp[Ne.symm h1]
    clear hd h1 HT;go_wp2
    go_round
    case rel=>exact⟨k+1,by omega,by go_num,HN⟩
    case measure=>simp[intOf];omega
  ·obtain rfl:k=xs.length:=by omega
   have hno:idxF n 0 xs = -1:=by rw[HT.out,List.drop_length];rfl
   have HN:=hid hno;clear hno HT;go_wp2;go_ret;exact⟨ret_int HN.out.symm,rfl⟩
set_option maxHeartbeats 800000 in
theorem contains_any (A:Option Addr)(xs:List Int)(c:Nat)(n:Int)(w:World)(ha:Ints w A xs) :
  Calls Tryz.prog 30 #[.slice A xs.length c,.int .i64 n] w fun e w'=>e=.returned (.bool (decide (n ∈ xs)))∧w'=w:=by
 have HI:=hid (iidx_any A xs c n w ha);have HM:=hid (idxF_mem (p:=n) xs 0);obtain⟨r,hr⟩:∃ r,r=idxF n 0 xs:=⟨_,rfl⟩
 rw[← hr] at HI HM;clear hr ha;go_enter Tryz.func30,Tryz.ntmps30;go_wp2_with fail;refine HI.out.mono ?_;rintro e w' ⟨rfl,rfl⟩;go_wp2;go_ret;exact⟨ret_bool (decide_eq_decide.2 HM.out),rfl⟩
set_option maxHeartbeats 800000 in
theorem pidx_any (A:Option Addr)(xs:List (Int × Int))(c:Nat)(a b:Int)(w:World)(ha:Pts w A xs) :
  Calls Tryz.prog 83 #[.slice A xs.length c,.agg #[.int .i64 a,.int .i64 b]] w fun e w'=>e=.returned (.int .i64 (idxF (a,b) 0 xs))∧Below w.heap.size w w':=by
 have hn:=ha.le;obtain⟨w0,hw0⟩:∃ w0,w0=w.alloc (.cells #[.int .i64 a,.int .i64 b] 43):=⟨_,rfl⟩
 have hb0:Below w.heap.size w w0:=by rw[hw0];exact below_new _ _
 have q0:Blk w0 w.heap.size 43 #[.int .i64 a,.int .i64 b]:=by rw[hw0];exact Blk.new _ _ _
 have d0:=q0.cell_ 0 (.int .i64 a) rfl;have d1:=q0.cell_ 1 (.int .i64 b) rfl;have hP:=ha.ext hb0;have HB0:=hid hb0;have HW0:=hid hw0;clear hb0 q0 hw0 ha;go_enter Tryz.func83,Tryz.ntmps83;go_upto_region 1 with fail
 rw[← HW0.out];go_wp2;go_loopw [8] (fun i wr=>∃ k q:Nat,k≤xs.length∧i=.int .i64 k∧wr=w0.drewN q∧Hid (idxF (a,b) 0 xs=idxF (a,b) k (xs.drop k))) (fun i _=>xs.length - (intOf i).toNat)
 case atStart=>exact⟨0,0,Nat.zero_le _,rfl,rfl,hid rfl⟩
 case round=>
  obtain⟨k,q,hk,rfl,rfl,HT⟩:=hrel;by_cases hlt:k < xs.length
  ·obtain⟨b1,o1,rfl,-,hc,hc'⟩:=hP.at_ hlt;have HD:=hid (HT.out.trans (idxF_step (p:=(a,b)) hlt));clear HT;have hst:=Tryz.stood_pt;have heg:=Tryz.guard_pt;have hnq:=eql_pt;go_wp2;go_quiet (fail)
   cases hpe:ptEq a b xs[k].1 xs[k].2 with
   | true=>
    have he:xs[k]=(a,b):=by
     unfold ptEq at hpe;simp at hpe;exact Prod.ext hpe.1.symm hpe.2.symm
    have HN:=hid (HD.out.trans (if_pos he));clear HD he;go_wp2;go_ret;exact⟨ret_int HN.out.symm,HB0.out.trans ((below_drewN (below_drewN (Below.refl _ _) _) _).mono HB0.out.size)⟩
   | false=>
    have he:¬ xs[k]=(a,b):=by
     unfold ptEq at hpe;intro e;rw[e] at hpe;simp at hpe
    have HN:=hid (HD.out.trans (if_neg he));clear HD he;go_wp2;go_roundw
    case rel=>exact⟨k+1,_,by omega,by go_num,rfl,HN⟩
    case measure=>simp[intOf];omega
  ·obtain rfl:k=xs.length:=by omega
   have hno:idxF (a,b) 0 xs = -1:=by rw[HT.out,List.drop_length];rfl
   have HN:=hid hno;clear hno HT;go_wp2;go_ret;exact⟨ret_int HN.out.symm,HB0.out.trans ((below_drewN (Below.refl _ _) _).mono HB0.out.size)⟩
set_option maxHeartbeats 800000 in
theorem ridx_any (A:Option Addr)(xs:List (Int × Int))(c:Nat)(a b:Int)(w:World)(ha:Pts w A xs) :
  Calls Tryz.prog 65 #[.slice A xs.length c,.agg #[.int .i64 a,.int .i64 b]] w fun e w'=>e=.returned (.int .i64 (idxF (a,b) 0 xs))∧Below w.heap.size w w':=by
 have hn:=ha.le;obtain⟨w0,hw0⟩:∃ w0,w0=w.alloc (.cells #[.int .i64 a,.int .i64 b] 43):=⟨_,rfl⟩
 have hb0:Below w.heap.size w w0:=by rw[hw0];exact below_new _ _
 have q0:Blk w0 w.heap.size 43 #[.int .i64 a,.int .i64 b]:=by rw[hw0];exact Blk.new _ _ _
 have d0:=q0.cell_ 0 (.int .i64 a) rfl;have d1:=q0.cell_ 1 (.int .i64 b) rfl;have hP:=ha.ext hb0;have HB0:=hid hb0;have HW0:=hid hw0;clear hb0 q0 hw0 ha;go_enter Tryz.func65,Tryz.ntmps65;go_upto_region 1 with fail
 rw[← HW0.out];go_wp2;go_loopw [5] (fun i wr=>∃ k q:Nat,k≤xs.length∧i=.int .i64 k∧wr=w0.drewN q∧Hid (idxF (a,b) 0 xs=idxF (a,b) k (xs.drop k))) (fun i _=>xs.length - (intOf i).toNat)
 case atStart=>exact⟨0,0,Nat.zero_le _,rfl,rfl,hid rfl⟩
 case round=>
  obtain⟨k,q,hk,rfl,rfl,HT⟩:=hrel;by_cases hlt:k < xs.length
  ·obtain⟨b1,o1,rfl,-,hc,hc'⟩:=hP.at_ hlt;have HD:=hid (HT.out.trans (idxF_step (p:=(a,b)) hlt));clear HT;have hst:=Tryz.stood_pt;have heg:=Tryz.guard_pt;have hnq:=eql_pt;go_wp2;go_quiet (fail)
   cases hpe:ptEq xs[k].1 xs[k].2 a b with
   | true=>
    have he:xs[k]=(a,b):=by
     unfold ptEq at hpe;simp at hpe;exact Prod.ext hpe.1 hpe.2
    have HN:=hid (HD.out.trans (if_pos he));clear HD he;go_wp2;go_ret;exact⟨ret_int HN.out.symm,HB0.out.trans ((below_drewN (below_drewN (Below.refl _ _) _) _).mono HB0.out.size)⟩
   | false=>
    have he:¬ xs[k]=(a,b):=by
     unfold ptEq at hpe;intro e;rw[e] at hpe;simp at hpe
    have HN:=hid (HD.out.trans (if_neg he));clear HD he;go_wp2;go_roundw
    case rel=>exact⟨k+1,_,by omega,by go_num,rfl,HN⟩
    case measure=>simp[intOf];omega
  ·obtain rfl:k=xs.length:=by omega
   have hno:idxF (a,b) 0 xs = -1:=by rw[HT.out,List.drop_length];rfl
   have HN:=hid hno;clear hno HT;go_wp2;go_ret;exact⟨ret_int HN.out.symm,HB0.out.trans ((below_drewN (Below.refl _ _) _).mono HB0.out.size)⟩
def ctrP (ps:List (Int × Int)):Int:=if hoodB ps=true then idxF (0,0) 0 ps else -1
set_option maxHeartbeats 800000 in
theorem centre_any (A:Option Addr)(ps:List (Int × Int))(c:Nat)(w:World)(ha:Pts w A ps) :
  Calls Tryz.prog 45 #[.slice A ps.length c] w fun e w'=>e=.returned (.int .i64 (ctrP ps))∧Below w.heap.size w w':=by
 have HH:=hid (hood_any A c ps w ha);have HX:=hid (fun W (hb:Below w.heap.size w W)=>pidx_any A ps c 0 0 W (ha.ext hb));have hn:=ha.le;cases hB:hoodB ps with
 | false=>
  have HE:Hid (ctrP ps = -1):=hid (by unfold ctrP;rw[hB];rfl);go_enter Tryz.func45,Tryz.ntmps45;go_wp2_with fail;refine HH.out.mono ?_;rintro e w1 ⟨rfl,hb1⟩;rw[hB];go_wp2;go_ret;exact⟨ret_int HE.out.symm,hb1⟩
 | true=>
  have HE:Hid (ctrP ps=idxF (0,0) 0 ps):=hid (by unfold ctrP;rw[hB];rfl);go_enter Tryz.func45,Tryz.ntmps45;go_wp2_with fail;refine HH.out.mono ?_;rintro e w1 ⟨rfl,hb1⟩;rw[hB];go_wp2_with fail;refine (HX.out w1 hb1).mono ?_;rintro e w2 ⟨rfl,hb2⟩;go_wp2;go_ret;exact⟨ret_int HE.out.symm,hb1.trans (hb2.mono hb1.size)⟩
end Go.Proofs.YtcmbdhopmncmnaaGreatDoor
namespace Go.Proofs.YtcmbdhopmncmnaaGreatDoor
open Go.RowKit
set_option maxRecDepth 100000
set_option linter.unusedVariables false
set_option linter.unusedSimpArgs false

abbrev Rw:=List Int × Int
structure Rh where
 A:Option Addr
 c:Nat
 zs:List Int
 out:Int
def Rh.cells (h:Rh):List Value:=[.slice h.A h.zs.length h.c,.int .i64 h.out]
def Rh.rw_ (h:Rh):Rw:=(h.zs,h.out)
theorem rh2:∀ (hs:List Rh)(k:Nat)(hk:k < hs.length),(hs.flatMap Rh.cells)[2*k]?=some (.slice hs[k].A hs[k].zs.length hs[k].c)∧(hs.flatMap Rh.cells)[2*k+1]?=some (.int .i64 hs[k].out)
 | p :: ps,0,_=>by simp[Rh.cells]
 | p :: ps,k+1,hk=>by
  have h:=rh2 ps k (by simpa using hk);have e1:2*(k+1)=(2*k)+1+1:=by omega
  have e2:2*(k+1)+1=(2*k+1)+1+1:=by omega
  simp only[List.flatMap_cons,Rh.cells,List.cons_append,List.nil_append,e1,List.getElem?_cons_succ,List.getElem_cons_succ];exact h
theorem rh_len:∀ hs:List Rh,(hs.flatMap Rh.cells).length=hs.length*2
 | []=>rfl
 | p :: r=>by rw[List.flatMap_cons,List.length_append,rh_len r];simp[Rh.cells];omega
def Rws (w:World)(A:Option Addr)(hs:List Rh):Prop:=Reads w w.heap.size 2 A hs.length (hs.flatMap Rh.cells)∧hs.length≤9223372036854775807∧∀ h ∈ hs,Ints w h.A h.zs
section
variable {w w' : World} {A : Option Addr} {hs : List Rh}
theorem Rws.at_ {k:Nat}(h:Rws w A hs)(hk:k < hs.length):∃ b o,A=some ⟨b,o,none⟩∧b < w.heap.size∧w.cell? ⟨b,o+k*2,none⟩=some (.slice hs[k].A hs[k].zs.length hs[k].c)∧w.cell? ⟨b,o+k*2+1,none⟩=some (.int .i64 hs[k].out)∧Ints w hs[k].A hs[k].zs:=by
 obtain⟨ad,e,hb,hc⟩:=h.1.2 (by omega);obtain⟨f1,f2⟩:=rh2 hs k hk;obtain⟨f0,_⟩:=rh2 hs 0 (by omega);have h0:=hc _ _ f0;obtain⟨b,o,sp⟩:=ad;obtain rfl:=spot_none h0;refine⟨b,o,e,hb,?_,?_,h.2.2 _ (List.getElem_mem hk)⟩
 ·rw[Nat.mul_comm];have:=hc _ _ f1;rwa [addr_add] at this
 ·rw[Nat.mul_comm];have:=hc _ _ f2;rwa [addr_add] at this
theorem Rws.le (h:Rws w A hs):hs.length≤9223372036854775807:=h.2.1
theorem Rws.ext (h:Rws w A hs)(hb:Below w.heap.size w w'):Rws w' A hs:=⟨(Reads.below h.1 hb).more hb.size,h.2.1,fun x hx=>(h.2.2 x hx).ext hb⟩
theorem Rws.nil:Rws w A []:=⟨Reads.none_,by simp,fun _ h=>absurd h (by simp)⟩
end
structure Vh where
 A:Option Addr
 c:Nat
 zs:List Int
def Vh.val (h:Vh):Value:=.slice h.A h.zs.length h.c
def Vh.cells (h:Vh):List Value:=[.slice h.A h.zs.length h.c]
theorem vh1:∀ (hs:List Vh)(k:Nat)(hk:k < hs.length),(hs.flatMap Vh.cells)[k]?=some (.slice hs[k].A hs[k].zs.length hs[k].c)
 | p :: ps,0,_=>by simp[Vh.cells]
 | p :: ps,k+1,hk=>by
  have h:=vh1 ps k (by simpa using hk);simp only[List.flatMap_cons,Vh.cells,List.cons_append,List.nil_append,List.getElem?_cons_succ,List.getElem_cons_succ];exact h
theorem vh_len:∀ hs:List Vh,(hs.flatMap Vh.cells).length=hs.length*1
 | []=>rfl
 | p :: r=>by rw[List.flatMap_cons,List.length_append,vh_len r];simp[Vh.cells];omega
def Vrs (w:World)(A:Option Addr)(hs:List Vh):Prop:=Reads w w.heap.size 1 A hs.length (hs.flatMap Vh.cells)∧hs.length≤9223372036854775807∧∀ h ∈ hs,Ints w h.A h.zs
section
variable {w w' : World} {A : Option Addr} {hs : List Vh}
theorem Vrs.at_ {k:Nat}(h:Vrs w A hs)(hk:k < hs.length):∃ b o,A=some ⟨b,o,none⟩∧b < w.heap.size∧w.cell? ⟨b,o+k,none⟩=some (.slice hs[k].A hs[k].zs.length hs[k].c)∧Ints w hs[k].A hs[k].zs:=by
 obtain⟨ad,e,hb,hc⟩:=h.1.2 (by omega);have f1:=vh1 hs k hk;have f0:=vh1 hs 0 (by omega);have h0:=hc _ _ f0;obtain⟨b,o,sp⟩:=ad;obtain rfl:=spot_none h0;refine⟨b,o,e,hb,?_,h.2.2 _ (List.getElem_mem hk)⟩;have:=hc _ _ f1;rwa [addr_add] at this
theorem Vrs.le (h:Vrs w A hs):hs.length≤9223372036854775807:=h.2.1
theorem Vrs.ext (h:Vrs w A hs)(hb:Below w.heap.size w w'):Vrs w' A hs:=⟨(Reads.below h.1 hb).more hb.size,h.2.1,fun x hx=>(h.2.2 x hx).ext hb⟩
theorem Vrs.nil:Vrs w A []:=⟨Reads.none_,by simp,fun _ h=>absurd h (by simp)⟩
end
def OwnV (T I:TypeId)(w:World)(base:Nat)(v:Value)(hs:List Vh):Prop:=w.ownsRow base T 1 v hs.length (hs.flatMap Vh.cells)∧∀ h ∈ hs,OwnI I w base h.val h.zs
section
variable {T I : TypeId} {w w' : World} {base : Nat} {v : Value} {hs : List Vh}
theorem OwnV.nil (T I:TypeId)(w:World)(base:Nat):OwnV T I w base (.slice none 0 0) []:=⟨World.ownsRow_nil _ _ _ _,fun _ h=>absurd h (by simp)⟩
theorem OwnV.vrs (h:OwnV T I w base v hs):∃ A c,v=.slice A hs.length c∧Vrs w A hs∧NewA base A:=by
 obtain⟨A,c,e,h1,h2⟩:=own_form h.1;exact⟨A,c,e,⟨h1.1,h1.2,fun x hx=>OwnI.reads (h.2 x hx)⟩,h2⟩
theorem OwnV.kept (h:OwnV T I w base v hs){S:Nat→Prop}(hk:Kept S w w')(hv:∀ g,v.ownBlock=some g→¬ S g)(hz:∀ x ∈ hs,∀ g,x.val.ownBlock=some g→¬ S g):OwnV T I w' base v hs:=
 ⟨hk.own h.1 hv,fun x hx=>hk.own (h.2 x hx) (hz x hx)⟩
end
structure TabH where
 st:Int
 sym:Int
 hood:List (Int × Int)
 vs:List Vh
 rs:List Rh
structure TabL where
 st:Int
 sym:Int
 hood:List (Int × Int)
 vars:List (List Int)
 rows:List Rw
def TabH.tab (t:TabH):TabL:=⟨t.st,t.sym,t.hood,t.vs.map Vh.zs,t.rs.map Rh.rw_⟩
def tabV (hA:Option Addr)(hc:Nat)(vA:Option Addr)(vc:Nat)(rA:Option Addr)(rc:Nat)(t:TabH):Value:=
 .agg #[.int .i64 t.st,.int .i64 t.sym,.slice hA t.hood.length hc,.slice vA t.vs.length vc,.slice rA t.rs.length rc]
structure TabR (w:World)(hA vA rA:Option Addr)(t:TabH):Prop where
 hood:Pts w hA t.hood
 vars:Vrs w vA t.vs
 rows:Rws w rA t.rs
theorem TabR.ext {w w':World}{hA vA rA:Option Addr}{t:TabH}(h:TabR w hA vA rA t)(hb:Below w.heap.size w w'):TabR w' hA vA rA t:=⟨h.hood.ext hb,h.vars.ext hb,h.rows.ext hb⟩
end Go.Proofs.YtcmbdhopmncmnaaGreatDoor
namespace Go.Proofs.YtcmbdhopmncmnaaGreatDoor
open Lib(hid)
open Go.RowKit
set_option maxRecDepth 100000
set_option linter.unusedVariables false
set_option linter.unusedSimpArgs false

theorem Tryz.sizePoint:(Tryz.prog.info? 43).map (·.size)=some 2:=by kernel_rfl
def matL:List Int:=[1,0,0,1,0,-1,1,0,-1,0,0,-1,0,1,-1,0,-1,0,0,1,0,-1,-1,0,1,0,0,-1,0,1,1,0]
def GMat (w:World):Prop:=1 < w.heap.size∧∀ i,i < 32→w.cell? ⟨1,i,none⟩=some (.int .i64 (matL.getD i 0))
theorem GMat.ext {w w':World}(h:GMat w)(hb:Below w.heap.size w w'):GMat w':=⟨Nat.lt_of_lt_of_le h.1 hb.size,fun i hi=>(hb.cell (p:=⟨1,i,none⟩) h.1).trans (h.2 i hi)⟩
def symJ (k:Int):Nat:=(k % 8).toNat
theorem symJ_lt (k:Int):symJ k < 8:=by unfold symJ;omega
def symP (k:Int)(p:Int × Int):Int × Int:=(matL.getD (symJ k*4) 0*p.1+matL.getD (symJ k*4+1) 0*p.2,matL.getD (symJ k*4+2) 0*p.1+matL.getD (symJ k*4+3) 0*p.2)
theorem and_seven (k:Int):bits .and .i64 k 7=((symJ k:Nat):Int):=by
 show IntKind.i64.wrap ((BitVec.ofInt 64 k &&& BitVec.ofInt 64 7).toNat:Int)=_;have h7:(BitVec.ofInt 64 (7:Int)).toNat=2 ^ 3 - 1:=by decide
 rw[BitVec.toNat_and,h7,Nat.and_two_pow_sub_one_eq_mod,BitVec.toNat_ofInt];have hj:=symJ_lt k;have e:(k % (((2:Nat) ^ 64:Nat):Int)).toNat % 2 ^ 3=symJ k:=by
  unfold symJ;omega
 rw[e];exact IntWalk.i64_in _ (by omega)
theorem mat_cases {j:Nat}(h:j < 32):matL.getD j 0=0∨matL.getD j 0=1∨matL.getD j 0 = -1:=by
 have:∀ j:Fin 32,matL.getD j.1 0=0∨matL.getD j.1 0=1∨matL.getD j.1 0 = -1:=by decide
 exact this ⟨j,h⟩
theorem mul_in {a x:Int}(h:a=0∨a=1∨a = -1)(hx:-4611686018427387904 < x∧x < 4611686018427387904):-4611686018427387904 < a*x∧a*x < 4611686018427387904:=by
 rcases h with h | h | h <;> subst h <;> omega
set_option maxHeartbeats 4000000 in
theorem apply_any (k x y:Int)(w:World)(hg:GMat w)(hx:-4611686018427387904 < x∧x < 4611686018427387904)(hy:-4611686018427387904 < y∧y < 4611686018427387904) :
  Calls Tryz.prog 23 #[.int .i64 k,.agg #[.int .i64 x,.int .i64 y]] w fun e w'=>e=.returned (.agg #[.int .i64 (symP k (x,y)).1,.int .i64 (symP k (x,y)).2])∧Below w.heap.size w w':=by
 have hj:=symJ_lt k;obtain⟨j,hje⟩:∃ j,j=symJ k:=⟨_,rfl⟩
 have hand:=and_seven k;have hsp:symP k (x,y)=(matL.getD (j*4) 0*x+matL.getD (j*4+1) 0*y,matL.getD (j*4+2) 0*x+matL.getD (j*4+3) 0*y):=by rw[hje];rfl
 rw[← hje] at hj hand;rw[hsp];have g0:=hg.2 (j*4) (by omega);have g1:=hg.2 (j*4+1) (by omega);have g2:=hg.2 (j*4+2) (by omega);have g3:=hg.2 (j*4+3) (by omega);have m0:=mat_cases (j:=j*4) (by omega);have m1:=mat_cases (j:=j*4+1) (by omega);have m2:=mat_cases (j:=j*4+2) (by omega);have m3:=mat_cases (j:=j*4+3) (by omega);generalize matL.getD (j*4) 0=a at *;generalize matL.getD (j*4+1) 0=b at *;generalize matL.getD (j*4+2) 0=c at *;generalize matL.getD (j*4+3) 0=d at *;have i0:=mul_in m0 hx;have i1:=mul_in m1 hy;have i2:=mul_in m2 hx;have i3:=mul_in m3 hy;have w0':wrap64 (a*x)=a*x:=by generalize a*x=t at *;unfold wrap64;omega
 have w1':wrap64 (b*y)=b*y:=by generalize b*y=t at *;unfold wrap64;omega
 have w2':wrap64 (c*x)=c*x:=by generalize c*x=t at *;unfold wrap64;omega
 have w3':wrap64 (d*y)=d*y:=by generalize d*y=t at *;unfold wrap64;omega
 have w4':wrap64 (a*x+b*y)=a*x+b*y:=by generalize a*x=t at *;generalize b*y=u at *;unfold wrap64;omega
 have w5':wrap64 (c*x+d*y)=c*x+d*y:=by generalize c*x=t at *;generalize d*y=u at *;unfold wrap64;omega
 obtain⟨v1,hv1⟩:∃ v1,v1=w.alloc (.cells #[.int .i64 x,.int .i64 y] 43):=⟨_,rfl⟩
 obtain⟨v2,hv2⟩:∃ v2,v2=v1.alloc (.cells #[.int .i64 0,.int .i64 0] 43):=⟨_,rfl⟩
 have b1:Below w.heap.size w v1:=by rw[hv1];exact below_new _ _
 have b2:Below v1.heap.size v1 v2:=by rw[hv2];exact below_new _ _
 have b12:Below w.heap.size w v2:=b1.trans (b2.mono b1.size);have z1:v1.heap.size=w.heap.size+1:=by rw[hv1];simp
 have p1:Blk v2 w.heap.size 43 #[.int .i64 x,.int .i64 y]:=by
  have:Blk v1 w.heap.size 43 #[.int .i64 x,.int .i64 y]:=by rw[hv1];exact Blk.new _ _ _
  exact this.below b2 this.lt
 have p2:Blk v2 (w.heap.size+1) 43 #[.int .i64 0,.int .i64 0]:=by rw[← z1,hv2];exact Blk.new _ _ _
 rw[hv1] at hv2;have h0:=(b12.cell (p:=⟨1,j*4,none⟩) hg.1).trans g0;have h1:=(b12.cell (p:=⟨1,j*4+1,none⟩) hg.1).trans g1;have h2:=(b12.cell (p:=⟨1,j*4+2,none⟩) hg.1).trans g2;have h3:=(b12.cell (p:=⟨1,j*4+3,none⟩) hg.1).trans g3;have HV:=hid hv2;have HB:=hid b12;have HP1:=hid p1;have HP2:=hid p2;clear hv1 hv2 b1 b2 b12 z1 p1 p2 g0 g1 g2 g3 m0 m1 m2 m3 i0 i1 i2 i3 hx hy hje hsp hg;go_enter Tryz.func23,Tryz.ntmps23;go_upto_region 1 with fail
 rw[← HV.out];go_upto_region 2 with fail
 obtain⟨v3,hv3⟩:∃ v3,v3=v2.alloc (.cells #[.int .i64 a,.int .i64 b,.int .i64 c,.int .i64 d] 89):=⟨_,rfl⟩
 have b3:Below v2.heap.size v2 v3:=by rw[hv3];exact below_new _ _
 have p3:Blk v3 v2.heap.size 89 #[.int .i64 a,.int .i64 b,.int .i64 c,.int .i64 d]:=by rw[hv3];exact Blk.new _ _ _
 have q1:=HP1.out.below b3 HP1.out.lt;have q2:=HP2.out.below b3 HP2.out.lt;have x0:=p3.cell_ 0 (.int .i64 a) rfl;have x1:=p3.cell_ 1 (.int .i64 b) rfl;have x2:=p3.cell_ 2 (.int .i64 c) rfl;have x3:=p3.cell_ 3 (.int .i64 d) rfl;have y0:=q1.cell_ 0 (.int .i64 x) rfl;have y1:=q1.cell_ 1 (.int .i64 y) rfl;have r0:=q2.cell_ 0 (.int .i64 0) rfl;have r1:=q2.cell_ 1 (.int .i64 0) rfl;have f0:=q2.frozen 0;have f1:=q2.frozen 1;have HQ2:=hid q2;have HB3:Hid (Below w.heap.size w v3):=hid (HB.out.trans (b3.mono HB.out.size));obtain⟨g3,hg3⟩:∃ g3,g3=v2.heap.size:=⟨_,rfl⟩
 rw[← hv3,← hg3];rw[← hg3] at x0 x1 x2 x3;clear hv3 b3 p3 q1 q2 h0 h1 h2 h3 hg3;go_wp2;have hq:Blk ((v3.setCell ⟨w.heap.size+1,0,none⟩ (.int .i64 (a*x+b*y))).setCell ⟨w.heap.size+1,1,none⟩ (.int .i64 (c*x+d*y))) (w.heap.size+1) 43 #[.int .i64 (a*x+b*y),.int .i64 (c*x+d*y)]:=(HQ2.out.set_ 0 (.int .i64 (a*x+b*y))).set_ 1 (.int .i64 (c*x+d*y));exact bodyPost_ret (results_cell_row Tryz.results23 _ _ (w.heap.size+1) 43 #[.int .i64 (a*x+b*y),.int .i64 (c*x+d*y)] (0,0) _ rfl hq Tryz.underlying43 rfl Tryz.sizePoint) rfl
  ⟨rfl,(HB3.out.setCell (p:=⟨w.heap.size+1,0,none⟩) (Nat.le_succ _) _).setCell (p:=⟨w.heap.size+1,1,none⟩) (Nat.le_succ _) _⟩
end Go.Proofs.YtcmbdhopmncmnaaGreatDoor
namespace Go.Proofs.YtcmbdhopmncmnaaGreatDoor
open Lib(hid)
open Go.RowKit Go.Sort
set_option maxRecDepth 100000
set_option linter.unusedVariables false
set_option linter.unusedSimpArgs false

theorem chainH_rng:∀ (ps:List (Int × Int))(q:Option (Int × Int)),chainH q ps=true→∀ p ∈ ps,-2≤p.1∧p.1≤2∧-2≤p.2∧p.2≤2
 | [],_,_,p,hp=>absurd hp (by simp)
 | x :: l,q,h,p,hp=>by
  unfold chainH okH rngB at h;simp only[Bool.and_eq_true,decide_eq_true_eq] at h;rcases List.mem_cons.1 hp with rfl | hp
  ·exact⟨h.1.1.1.1.1,h.1.1.1.1.2,h.1.1.1.2,h.1.1.2⟩
  ·exact chainH_rng l _ h.2 p hp
theorem hoodB_rng {ps:List (Int × Int)}(h:hoodB ps=true):∀ p ∈ ps,-2≤p.1∧p.1≤2∧-2≤p.2∧p.2≤2:=by
 unfold hoodB at h;simp only[Bool.and_eq_true] at h;exact chainH_rng ps none h.2
def outH (ps:List (Int × Int))(k:Int)(p:Int × Int):Bool:=!decide (symP k p ∈ ps)
def symsTo (ps:List (Int × Int))(n:Nat):List Int:=((List.range n).filter fun (k:Nat)=>!ps.any (outH ps (k:Int))).map fun (k:Nat)=>(k:Int)
def symsP (ps:List (Int × Int)):List Int:=if hoodB ps=true then symsTo ps 8 else []
theorem symsTo_len (ps:List (Int × Int))(n:Nat):(symsTo ps n).length≤n:=by
 unfold symsTo;rw[List.length_map];exact Nat.le_trans (List.length_filter_le _ _) (by simp)
theorem symsTo_yes {ps:List (Int × Int)}{n:Nat}(h:ps.any (outH ps (n:Int))=false):symsTo ps (n+1)=symsTo ps n ++ [(n:Int)]:=by
 unfold symsTo;rw[List.range_succ,List.filter_append,List.map_append];simp[h]
theorem symsTo_no {ps:List (Int × Int)}{n:Nat}(h:ps.any (outH ps (n:Int))=true):symsTo ps (n+1)=symsTo ps n:=by
 unfold symsTo;rw[List.range_succ,List.filter_append,List.map_append];simp[h]
set_option maxHeartbeats 800000 in
theorem pcontains_any (A:Option Addr)(xs:List (Int × Int))(c:Nat)(a b:Int)(w:World)(ha:Pts w A xs) :
  Calls Tryz.prog 108 #[.slice A xs.length c,.agg #[.int .i64 a,.int .i64 b]] w fun e w'=>e=.returned (.bool (decide ((a,b) ∈ xs)))∧Below w.heap.size w w':=by
 obtain⟨w0,hw0⟩:∃ w0,w0=w.alloc (.cells #[.int .i64 a,.int .i64 b] 43):=⟨_,rfl⟩
 have hb0:Below w.heap.size w w0:=by rw[hw0];exact below_new _ _
 have q0:Blk w0 w.heap.size 43 #[.int .i64 a,.int .i64 b]:=by rw[hw0];exact Blk.new _ _ _
 have d0:=q0.cell_ 0 (.int .i64 a) rfl;have d1:=q0.cell_ 1 (.int .i64 b) rfl;have HI:=hid (pidx_any A xs c a b w0 (ha.ext hb0));have HM:=hid (idxF_mem (p:=(a,b)) xs 0);obtain⟨r,hr⟩:∃ r,r=idxF (a,b) 0 xs:=⟨_,rfl⟩
 rw[← hr] at HI HM;have HB0:=hid hb0;have HW0:=hid hw0;clear hr ha hb0 q0 hw0;go_enter Tryz.func108,Tryz.ntmps108;go_upto_region 1 with fail
 rw[← HW0.out];go_wp2_with (go_at_call 83;refine HI.out.mono ?_;rintro e w' ⟨rfl,hb⟩;refine Hid.out ?_);refine hid ?_;go_wp2;go_ret;exact⟨ret_bool (decide_eq_decide.2 HM.out),HB0.out.trans (hb.mono HB0.out.size)⟩
set_option maxHeartbeats 4000000 in
theorem symc_any (gl gk:Nat)(A:Option Addr)(c:Nat)(ps:List (Int × Int))(k x y:Int)(w:World)(hl:Blk w gl 22 #[.slice A ps.length c])(hk:Blk w gk 3 #[.int .i64 k])(hp:Pts w A ps)(hG:GMat w)(hx:-2≤x∧x≤2)(hy:-2≤y∧y≤2) :
  Calls Tryz.prog 107 #[.agg #[.int .i64 x,.int .i64 y],.pointer (some ⟨gl,0,none⟩),.pointer (some ⟨gk,0,none⟩)] w fun e w'=>e=.returned (.bool (outH ps k (x,y)))∧Below w.heap.size w w':=by
 obtain⟨w0,hw0⟩:∃ w0,w0=w.alloc (.cells #[.int .i64 x,.int .i64 y] 43):=⟨_,rfl⟩
 have hb0:Below w.heap.size w w0:=by rw[hw0];exact below_new _ _
 have q0:Blk w0 w.heap.size 43 #[.int .i64 x,.int .i64 y]:=by rw[hw0];exact Blk.new _ _ _
 have l0:=hl.below hb0 hl.lt;have k0:=hk.below hb0 hk.lt;obtain⟨gP,hgP⟩:∃ g,g=w.heap.size:=⟨_,rfl⟩
 have HA:Hid (∀ d os,Calls Tryz.prog 23 #[.int .i64 k,.agg #[.int .i64 x,.int .i64 y]] (grow (redrawn w0 d) os) fun e w''=>e=.returned (.agg #[.int .i64 (symP k (x,y)).1,.int .i64 (symP k (x,y)).2])∧∃ p:Regrown,w''=grow (redrawn w0 p.d) p.os):=
  hid (fun d os=>Calls.regrown_of (apply_any k x y _ ((hG.ext hb0).ext (below_regrown w0 d os)) ⟨by omega,by omega⟩ ⟨by omega,by omega⟩))
 obtain⟨z,hz⟩:∃ z,z=symP k (x,y):=⟨_,rfl⟩
 have HC:Hid (∀ d os,Calls Tryz.prog 108 #[.slice A ps.length c,.agg #[.int .i64 z.1,.int .i64 z.2]] (grow (redrawn w0 d) os) fun e w''=>e=.returned (.bool (decide (z ∈ ps)))∧∃ p:Regrown,w''=grow (redrawn w0 p.d) p.os):=
  hid (fun d os=>Calls.regrown_of (pcontains_any A ps c z.1 z.2 _ ((hp.ext hb0).ext (below_regrown w0 d os))))
 have HO:Hid (outH ps k (x,y) = !decide (z ∈ ps)):=hid (by rw[hz];rfl);rw[← hz] at HA;obtain⟨s,hs⟩:∃ s,s=decide (z ∈ ps):=⟨_,rfl⟩
 rw[← hs] at HC HO;obtain⟨z1,z2⟩:=z;dsimp only at HA HC;have j0:=cell_regrown (q0.cell_ 0 (.int .i64 x) rfl);have j1:=cell_regrown (q0.cell_ 1 (.int .i64 y) rfl);have j2:=cell_regrown (l0.cell_ 0 (.slice A ps.length c) rfl);have j3:=cell_regrown (k0.cell_ 0 (.int .i64 k) rfl);rw[← hgP] at j0 j1;have HB0:=hid hb0;have HW0:=hid (And.intro hw0 hgP);clear hb0 q0 l0 k0 hz hs hw0 hgP hl hk hp hG hx hy;go_enter Tryz.func107,Tryz.ntmps107;go_upto_region 1 with fail
 rw[← HW0.out.1,← HW0.out.2];refine wp_region_quiet_below (by kernel_rfl) (by kernel_rfl) ?_;repeat (go_big_quiet_step (first | with_reducible exact HA.out _ _ | with_reducible exact HC.out _ _))
 refine wpQuiet_nil ?_;intro _ hw';obtain⟨⟨dq,osq⟩,hw''⟩:=hw';subst hw'';go_wp2;go_ret;exact⟨ret_bool HO.out.symm,HB0.out.trans ((below_regrown w0 dq osq).mono HB0.out.size)⟩
set_option maxHeartbeats 4000000 in
theorem ixP_any (gl gk:Nat)(A:Option Addr)(c:Nat)(ps:List (Int × Int))(k:Int)(w:World)(hl:Blk w gl 22 #[.slice A ps.length c])(hk:Blk w gk 3 #[.int .i64 k])(hp:Pts w A ps)(hG:GMat w)(hr:∀ p ∈ ps,-2≤p.1∧p.1≤2∧-2≤p.2∧p.2≤2) :
  Calls Tryz.prog 127 #[.slice A ps.length c,.func (.func 107) #[] #[.pointer (some ⟨gl,0,none⟩),.pointer (some ⟨gk,0,none⟩)]] w fun e w'=>e=.returned (.int .i64 (fI (outH ps k) ps 0))∧Below w.heap.size w w':=by
 have hn:=hp.le;have HZ:=hid hp;have HQ:=hid (And.intro hl (And.intro hk (And.intro hG hr)));have HN:=hid hn;clear hp hl hk hG hr;go_enter Tryz.func127,Tryz.ntmps127;go_wp2;go_loopw [8] (fun i wr=>∃ j:Nat,j≤ps.length∧i=.int .i64 j∧Hid (Below w.heap.size w wr)∧Hid (fI (outH ps k) ps 0=fI (outH ps k) (ps.drop j) j)) (fun i _=>ps.length - (intOf i).toNat)
 case atStart=>exact⟨0,Nat.zero_le _,rfl,hid (Below.refl _ _),hid (by simp)⟩
 case round=>
  obtain⟨j,hj,rfl,HB,HT⟩:=hrel;by_cases hlt:j < ps.length
  ·obtain⟨b1,o1,e1,-,hc,hc'⟩:=(HZ.out.ext HB.out).at_ hlt;have hw1:wrap64 ((j:Int)+1)=(j:Int)+1:=by have:=HN.out;unfold wrap64;omega
   have HS:=hid (fI_step (outH ps k) hlt);have hrr:=HQ.out.2.2.2 ps[j] (List.getElem_mem hlt);have hC:=symc_any gl gk A c ps k ps[j].1 ps[j].2 wr (HQ.out.1.below HB.out HQ.out.1.lt) (HQ.out.2.1.below HB.out HQ.out.2.1.lt) (HZ.out.ext HB.out) (HQ.out.2.2.1.ext HB.out) ⟨hrr.1,hrr.2.1⟩ ⟨hrr.2.2.1,hrr.2.2.2⟩;obtain⟨z,hz⟩:∃ z,z=ps[j]:=⟨_,rfl⟩
   rw[← hz] at hc hc' HS hC;have HLT:=hid hlt;subst e1;obtain⟨z1,z2⟩:=z;dsimp only at hc hc' hC;cases ho:outH ps k (z1,z2) with
   | true=>
    rw[ho] at hC;have HC:=hid hC;have HF:Hid (fI (outH ps k) ps 0=(j:Int)):=hid (by rw[HT.out,HS.out,ho];rfl);clear ho hC hz hj hrr;go_wp2_with (go_at_call 107;refine HC.out.mono ?_;rintro e w1 ⟨rfl,hb1⟩;refine Hid.out ?_);refine hid ?_;go_wp2;go_ret;exact⟨by rw[HF.out] <;> rfl,HB.out.trans (hb1.mono HB.out.size)⟩
   | false=>
    rw[ho] at hC;have HC:=hid hC;have HF:Hid (fI (outH ps k) ps 0=fI (outH ps k) (ps.drop (j+1)) (j+1)):=hid (by rw[HT.out,HS.out,ho];rfl);clear ho hC hz hj hrr;go_wp2_with (go_at_call 107;refine HC.out.mono ?_;rintro e w1 ⟨rfl,hb1⟩;refine Hid.out ?_);refine hid ?_;have HB1:=hid (HB.out.trans (hb1.mono HB.out.size));go_wp2;go_roundw
    case rel=>exact⟨j+1,HLT.out,(by first | rfl | (rw[hw1];rfl)),HB1,HF⟩
    case measure=>(try rw[hw1]);exact meas_step HLT.out
  ·have HF:Hid (fI (outH ps k) ps 0 = -1):=hid (by
    have h:=HT.out;rw[List.drop_of_length_le (by omega)] at h;exact h)
   go_wp2;go_ret;exact⟨by rw[HF.out] <;> rfl,HB.out⟩
set_option maxHeartbeats 1000000 in
theorem ctPf_any (gl gk:Nat)(A:Option Addr)(c:Nat)(ps:List (Int × Int))(k:Int)(w:World)(hl:Blk w gl 22 #[.slice A ps.length c])(hk:Blk w gk 3 #[.int .i64 k])(hp:Pts w A ps)(hG:GMat w)(hr:∀ p ∈ ps,-2≤p.1∧p.1≤2∧-2≤p.2∧p.2≤2) :
  Calls Tryz.prog 106 #[.slice A ps.length c,.func (.func 107) #[] #[.pointer (some ⟨gl,0,none⟩),.pointer (some ⟨gk,0,none⟩)]] w fun e w'=>e=.returned (.bool (ps.any (outH ps k)))∧Below w.heap.size w w':=by
 have HC:=hid (ixP_any gl gk A c ps k w hl hk hp hG hr);rw[← fI_any (outH ps k) ps 0];obtain⟨r,hr⟩:∃ r,r=fI (outH ps k) ps 0:=⟨_,rfl⟩
 rw[← hr] at HC ⊢;clear hr hl hk hp hG;go_enter Tryz.func106,Tryz.ntmps106;go_wp2_with (go_at_call 127;refine HC.out.mono ?_;rintro e w1 ⟨rfl,hb⟩;refine Hid.out ?_);refine hid ?_;go_wp2;go_ret;exact⟨rfl,hb⟩
set_option maxHeartbeats 4000000 in
theorem syms_any (A:Option Addr)(ps:List (Int × Int))(c:Nat)(w:World)(hp:Pts w A ps)(hG:GMat w) :
  Calls Tryz.prog 69 #[.slice A ps.length c] w fun e w'=>∃ v,e=.returned v∧OwnIA w' w.heap.size v (symsP ps)∧Below w.heap.size w w':=by
 obtain⟨w0,hw0⟩:∃ w0,w0=w.alloc (.cells #[.slice A ps.length c] 22):=⟨_,rfl⟩
 have hb0:Below w.heap.size w w0:=by rw[hw0];exact below_new _ _
 have q0:Blk w0 w.heap.size 22 #[.slice A ps.length c]:=by rw[hw0];exact Blk.new _ _ _
 obtain⟨gl,hgl⟩:∃ g,g=w.heap.size:=⟨_,rfl⟩
 rw[← hgl] at q0;have HCR:=hid (hood_any A c ps w0 (hp.ext hb0));have c0:=q0.cell_ 0 (.slice A ps.length c) rfl;have HB0:=hid hb0;have HP:=hid (hp.ext hb0);have HG:=hid (hG.ext hb0);have HQ:=hid q0;have HW0:=hid (And.intro hw0 hgl);clear hb0 q0 hp hG hw0 hgl;cases hB:hoodB ps with
 | false=>
  have HE:Hid (symsP ps=[]):=hid (by unfold symsP;rw[if_neg (by rw[hB];simp)]);rw[hB] at HCR;clear hB;go_enter Tryz.func69,Tryz.ntmps69;go_upto_region 1 with fail
  rw[← HW0.out.1,← HW0.out.2];go_wp2_with (go_at_call 27;refine HCR.out.mono ?_;rintro e w1 ⟨rfl,hb1⟩;refine Hid.out ?_);refine hid ?_;go_wp2;go_ret;exact⟨_,rfl,by rw[HE.out];exact OwnI.nil _ _ _,HB0.out.trans (hb1.mono HB0.out.size)⟩
 | true=>
  have HE:Hid (symsP ps=symsTo ps 8):=hid (by unfold symsP;rw[if_pos hB]);have HRN:=hid (hoodB_rng hB);rw[hB] at HCR;clear hB;go_enter Tryz.func69,Tryz.ntmps69;go_upto_region 1 with fail
  rw[← HW0.out.1,← HW0.out.2];go_wp2_with (go_at_call 27;refine HCR.out.mono ?_;rintro e w1 ⟨rfl,hb1⟩;refine Hid.out ?_);refine hid ?_;have HB1:=hid hb1;clear hb1 c0;go_wp2;go_loopw [3,8] (fun lv iv wr=>∃ i:Nat,i≤8∧iv=.int .i64 i∧Hid (OwnIA wr w0.heap.size lv (symsTo ps i))∧Hid (Below w0.heap.size w0 wr)) (fun _ iv _=>8 - (intOf iv).toNat)
  case atStart=>exact⟨0,Nat.zero_le _,rfl,hid (OwnI.nil _ _ _),HB1⟩
  case round=>
   obtain⟨i,hi,rfl,HO,HB⟩:=hrel;by_cases hil:i < 8
   ·obtain⟨wb,hwb⟩:∃ W,W=wr.alloc (.cells #[.int .i64 (i:Int)] 3):=⟨_,rfl⟩
    have hbb:Below wr.heap.size wr wb:=by rw[hwb];exact below_new _ _
    obtain⟨gk,hgk⟩:∃ g,g=wr.heap.size:=⟨_,rfl⟩
    have HK:Hid (Blk wb gk 3 #[.int .i64 (i:Int)]):=hid (by rw[hgk,hwb];exact Blk.new _ _ _);have HBB:=hid (HB.out.trans (hbb.mono HB.out.size));have HQB:=hid (HQ.out.below HBB.out HQ.out.lt);have HOB:=hid (HO.out.ext hbb);have hcall:=ctPf_any gl gk A c ps (i:Int) wb HQB.out HK.out (HP.out.ext HBB.out) (HG.out.ext HBB.out) HRN.out;have c1:=HQB.out.cell_ 0 (.slice A ps.length c) rfl;have HI:=hid hil;have hwi:wrap64 ((i:Int)+1)=(i:Int)+1:=by unfold wrap64;omega
    have HWB:=hid (And.intro hwb hgk);have hd8:decide ((i:Int) < 8)=true:=decide_eq_true (by omega);have HWI:=hid hwi;clear hwb hgk hbb hi hwi;go_upto_region 7 with fail
    rw[← HWB.out.1,← HWB.out.2];cases ho:ps.any (outH ps (i:Int)) with
    | true=>
     rw[ho] at hcall;have HCALL:=hid hcall;have HST:=hid (symsTo_no ho);clear hcall ho;go_wp2_with (go_at_call 106;refine HCALL.out.mono ?_;rintro e w2 ⟨rfl,hb2⟩;refine Hid.out ?_);refine hid ?_;have HO2:Hid (OwnIA w2 w0.heap.size _ (symsTo ps (i+1))):=hid (by rw[HST.out];exact HOB.out.ext hb2);have HB2:=hid (HBB.out.trans (hb2.mono HBB.out.size));clear hb2 c1;go_wp2;go_roundw
     case rel=>exact⟨i+1,HI.out,(by first | rfl | (rw[HWI.out];rfl)),HO2,HB2⟩
     case measure=>(try rw[HWI.out]);exact meas_step HI.out
    | false=>
     rw[ho] at hcall;have HCALL:=hid hcall;have HST:=hid (symsTo_yes ho);clear hcall ho;go_wp2_with (go_at_call 106;refine HCALL.out.mono ?_;rintro e w2 ⟨rfl,hb2⟩;refine Hid.out ?_);refine hid ?_;have hown:=HOB.out.ext hb2;have c2:=(HK.out.below hb2 HK.out.lt).cell_ 0 (.int .i64 (i:Int)) rfl;have HB2:=hid (HBB.out.trans (hb2.mono HBB.out.size));have hln:(symsTo ps i).length < 1000000000000:=by have:=symsTo_len ps i;have:=HI.out;omega
     have hbs:=HB2.out.size;clear hb2 c1;go_wp2_with (at_builtin;refine wpList_pushI rfl _ _ _ rfl w0.heap.size 3 Tryz.underlying30 Tryz.infoInt _ _ rfl hown _ rfl hln hbs ?_);intro v' w7 ho' hb';have HO7:Hid (OwnIA w7 w0.heap.size v' (symsTo ps (i+1))):=hid (by rw[HST.out];exact ho');have HB7:=hid (HB2.out.trans hb');clear ho' hb' hown hln hbs c2;go_wp2;go_roundw
     case rel=>exact⟨i+1,HI.out,(by first | rfl | (rw[HWI.out];rfl)),HO7,HB7⟩
     case measure=>(try rw[HWI.out]);exact meas_step HI.out
   ·obtain rfl:i=8:=Nat.le_antisymm hi (Nat.le_of_not_lt hil);have hd8:decide (((8:Nat):Int) < 8)=false:=by decide
    have HN0:Hid (w.heap.size≤w0.heap.size):=hid HB0.out.size;clear hi hil;go_wp2;go_ret;exact⟨_,rfl,by rw[HE.out];exact OwnI.down HO.out HN0.out,HB0.out.trans (HB.out.mono HB0.out.size)⟩
end Go.Proofs.YtcmbdhopmncmnaaGreatDoor
namespace Go.Proofs.YtcmbdhopmncmnaaGreatDoor
open Lib(hid)
open Go.RowKit
set_option maxRecDepth 100000
set_option linter.unusedVariables false
set_option linter.unusedSimpArgs false
def permP (ps:List (Int × Int))(sym:Int):Bool:=if sym=0 then true else if sym=1 then decide ((1:Int) ∈ symsP ps) else if sym=2 then ((symsP ps).length:Int) == 8 else if sym=3 then decide (ps.length≤9) else false
set_option maxHeartbeats 4000000 in
theorem permits_any (A:Option Addr)(ps:List (Int × Int))(c:Nat)(sym:Int)(w:World)(hp:Pts w A ps)(hG:GMat w) :
  Calls Tryz.prog 28 #[.slice A ps.length c,.int .i64 sym] w fun e w'=>e=.returned (.bool (permP ps sym))∧Below w.heap.size w w':=by
 have hcall:=syms_any A ps c w hp hG;obtain⟨l,hl⟩:∃ l,l=symsP ps:=⟨_,rfl⟩
 have hP:permP ps sym=if sym=0 then true else if sym=1 then decide ((1:Int) ∈ l) else if sym=2 then (l.length:Int) == 8 else if sym=3 then decide (ps.length≤9) else false:=by rw[hl];rfl
 obtain⟨r,hr⟩:∃ r,r=permP ps sym:=⟨_,rfl⟩
 rw[← hr];have HR:Hid (r=if sym=0 then true else if sym=1 then decide ((1:Int) ∈ l) else if sym=2 then (l.length:Int) == 8 else if sym=3 then decide (ps.length≤9) else false):=hid (hr.trans hP);have hl8:l.length≤8:=by
  rw[hl];unfold symsP
  split
  ·exact symsTo_len ps 8
  ·simp
 rw[← hl] at hcall;have HCALL:=hid hcall;have hn:=hp.le;clear hcall hl hP hp hG hr;go_enter Tryz.func28,Tryz.ntmps28;go_wp2_with (go_at_call 69;refine HCALL.out.mono ?_;rintro e w1 ⟨v,rfl,ho,hb⟩;refine Hid.out ?_);refine hid ?_;obtain⟨A5,c5,e5,hi5,-⟩:=ho.ints;subst e5;have HB:=hid hb;have HI:=hid hi5;have hl9:l.length≤9223372036854775807:=by omega
 clear ho hb hi5 HCALL hl8;by_cases h0:sym=0
 ·subst h0;go_wp2;go_ret;exact⟨ret_bool (by rw[HR.out];simp),HB.out⟩
 ·have d0:(sym == 0)=false:=beq_false_of_ne h0;by_cases h1:sym=1
  ·subst h1;have HC:=hid (contains_any A5 l c5 1 w1 HI.out);clear h0;go_wp2_with (go_at_call 30;refine HC.out.mono ?_;rintro e w2 ⟨rfl,rfl⟩;refine Hid.out ?_);refine hid ?_;go_wp2;go_ret;exact⟨ret_bool (by rw[HR.out];simp[*]),HB.out⟩
  ·have d1:(sym == 1)=false:=beq_false_of_ne h1;by_cases h2:sym=2
   ·subst h2;clear h0 h1;go_wp2;go_ret;exact⟨ret_bool (by rw[HR.out];simp[*]),HB.out⟩
   ·have d2:(sym == 2)=false:=beq_false_of_ne h2;by_cases h3:sym=3
    ·subst h3;clear h0 h1 h2;have hd:decide ((ps.length:Int)≤9)=decide (ps.length≤9):=decide_eq_decide.2 (by omega);have HD:=hid hd;clear hd;go_wp2;go_ret;exact⟨ret_bool (by rw[HR.out];simp[HD.out]),HB.out⟩
    ·have d3:(sym == 3)=false:=beq_false_of_ne h3;have H0:=hid (And.intro h0 (And.intro h1 (And.intro h2 h3)));clear h0 h1 h2 h3;go_wp2;go_ret;exact⟨ret_bool (by rw[HR.out];rw[if_neg H0.out.1,if_neg H0.out.2.1,if_neg H0.out.2.2.1,if_neg H0.out.2.2.2]),HB.out⟩
end Go.Proofs.YtcmbdhopmncmnaaGreatDoor
namespace Go.Proofs.YtcmbdhopmncmnaaGreatDoor
open Go.RowKit
set_option maxRecDepth 100000
set_option linter.unusedVariables false
set_option linter.unusedSimpArgs false

end Go.Proofs.YtcmbdhopmncmnaaGreatDoor
