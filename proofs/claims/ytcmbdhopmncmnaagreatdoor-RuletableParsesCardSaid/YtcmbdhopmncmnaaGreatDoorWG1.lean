/-
  texts Byte Clone J Walk Cmp HoodR Eq EqP RHood FI Alc TrV Ctr TabM: parts of the proof; conditions stand with each theorem.
-/
import Derived.Test.YtcmbdhopmncmnaaGreatDoorWG0
import Derived.Test.YtcmbdhopmncmnaaGreatDoorShelf
import Derived.Lib.ItoaLen
import Derived.Lib.Slices
import Derived.Deep.DeepCutAuto
import Derived.Deep.DeepFit
import Derived.Deep.CutBlock
import Derived.Lib.Small
import Derived.BigQuiet
import Derived.Lib.QuietBelow
import Derived.Deep.RegionWith
import Derived.Deep.Cut
import Derived.Test.YtcmbdhopmncmnaaGreatDoorRows
namespace Go.Proofs.YtcmbdhopmncmnaaGreatDoor
open Go.RowKit Go.Maps
set_option maxRecDepth 100000
set_option linter.unusedVariables false
set_option linter.unusedSimpArgs false

end Go.Proofs.YtcmbdhopmncmnaaGreatDoor
namespace Go.Proofs.YtcmbdhopmncmnaaGreatDoor
open Go.RowKit
set_option maxRecDepth 100000
set_option linter.unusedVariables false
set_option linter.unusedSimpArgs false

end Go.Proofs.YtcmbdhopmncmnaaGreatDoor
namespace Go.Proofs.YtcmbdhopmncmnaaGreatDoor
open Lib(hid)
set_option linter.unusedSimpArgs false
open Go.RowKit
set_option maxRecDepth 100000
set_option linter.unusedVariables false

def OnlyN (K:Act→World→Prop):Exit→Act→World→Prop
 | .normal,a,w=>K a w
 | _,_,_=>False
theorem OnlyN.not_lets {K:Act→World→Prop}:¬ LetsOut (OnlyN K):=fun ⟨_,_,h⟩=>h
theorem oper_only {P:Program}{o:Oper}{a:Act}{w:World}{K:Act→World→Prop}{Q:Exit→Act→World→Prop}(hh:o.wp P a w K (OnlyN K)):o.wp P a w K Q:=by
 unfold Oper.wp at *;generalize (execOp a.eval o).run P w=r at *;cases r with
 | ok n w'=>
  cases n <;> simp only[Oper.upon] at hh ⊢ <;>
   first
    | exact hh
    | exact Calls.mono hh (fun e w'' he=>by cases e <;> first | exact he | exact (OnlyN.not_lets he).elim | exact (he:False).elim)
 | halt x w'=>cases x <;> simp only[Oper.upon] at hh ⊢ <;> first | exact hh | exact (hh:False).elim
theorem wpOp_of_list {P:Program}{ops:Array Oper}{i:Nat}{o:Oper}{a:Act}{w:World}{K:Act→World→Prop}{Q:Exit→Act→World→Prop}(ho:ops[i]?=some o)
  (h:wpList P ops (OnlyN K) [o] a w):wpOp P ops Q i K a w:=by
 unfold wpOp;rw[ho];simp only;unfold wpList at h
 split
 ·rename_i hw;rw[if_pos hw] at h;rcases h with h | h
  ·exact Or.inl (oper_only h)
  ·exact (OnlyN.not_lets h.2).elim
 ·rename_i hw;rw[if_neg hw] at h;exact h
theorem filter_len_le {α:Type}{p q:α→Bool}:∀ l:List α,(∀ x ∈ l,p x=true→q x=true)→(l.filter p).length≤(l.filter q).length
 | [],_=>Nat.le_refl _
 | x :: l,h=>by
  have ih:=filter_len_le l fun y hy=>h y (List.mem_cons_of_mem _ hy);cases hp:p x
  ·cases hq:q x <;> simp[hp,hq] <;> omega
  ·simp[hp,h x List.mem_cons_self hp];exact ih
theorem filter_len_lt {α:Type}{p q:α→Bool}{i:α}:∀ l:List α,(∀ x ∈ l,p x=true→q x=true)→i ∈ l→p i=false→q i=true→(l.filter p).length < (l.filter q).length
 | [],_,hi,_,_=>by simp at hi
 | x :: l,h,hi,hp,hq=>by
  rcases List.mem_cons.1 hi with rfl | hi
  ·have:=filter_len_le l fun y hy=>h y (List.mem_cons_of_mem _ hy);simp[hp,hq];omega
  ·have ih:=filter_len_lt l (fun y hy=>h y (List.mem_cons_of_mem _ hy)) hi hp hq;cases hpx:p x
   ·cases hqx:q x <;> simp[hpx,hqx] <;> omega
   ·simp[hpx,h x List.mem_cons_self hpx];exact ih
def leftIn (ops:Array Oper)(listed:Array Bool):Nat:=((List.range ops.size).filter fun i=>!listed.getD i true).length
theorem leftIn_set {ops:Array Oper}{listed:Array Bool}{i:Nat}(hi:i < ops.size)(h:listed.getD i true=false):leftIn ops (listed.setIfInBounds i true) < leftIn ops listed:=by
 refine filter_len_lt (i:=i) _ (fun x _ hx=>?_) (by simpa using hi) ?_ (by rw[h];rfl)
 ·by_cases hxi:i=x
  ·subst hxi;rw[h];rfl
  ·rwa [getD_set_ne true hxi] at hx
 ·have hl:i < listed.size:=by
   rcases Nat.lt_or_ge i listed.size with h' | h'
   ·exact h'
   ·simp[Array.getElem?_eq_none h'] at h
  simp[hl]
theorem ready_nil {md:Region.Mode}{ops:Array Oper}{listed:Array Bool}(h:leftIn ops listed=0):Region.ready md ops listed=[]:=by
 apply List.eq_nil_iff_forall_not_mem.2;intro j hj;obtain⟨h0,o,ho,-⟩:=mem_ready.1 hj;have hlt:j < ops.size:=(Array.getElem?_eq_some_iff.1 ho).1;have hn:((List.range ops.size).filter fun i=>!listed.getD i true)=[]:=List.length_eq_zero_iff.1 h;have:j ∈ ((List.range ops.size).filter fun i=>!listed.getD i true):=by
  rw[List.mem_filter];exact⟨by simpa using hlt,by rw[h0];rfl⟩
 rw[hn] at this;cases this
theorem wpAny_J {P:Program}{md:Region.Mode}{ops:Array Oper}{Q:Exit→Act→World→Prop}(J:Array Bool→Act→World→Prop)
  (hstep:∀ i listed a w,i ∈ Region.ready md ops listed→J listed a w→wpOp P ops Q i (J (listed.setIfInBounds i true)) a w)
  (hdone:∀ listed a w,Region.ready md ops listed=[]→J listed a w→Q .normal a w) :
  ∀ fuel listed a w,leftIn ops listed≤fuel→J listed a w→wpAny P md ops Q fuel listed a w
 | 0,listed,a,w,hl,hJ=>by
  have hr:=ready_nil (md:=md) (Nat.le_zero.1 hl);exact⟨hr,hdone _ _ _ hr hJ⟩
 | fuel+1,listed,a,w,hl,hJ=>by
  refine⟨fun hr=>hdone _ _ _ hr hJ,fun i hi=>?_⟩;obtain⟨h0,o,ho,-⟩:=mem_ready.1 hi;have hlt:i < ops.size:=(Array.getElem?_eq_some_iff.1 ho).1;have hs:=leftIn_set (ops:=ops) hlt h0;exact wpOp_mono (fun a' w' h'=>wpAny_J J hstep hdone fuel _ a' w' (by omega) h') (hstep i listed a w hi hJ)
theorem leftIn_le (ops:Array Oper)(listed:Array Bool):leftIn ops listed≤ops.size:=by
 unfold leftIn;refine Nat.le_trans (List.length_filter_le _ _) ?_
 simp
theorem wp_region_J {P:Program}{id:Nat}{ops:Array Oper}{Q:Exit→Act→World→Prop}{a:Act}{w:World}(hm:P.follows .mixedOrders=true)(J:Array Bool→Act→World→Prop)
  (h0:J (Array.replicate ops.size false) a w.drew)
  (hstep:∀ i listed a w,i ∈ Region.ready .any ops listed→J listed a w→wpOp P ops Q i (J (listed.setIfInBounds i true)) a w)
  (hdone:∀ listed a w,Region.ready .any ops listed=[]→J listed a w→Q .normal a w) :
  (Code.region id ops true).wp P Q a w:=
 wp_region_any hm (wpAny_J J hstep hdone _ _ _ _ (leftIn_le _ _) h0)
theorem OnlyN.mk {K:Act→World→Prop}{a:Act}{w:World}(h:K a w):OnlyN K .normal a w:=h
theorem wpOp_hidden {P:Program}{ops:Array Oper}{i:Nat}{o:Oper}{a:Act}{w:World}{J:Act→World→Prop}{Q:Exit→Act→World→Prop}(ho:ops[i]?=some o)
  (h:∀ K:Act→World→Prop,Hid (∀ a w,J a w→K a w)→wpList P ops (OnlyN K) [o] a w):wpOp P ops Q i J a w:=wpOp_of_list ho (h J (hid fun _ _ x=>x))
end Go.Proofs.YtcmbdhopmncmnaaGreatDoor
namespace Go.Proofs.YtcmbdhopmncmnaaGreatDoor
open Go.RowKit
set_option maxRecDepth 100000
set_option linter.unusedVariables false
set_option linter.unusedSimpArgs false

theorem OwnI.set {I:TypeId}{w:World}{base g n c:Nat}{zs:List Int}(h:OwnI I w base (.slice (some ⟨g,0,none⟩) n c) zs)(hn:n=zs.length)(j:Nat)(v:Int) :
  OwnI I (w.setCell ⟨g,j,none⟩ (.int .i64 v)) base (.slice (some ⟨g,0,none⟩) n c) (zs.set j v):=by
 subst hn;have:=(World.ownsRow.stored h j (.int .i64 v)).1;unfold OwnI;rw[List.length_set,List.map_set];exact this
theorem OwnI.cellk {I:TypeId}{w:World}{base g n c:Nat}{zs:List Int}(h:OwnI I w base (.slice (some ⟨g,0,none⟩) n c) zs){k:Nat}(hk:k < zs.length) :
  w.cell? ⟨g,k,none⟩=some (.int .i64 (zs.getD k 0))∧w.frozen? ⟨g,k,none⟩=false:=by
 obtain⟨A,c',e,hi,-⟩:=h.ints;injection e with e1 e2 e3
 subst e1 e2 e3;obtain⟨b,o,e,-,hc⟩:=hi.at_ hk;injection e with e
 injection e with e1 e2
 subst e1 e2;rw[Nat.zero_add] at hc;refine⟨by rw[hc,List.getD_eq_getElem?_getD,List.getElem?_eq_getElem hk];rfl,World.ownsRow.frozenAt h k⟩
section
variable {B Pd Pn Pw Po gd cap : Nat} {A : Option Addr} {n c : Nat} {ns : List Nd} {q : Nat} {P : Nat → Prop} {f : Nat} {lv : Int} {zs : List Int} {s : St} {gX gx cx : Nat} {W : World} {ov : Value} {os : List Hd}
 {m:Nat} {ov1:Value} {os1:List Hd} {wr:World}
end
end Go.Proofs.YtcmbdhopmncmnaaGreatDoor
namespace Go.Proofs.YtcmbdhopmncmnaaGreatDoor
open Lib(hid)
open Go.RowKit
set_option maxRecDepth 100000
set_option linter.unusedVariables false
set_option linter.unusedSimpArgs false

def ptV (x y:Int):Value:=.agg #[.int .i64 x,.int .i64 y]
def ordP (x y x' y':Int):Int:=if Lib.compareInt y y'≠0 then Lib.compareInt y y' else Lib.compareInt x x'
theorem isNan_any (x:Int)(w:World):Calls Tryz.prog 126 #[.int .i64 x] w fun e w'=>e=.returned (.bool false)∧w'=w:=by
 have hd:(x != x)=false:=by simp
 go_enter Tryz.func126,Tryz.ntmps126;go_wp2;go_ret;exact⟨rfl,rfl⟩
set_option maxHeartbeats 800000 in
theorem cmpCompare (x y:Int)(w:World):Calls Tryz.prog 105 #[.int .i64 x,.int .i64 y] w fun e w'=>e=.returned (.int .i64 (Lib.compareInt x y))∧w'=w:=by
 have H1:=hid (isNan_any x w);have H2:=hid (isNan_any y w);unfold Lib.compareInt;by_cases h1:x < y
 ·rw[if_pos h1];have d1:decide (x < y)=true:=decide_eq_true h1;clear h1;go_enter Tryz.func105,Tryz.ntmps105;go_wp2_with (first | (go_at_call_of 126 x;refine H1.out.mono ?_;rintro e w1 ⟨rfl,rfl⟩) | (go_at_call_of 126 y;refine H2.out.mono ?_;rintro e w1 ⟨rfl,rfl⟩));go_ret;exact⟨rfl,rfl⟩
 ·rw[if_neg h1];have d1:decide (x < y)=false:=decide_eq_false h1;by_cases h2:x > y
  ·rw[if_pos h2];have d2:decide (y < x)=true:=decide_eq_true h2;clear h1 h2;go_enter Tryz.func105,Tryz.ntmps105;go_wp2_with (first | (go_at_call_of 126 x;refine H1.out.mono ?_;rintro e w1 ⟨rfl,rfl⟩) | (go_at_call_of 126 y;refine H2.out.mono ?_;rintro e w1 ⟨rfl,rfl⟩));go_ret;exact⟨rfl,rfl⟩
  ·rw[if_neg h2];have d2:decide (y < x)=false:=decide_eq_false h2;clear h1 h2;go_enter Tryz.func105,Tryz.ntmps105;go_wp2_with (first | (go_at_call_of 126 x;refine H1.out.mono ?_;rintro e w1 ⟨rfl,rfl⟩) | (go_at_call_of 126 y;refine H2.out.mono ?_;rintro e w1 ⟨rfl,rfl⟩));go_ret;exact⟨rfl,rfl⟩
def orL:List Int→Int
 | []=>0
 | x :: l=>if x=0 then orL l else x
theorem orL_yes {l:List Int}{j:Nat}(h:j < l.length)(hd:l[j]=0):orL (l.drop j)=orL (l.drop (j+1)):=by
 rw[List.drop_eq_getElem_cons h];simp[orL,hd]
theorem orL_no {l:List Int}{j:Nat}(h:j < l.length)(hd:¬ l[j]=0):orL (l.drop j)=l[j]:=by
 rw[List.drop_eq_getElem_cons h];simp[orL,hd]
set_option maxHeartbeats 800000 in
theorem cmpOr_any (A:Option Addr)(c:Nat)(xs:List Int)(w:World)(ha:Ints w A xs):Calls Tryz.prog 104 #[.slice A xs.length c] w fun e w'=>e=.returned (.int .i64 (orL xs))∧w'=w:=by
 have hn:=ha.le;go_enter Tryz.func104,Tryz.ntmps104;go_wp2;go_loopw [8] (fun i wr=>∃ k:Nat,k≤xs.length∧i=.int .i64 k∧wr=w∧Hid (orL xs=orL (xs.drop k))) (fun i _=>xs.length - (intOf i).toNat)
 case atStart=>exact⟨0,Nat.zero_le _,rfl,rfl,hid (by simp)⟩
 case round=>
  obtain⟨k,hk,rfl,rfl,HT⟩:=hrel;by_cases hlt:k < xs.length
  ·obtain⟨b1,o1,rfl,-,hc⟩:=ha.at_ hlt;by_cases he:xs[k]=0
   ·have hd:(xs[k] != 0)=false:=by simp[he]
    have HE:=hid (orL_yes hlt he);clear he;go_wp2;go_roundw
    case rel=>exact⟨k+1,by omega,by go_num,(by first | rfl | trivial),hid (HT.out.trans HE.out)⟩
    case measure=>simp[intOf];omega
   ·have hd:(xs[k] != 0)=true:=by simp[he]
    have HE:=hid (orL_no hlt he);clear he;go_wp2;go_ret;exact⟨ret_int (by rw[HT.out,HE.out]),rfl⟩
  ·have HZ:Hid (orL xs=0):=hid (by
    have:=HT.out;rw[List.drop_of_length_le (by omega)] at this;exact this)
   go_wp2;go_ret;exact⟨ret_int (by rw[HZ.out]),rfl⟩
theorem ints_new (w:World)(zs:List Int)(h0:0 < zs.length)(h1:zs.length≤9223372036854775807):Ints (w.alloc (.cells (zs.map (Value.int .i64)).toArray 3)) (some ⟨w.heap.size,0,none⟩) zs:=by
 refine⟨⟨?_,fun _=>⟨_,rfl,by simp,fun j v hv=>?_⟩⟩,h1⟩
 ·simp
 ·rw[addr_add];have:(w.alloc (.cells (zs.map (Value.int .i64)).toArray 3)).cell? ⟨w.heap.size,0+j,none⟩=(zs.map (Value.int .i64)).toArray[0+j]?:=cell_of_row _ _ _ _ _ _ (heap_alloc_new w _);rw[this];simpa using hv
structure CmpJ (w0:World)(P:Nat)(Q:Nat)(x:Int)(y:Int)(x':Int)(y':Int)(u:Int)(v:Int)(r:Int)(b0 b1 b2 b3 b4 b5 b6 b7 b8 b9 b10 b11 b12:Bool)(v5 v6 v7 v8 v9 v10 v11 v12 v13 v14 v15 v16 v4:Value)(w:World):Prop where
 below:Below w0.heap.size w0 w
 h0:b0=true→v5=.pointer (some ⟨P,1,none⟩)
 h1:b1=true→v6=.int .i64 y
 h2:b2=true→v7=.pointer (some ⟨Q,1,none⟩)
 h3:b3=true→v8=.int .i64 y'
 h4:b4=true→v9=.int .i64 u
 h5:b5=true→v10=.pointer (some ⟨P,0,none⟩)
 h6:b6=true→v11=.int .i64 x
 h7:b7=true→v12=.pointer (some ⟨Q,0,none⟩)
 h8:b8=true→v13=.int .i64 x'
 h9:b9=true→v14=.int .i64 v
 h10:b10=true→∃ g,v15=.slice (some ⟨g,0,none⟩) 2 2∧Ints w (some ⟨g,0,none⟩) [u,v]
 h11:b11=true→v16=.int .i64 r
 h12:b12=true→v4=.int .i64 r
section
variable {w0 : World} {P : Nat} {Q : Nat} {x : Int} {y : Int} {x' : Int} {y' : Int} {u : Int} {v : Int} {r : Int} {b0 b1 b2 b3 b4 b5 b6 b7 b8 b9 b10 b11 b12 : Bool} {v5 v6 v7 v8 v9 v10 v11 v12 v13 v14 v15 v16 v4 : Value} {w w' : World}
theorem CmpJ.world (H:CmpJ w0 P Q x y x' y' u v r b0 b1 b2 b3 b4 b5 b6 b7 b8 b9 b10 b11 b12 v5 v6 v7 v8 v9 v10 v11 v12 v13 v14 v15 v16 v4 w)(hb:Below w.heap.size w w'):CmpJ w0 P Q x y x' y' u v r b0 b1 b2 b3 b4 b5 b6 b7 b8 b9 b10 b11 b12 v5 v6 v7 v8 v9 v10 v11 v12 v13 v14 v15 v16 v4 w':=
 {H with below:=H.below.trans (hb.mono H.below.size),h10:=fun h=>by obtain⟨g,h1,h2⟩:=H.h10 h;exact⟨g,h1,h2.ext hb⟩ }
end
set_option maxHeartbeats 4000000 in
theorem compare_any (x y x' y':Int)(w:World):Calls Tryz.prog 68 #[ptV x y,ptV x' y'] w fun e w'=>e=.returned (.int .i64 (ordP x y x' y'))∧Below w.heap.size w w':=by
 unfold ptV;have hb1:=(below_new w (.cells #[.int .i64 x,.int .i64 y] 43))
 have HB:=hid (hb1.alloc hb1.size (.cells #[.int .i64 x',.int .i64 y'] 43));have p0:=(Blk.new w 43 #[.int .i64 x,.int .i64 y]).alloc (.cells #[.int .i64 x',.int .i64 y'] 43);have q0:=Blk.new (w.alloc (.cells #[.int .i64 x,.int .i64 y] 43)) 43 #[.int .i64 x',.int .i64 y'];rw[show (w.alloc (.cells #[.int .i64 x,.int .i64 y] 43)).heap.size=w.heap.size+1 from by simp] at q0;have P0:=hid (p0.cell_ 0 (.int .i64 x) rfl);have P1:=hid (p0.cell_ 1 (.int .i64 y) rfl);have Q0:=hid (q0.cell_ 0 (.int .i64 x') rfl);have Q1:=hid (q0.cell_ 1 (.int .i64 y') rfl);have HS:Hid (w.heap.size < ((w.alloc (.cells #[.int .i64 x,.int .i64 y] 43)).alloc (.cells #[.int .i64 x',.int .i64 y'] 43)).heap.size∧w.heap.size+1 < ((w.alloc (.cells #[.int .i64 x,.int .i64 y] 43)).alloc (.cells #[.int .i64 x',.int .i64 y'] 43)).heap.size):=hid (by simp;omega);clear hb1 p0 q0;obtain⟨r,hr⟩:∃ r,r=ordP x y x' y':=⟨_,rfl⟩
 have HR:Hid (orL [Lib.compareInt y y',Lib.compareInt x x']=r):=hid (by
  rw[hr];unfold ordP;by_cases h:Lib.compareInt y y'=0
  ·simp[orL,h];intro h2;exact h2.symm
  ·simp[orL,h])
 have HR2:=hid hr;clear hr;have C1:=hid (fun w=>cmpCompare y y' w);have C2:=hid (fun w=>cmpCompare x x' w);generalize Lib.compareInt y y'=u at *;generalize Lib.compareInt x x'=v at *;go_enter Tryz.func68,Tryz.ntmps68;go_upto_region 1 with fail
 generalize ((w.alloc (.cells #[.int .i64 x,.int .i64 y] 43)).alloc (.cells #[.int .i64 x',.int .i64 y'] 43))=w2 at *;refine wp_region_J (by kernel_rfl) (fun listed act w'=>∃ b0 b1 b2 b3 b4 b5 b6 b7 b8 b9 b10 b11 b12 v5 v6 v7 v8 v9 v10 v11 v12 v13 v14 v15 v16 v4,listed=#[b0,b1,b2,b3,b4,b5,b6,b7,b8,b9,b10,b11,b12]∧act=Act.mk #[.agg #[.int .i64 x,.int .i64 y],.agg #[.int .i64 x',.int .i64 y'],.pointer (some ⟨w.heap.size,0,none⟩),.pointer (some ⟨w.heap.size+1,0,none⟩),v4,v5,v6,v7,v8,v9,v10,v11,v12,v13,v14,v15,v16] []∧CmpJ w2 w.heap.size (w.heap.size+1) x y x' y' u v r b0 b1 b2 b3 b4 b5 b6 b7 b8 b9 b10 b11 b12 v5 v6 v7 v8 v9 v10 v11 v12 v13 v14 v15 v16 v4 w') ?_ ?_ ?_
 ·exact (e_8 (e_8 (e_8 (e_2 ⟨rfl,rfl,(by constructor;(case below=>exact (Below.refl _ w2).drew);all_goals simp)⟩))))
 ·rintro i listed act w' hi ⟨b0,b1,b2,b3,b4,b5,b6,b7,b8,b9,b10,b11,b12,v5,v6,v7,v8,v9,v10,v11,v12,v13,v14,v15,v16,v4,rfl,rfl,H⟩;have hi16:i < 13:=by
   obtain⟨-,o,ho,-⟩:=mem_ready.1 hi;exact (Array.getElem?_eq_some_iff.1 ho).1
  obtain rfl | rfl | rfl | rfl | rfl | rfl | rfl | rfl | rfl | rfl | rfl | rfl | rfl:i=0∨i=1∨i=2∨i=3∨i=4∨i=5∨i=6∨i=7∨i=8∨i=9∨i=10∨i=11∨i=12:=by omega
  all_goals simp[mem_ready,Region.binds] at hi
  ·refine wpOp_hidden rfl fun K hK=>?_;go_wp2;refine OnlyN.mk (hK.out _ _ (e_8 (e_8 (e_8 (e_2 ⟨rfl,rfl,{ H with h0:=fun _=>rfl }⟩)))))
  ·obtain rfl:=H.h0 (by simp[hi]);have cc:w'.cell? ⟨w.heap.size,1,none⟩=_:=(H.below.cell (p:=⟨w.heap.size,1,none⟩) HS.out.1).trans P1.out;refine wpOp_hidden rfl fun K hK=>?_;go_wp2;refine OnlyN.mk (hK.out _ _ (e_8 (e_8 (e_8 (e_2 ⟨rfl,rfl,{ H with h1:=fun _=>rfl }⟩)))))
  ·refine wpOp_hidden rfl fun K hK=>?_;go_wp2;refine OnlyN.mk (hK.out _ _ (e_8 (e_8 (e_8 (e_2 ⟨rfl,rfl,{ H with h2:=fun _=>rfl }⟩)))))
  ·obtain rfl:=H.h2 (by simp[hi]);have cc:w'.cell? ⟨w.heap.size+1,1,none⟩=_:=(H.below.cell (p:=⟨w.heap.size+1,1,none⟩) HS.out.2).trans Q1.out;refine wpOp_hidden rfl fun K hK=>?_;go_wp2;refine OnlyN.mk (hK.out _ _ (e_8 (e_8 (e_8 (e_2 ⟨rfl,rfl,{ H with h3:=fun _=>rfl }⟩)))))
  ·obtain rfl:=H.h1 (by simp[hi]);obtain rfl:=H.h3 (by simp[hi]);refine wpOp_hidden rfl fun K hK=>?_;go_wp2_with fail;refine (C1.out _).mono ?_;rintro e w9 ⟨rfl,hw9⟩;have hw8:=hw9.symm;clear hw9;subst hw8;go_wp2;refine OnlyN.mk (hK.out _ _ (e_8 (e_8 (e_8 (e_2 ⟨rfl,rfl,{ H with h4:=fun _=>rfl }⟩)))))
  ·refine wpOp_hidden rfl fun K hK=>?_;go_wp2;refine OnlyN.mk (hK.out _ _ (e_8 (e_8 (e_8 (e_2 ⟨rfl,rfl,{ H with h5:=fun _=>rfl }⟩)))))
  ·obtain rfl:=H.h5 (by simp[hi]);have cc:w'.cell? ⟨w.heap.size,0,none⟩=_:=(H.below.cell (p:=⟨w.heap.size,0,none⟩) HS.out.1).trans P0.out;refine wpOp_hidden rfl fun K hK=>?_;go_wp2;refine OnlyN.mk (hK.out _ _ (e_8 (e_8 (e_8 (e_2 ⟨rfl,rfl,{ H with h6:=fun _=>rfl }⟩)))))
  ·refine wpOp_hidden rfl fun K hK=>?_;go_wp2;refine OnlyN.mk (hK.out _ _ (e_8 (e_8 (e_8 (e_2 ⟨rfl,rfl,{ H with h7:=fun _=>rfl }⟩)))))
  ·obtain rfl:=H.h7 (by simp[hi]);have cc:w'.cell? ⟨w.heap.size+1,0,none⟩=_:=(H.below.cell (p:=⟨w.heap.size+1,0,none⟩) HS.out.2).trans Q0.out;refine wpOp_hidden rfl fun K hK=>?_;go_wp2;refine OnlyN.mk (hK.out _ _ (e_8 (e_8 (e_8 (e_2 ⟨rfl,rfl,{ H with h8:=fun _=>rfl }⟩)))))
  ·obtain rfl:=H.h6 (by simp[hi]);obtain rfl:=H.h8 (by simp[hi]);refine wpOp_hidden rfl fun K hK=>?_;go_wp2_with fail;refine (C2.out _).mono ?_;rintro e w9 ⟨rfl,hw9⟩;have hw8:=hw9.symm;clear hw9;subst hw8;go_wp2;refine OnlyN.mk (hK.out _ _ (e_8 (e_8 (e_8 (e_2 ⟨rfl,rfl,{ H with h9:=fun _=>rfl }⟩)))))
  ·obtain rfl:=H.h4 (by simp[hi]);obtain rfl:=H.h9 (by simp[hi]);have HA:=hid (H.world (below_new w' (.cells #[.int .i64 u,.int .i64 v] 3)));have HI:=hid (ints_new w' [u,v] (by simp) (by simp));have HH:=hid H;clear H;refine wpOp_hidden rfl fun K hK=>?_;go_wp2;refine OnlyN.mk (hK.out _ _ (e_8 (e_8 (e_8 (e_2 ⟨rfl,rfl,⟨HA.out.below,HA.out.h0,HA.out.h1,HA.out.h2,HA.out.h3,HA.out.h4,HA.out.h5,HA.out.h6,HA.out.h7,HA.out.h8,HA.out.h9,fun _=>⟨w'.heap.size,rfl,HI.out⟩,HA.out.h11,HA.out.h12⟩⟩)))))
  ·obtain⟨g,rfl,hg⟩:=H.h10 (by simp[hi]);have HO:=hid (cmpOr_any (some ⟨g,0,none⟩) 2 [u,v] w' hg);rw[HR.out] at HO;clear hg;refine wpOp_hidden rfl fun K hK=>?_;go_wp2_with fail;refine HO.out.mono ?_;rintro e w9 ⟨rfl,hw9⟩;have hw8:=hw9.symm;clear hw9;subst hw8;go_wp2;refine OnlyN.mk (hK.out _ _ (e_8 (e_8 (e_8 (e_2 ⟨rfl,rfl,{ H with h11:=fun _=>rfl }⟩)))))
  ·obtain rfl:=H.h11 (by simp[hi]);refine wpOp_hidden rfl fun K hK=>?_;go_wp2;refine OnlyN.mk (hK.out _ _ (e_8 (e_8 (e_8 (e_2 ⟨rfl,rfl,{ H with h12:=fun _=>rfl }⟩)))))
 ·rintro listed act w' hr ⟨b0,b1,b2,b3,b4,b5,b6,b7,b8,b9,b10,b11,b12,v5,v6,v7,v8,v9,v10,v11,v12,v13,v14,v15,v16,v4,rfl,rfl,H⟩;have hn:=List.eq_nil_iff_forall_not_mem.1 hr;have r0:=hn 0;simp[mem_ready,Region.binds] at r0;subst r0;have r1:=hn 1;simp[mem_ready,Region.binds] at r1;subst r1;have r2:=hn 2;simp[mem_ready,Region.binds] at r2;subst r2;have r3:=hn 3;simp[mem_ready,Region.binds] at r3;subst r3;have r4:=hn 4;simp[mem_ready,Region.binds] at r4;subst r4;have r5:=hn 5;simp[mem_ready,Region.binds] at r5;subst r5;have r6:=hn 6;simp[mem_ready,Region.binds] at r6;subst r6;have r7:=hn 7;simp[mem_ready,Region.binds] at r7;subst r7;have r8:=hn 8;simp[mem_ready,Region.binds] at r8;subst r8;have r9:=hn 9;simp[mem_ready,Region.binds] at r9;subst r9;have r10:=hn 10;simp[mem_ready,Region.binds] at r10;subst r10;have r11:=hn 11;simp[mem_ready,Region.binds] at r11;subst r11;have r12:=hn 12;simp[mem_ready,Region.binds] at r12;subst r12;obtain rfl:=H.h12 rfl;go_wp2_with fail;go_ret;exact⟨ret_int HR2.out,HB.out.trans (H.below.mono HB.out.size)⟩


def rngB (p:Int × Int):Bool:=decide (-2≤p.1) && decide (p.1≤2) && decide (-2≤p.2) && decide (p.2≤2)
def okH (q:Option (Int × Int))(p:Int × Int):Bool:=rngB p && (match q with | none=>true | some a=>decide (ordP a.1 a.2 p.1 p.2 < 0))
def chainH:Option (Int × Int)→List (Int × Int)→Bool
 | _,[]=>true
 | q,p :: l=>okH q p && chainH (some p) l
def hoodB (ps:List (Int × Int)):Bool:=decide (1≤ps.length) && decide (ps.length≤25) && chainH none ps
def prevH (ps:List (Int × Int)):Nat→Option (Int × Int)
 | 0=>none
 | k+1=>ps[k]?
theorem chainH_yes {ps:List (Int × Int)}{k:Nat}(h:k < ps.length)(hd:okH (prevH ps k) ps[k]=true):chainH (prevH ps k) (ps.drop k)=chainH (prevH ps (k+1)) (ps.drop (k+1)):=by
 rw[List.drop_eq_getElem_cons h];show (okH (prevH ps k) ps[k] && chainH (some ps[k]) (ps.drop (k+1)))=chainH ps[k]? (ps.drop (k+1));rw[hd,List.getElem?_eq_getElem h,Bool.true_and]
theorem chainH_no {ps:List (Int × Int)}{k:Nat}(h:k < ps.length)(hd:okH (prevH ps k) ps[k]=false):chainH (prevH ps k) (ps.drop k)=false:=by
 rw[List.drop_eq_getElem_cons h];show (okH (prevH ps k) ps[k] && chainH (some ps[k]) (ps.drop (k+1)))=false;rw[hd,Bool.false_and]
set_option maxHeartbeats 16000000 in
theorem hood_any (A:Option Addr)(c:Nat)(ps:List (Int × Int))(w:World)(ha:Pts w A ps) :
  Calls Tryz.prog 27 #[.slice A ps.length c] w fun e w'=>e=.returned (.bool (hoodB ps))∧Below w.heap.size w w':=by
 have hn:=ha.le;by_cases h1:ps.length < 1
 ·have d1:decide ((ps.length:Int) < 1)=true:=decide_eq_true (by omega);have HE:Hid (hoodB ps=false):=hid (by unfold hoodB;rw[decide_eq_false (by omega:¬ 1≤ps.length)];rfl);clear h1;go_enter Tryz.func27,Tryz.ntmps27;go_wp2;go_ret;exact⟨ret_bool (by rw[HE.out] <;> rfl),Below.refl _ _⟩
 have d1:decide ((ps.length:Int) < 1)=false:=decide_eq_false (by omega);by_cases h2:25 < ps.length
 ·have d2:decide ((25:Int) < (ps.length:Int))=true:=decide_eq_true (by omega);have HE:Hid (hoodB ps=false):=hid (by unfold hoodB;rw[decide_eq_false (by omega:¬ ps.length≤25),Bool.and_false];rfl);clear h1 h2;go_enter Tryz.func27,Tryz.ntmps27;go_wp2;go_ret;exact⟨ret_bool (by rw[HE.out] <;> rfl),Below.refl _ _⟩
 have d2:decide ((25:Int) < (ps.length:Int))=false:=decide_eq_false (by omega);have HL:=hid (show 1≤ps.length∧ps.length≤25 by omega);have HE:Hid (hoodB ps=chainH none ps):=hid (by unfold hoodB;rw[decide_eq_true HL.out.1,decide_eq_true HL.out.2];rfl);have HA:=hid ha;clear h1 h2 ha;go_enter Tryz.func27,Tryz.ntmps27;go_wp2;go_loopw [15] (fun i wr=>∃ k:Nat,k≤ps.length∧i=.int .i64 k∧Hid (Below w.heap.size w wr)∧Hid (chainH none ps=chainH (prevH ps k) (ps.drop k))) (fun i _=>ps.length - (intOf i).toNat)
 case atStart=>exact⟨0,Nat.zero_le _,rfl,hid (Below.refl _ _),hid rfl⟩
 case round=>
  obtain⟨k,hk,rfl,HB,HT⟩:=hrel;by_cases hlt:k < ps.length
  ·obtain⟨b1,o1,e1,hb1,hc0,hc1⟩:=(HA.out.ext HB.out).at_ hlt;have hpre:0 < k→wr.cell? ⟨b1,o1+(k - 1)*2,none⟩=some (.int .i64 (ps[k - 1]'(by omega)).1)∧wr.cell? ⟨b1,o1+(k - 1)*2+1,none⟩=some (.int .i64 (ps[k - 1]'(by omega)).2):=fun h=>by
    obtain⟨b1',o1',e1',-,h0,h1⟩:=(HA.out.ext HB.out).at_ (k:=k - 1) (by omega);rw[e1] at e1';injection e1' with e1'
    injection e1' with e2 e3
    subst e2 e3;exact⟨h0,h1⟩
   obtain⟨cx,hcx⟩:∃ cx,cx=ps[k]:=⟨_,rfl⟩
   rw[← hcx] at hc0 hc1;have HCX:=hid hcx;have HPRE:=hid hpre;have HLT:=hid hlt;obtain⟨x,y⟩:=cx;dsimp only at hc0 hc1;have hw1:wrap64 ((k:Int)+1)=(k:Int)+1:=by have:=HL.out;unfold wrap64;omega
   obtain⟨wb,hwb⟩:∃ wb,wb=wr.alloc (.cells #[.int .i64 x,.int .i64 y] 43):=⟨_,rfl⟩
   have hnb:=below_new wr (.cells #[.int .i64 x,.int .i64 y] 43);have p0:=Blk.new wr 43 #[.int .i64 x,.int .i64 y];rw[← hwb] at hnb p0;have P0:=cell_regrown (p0.cell_ 0 (.int .i64 x) rfl);have P1:=cell_regrown (p0.cell_ 1 (.int .i64 y) rfl);have HB2:=hid (HB.out.trans (hnb.mono HB.out.size));have HW:=hid hwb;have HNB:=hid hnb;clear hcx hpre p0 hnb hwb hk;by_cases a1:x < -2
   ·have e1d:decide (x < -2)=true:=decide_eq_true a1;have HF:Hid (chainH none ps=false):=hid (by rw[HT.out];exact chainH_no HLT.out (by rw[← HCX.out];unfold okH rngB;dsimp only;rw[decide_eq_false (by omega:¬ -2≤x)] <;> rfl));subst e1;go_upto_region 6 with fail
    rw[← HW.out];refine wp_region_quiet_below (by kernel_rfl) (by kernel_rfl) ?_;repeat (go_big_quiet_step (fail))
    refine wpQuiet_nil ?_;intro _ hw';obtain⟨⟨dq,osq⟩,hw''⟩:=hw';subst hw'';go_wp2;go_ret;exact⟨ret_bool (by rw[HE.out,HF.out] <;> rfl),HB2.out.trans ((below_regrown wb dq osq).mono HB2.out.size)⟩
   have f1:decide (x < -2)=false:=decide_eq_false a1;by_cases a2:2 < x
   ·have e2d:decide (2 < x)=true:=decide_eq_true a2;have HF:Hid (chainH none ps=false):=hid (by rw[HT.out];exact chainH_no HLT.out (by rw[← HCX.out];unfold okH rngB;dsimp only;rw[decide_eq_false (by omega:¬ x≤2)];simp));subst e1;go_upto_region 6 with fail
    rw[← HW.out];refine wp_region_quiet_below (by kernel_rfl) (by kernel_rfl) ?_;repeat (go_big_quiet_step (fail))
    refine wpQuiet_nil ?_;intro _ hw';obtain⟨⟨dq,osq⟩,hw''⟩:=hw';subst hw'';go_wp2;go_ret;exact⟨ret_bool (by rw[HE.out,HF.out] <;> rfl),HB2.out.trans ((below_regrown wb dq osq).mono HB2.out.size)⟩
   have f2:decide (2 < x)=false:=decide_eq_false a2;by_cases a3:y < -2
   ·have e3d:decide (y < -2)=true:=decide_eq_true a3;have HF:Hid (chainH none ps=false):=hid (by rw[HT.out];exact chainH_no HLT.out (by rw[← HCX.out];unfold okH rngB;dsimp only;rw[decide_eq_false (by omega:¬ -2≤y)];simp));subst e1;go_upto_region 6 with fail
    rw[← HW.out];refine wp_region_quiet_below (by kernel_rfl) (by kernel_rfl) ?_;repeat (go_big_quiet_step (fail))
    refine wpQuiet_nil ?_;intro _ hw';obtain⟨⟨dq,osq⟩,hw''⟩:=hw';subst hw'';go_wp2;go_ret;exact⟨ret_bool (by rw[HE.out,HF.out] <;> rfl),HB2.out.trans ((below_regrown wb dq osq).mono HB2.out.size)⟩
   have f3:decide (y < -2)=false:=decide_eq_false a3;by_cases a4:2 < y
   ·have e4d:decide (2 < y)=true:=decide_eq_true a4;have HF:Hid (chainH none ps=false):=hid (by rw[HT.out];exact chainH_no HLT.out (by rw[← HCX.out];unfold okH rngB;dsimp only;rw[decide_eq_false (by omega:¬ y≤2)];simp));subst e1;go_upto_region 6 with fail
    rw[← HW.out];refine wp_region_quiet_below (by kernel_rfl) (by kernel_rfl) ?_;repeat (go_big_quiet_step (fail))
    refine wpQuiet_nil ?_;intro _ hw';obtain⟨⟨dq,osq⟩,hw''⟩:=hw';subst hw'';go_wp2;go_ret;exact⟨ret_bool (by rw[HE.out,HF.out] <;> rfl),HB2.out.trans ((below_regrown wb dq osq).mono HB2.out.size)⟩
   have f4:decide (2 < y)=false:=decide_eq_false a4;have HR:Hid (rngB (x,y)=true):=hid (by unfold rngB;dsimp only;rw[decide_eq_true (by omega:-2≤x),decide_eq_true (by omega:x≤2),decide_eq_true (by omega:-2≤y),decide_eq_true (by omega:y≤2)];rfl);by_cases hk0:0 < k
   ·obtain⟨k1,rfl⟩:∃ k1,k=k1+1:=⟨k - 1,by omega⟩
    obtain⟨q0,q1⟩:=HPRE.out hk0;simp only[Nat.add_sub_cancel] at q0 q1;have hw1':wrap64 ((k1:Int)+1+1)=(k1:Int)+1+1:=by have:=HL.out;unfold wrap64;omega
    have hwk:wrap64 ((k1:Int)+1 - 1)=k1:=by have:=HL.out;unfold wrap64;omega
    have hwk2:wrap64 (k1:Int)=k1:=by have:=HL.out;unfold wrap64;omega
    have hprev:prevH ps (k1+1)=some (ps[k1]'(by omega)):=List.getElem?_eq_getElem (by omega);obtain⟨qx,hqx⟩:∃ qx,qx=ps[k1]'(by omega):=⟨_,rfl⟩
    rw[← hqx] at q0 q1 hprev;obtain⟨x',y'⟩:=qx;dsimp only at q0 q1;have hk1l:k1 < ps.length:=by omega
    have HPV:=hid hprev;have Q0:=cell_regrown (w:=wb) (v:=.int .i64 x') (a:=⟨b1,o1+k1*2,none⟩) ((HNB.out.cell hb1).trans q0);have Q1:=cell_regrown (w:=wb) (v:=.int .i64 y') (a:=⟨b1,o1+k1*2+1,none⟩) ((HNB.out.cell hb1).trans q1);have cC:=fun d os=>Calls.regrown_of (w:=wb) (d:=d) (os:=os) (compare_any x' y' x y _);unfold ptV at cC;have CC:=hid cC;clear cC q0 q1 hprev hqx hk0 a1 a2 a3 a4;by_cases hcm:ordP x' y' x y < 0
    ·have g2:decide ((0:Int)≤ordP x' y' x y)=false:=decide_eq_false (by omega);have HOK:Hid (chainH (prevH ps (k1+1)) (ps.drop (k1+1))=chainH (prevH ps (k1+1+1)) (ps.drop (k1+1+1))):=hid (chainH_yes HLT.out (by rw[HPV.out,← HCX.out];unfold okH;rw[HR.out];simpa using hcm));obtain⟨od,hod⟩:∃ od,od=ordP x' y' x y:=⟨_,rfl⟩
     rw[← hod] at CC g2;clear hcm hod;subst e1;go_upto_region 6 with fail
     rw[← HW.out];refine wp_region_quiet_below (by kernel_rfl) (by kernel_rfl) ?_;repeat (go_big_quiet_step (with_reducible exact CC.out _ _))
     refine wpQuiet_nil ?_;intro _ hw';obtain⟨⟨dq,osq⟩,hw''⟩:=hw';subst hw'';go_wp2;go_roundw
     case rel=>exact⟨k1+1+1,HLT.out,rfl,hid (HB2.out.trans ((below_regrown wb dq osq).mono HB2.out.size)),hid (HT.out.trans HOK.out)⟩
     case measure=>have:=HLT.out;simp[intOf];omega
    ·have g2:decide ((0:Int)≤ordP x' y' x y)=true:=decide_eq_true (by omega);have HF:Hid (chainH none ps=false):=hid (by rw[HT.out];exact chainH_no HLT.out (by rw[HPV.out,← HCX.out];unfold okH;rw[HR.out];simpa using hcm));obtain⟨od,hod⟩:∃ od,od=ordP x' y' x y:=⟨_,rfl⟩
     rw[← hod] at CC g2;clear hcm hod;subst e1;go_upto_region 6 with fail
     rw[← HW.out];refine wp_region_quiet_below (by kernel_rfl) (by kernel_rfl) ?_;repeat (go_big_quiet_step (with_reducible exact CC.out _ _))
     refine wpQuiet_nil ?_;intro _ hw';obtain⟨⟨dq,osq⟩,hw''⟩:=hw';subst hw'';go_wp2;go_ret;exact⟨ret_bool (by rw[HE.out,HF.out] <;> rfl),HB2.out.trans ((below_regrown wb dq osq).mono HB2.out.size)⟩
   ·obtain rfl:k=0:=by omega
    have HOK:Hid (chainH (prevH ps 0) (ps.drop 0)=chainH (prevH ps (0+1)) (ps.drop (0+1))):=hid (chainH_yes HLT.out (by rw[← HCX.out];unfold okH;rw[HR.out];rfl));simp only[Nat.zero_mul,Nat.add_zero] at hc0 hc1;clear a1 a2 a3 a4 hk0;subst e1;go_upto_region 6 with fail
    rw[← HW.out];refine wp_region_quiet_below (by kernel_rfl) (by kernel_rfl) ?_;repeat (go_big_quiet_step (fail))
    refine wpQuiet_nil ?_;intro _ hw';obtain⟨⟨dq,osq⟩,hw''⟩:=hw';subst hw'';go_wp2;go_roundw
    case rel=>exact⟨0+1,HLT.out,rfl,hid (HB2.out.trans ((below_regrown wb dq osq).mono HB2.out.size)),hid (HT.out.trans HOK.out)⟩
    case measure=>have:=HLT.out;simp[intOf];omega
  ·have HF:Hid (chainH none ps=true):=hid (by
    have h:=HT.out;rw[List.drop_of_length_le (by omega)] at h;exact h)
   go_wp2;go_ret;exact⟨ret_bool (by rw[HE.out,HF.out] <;> rfl),HB.out⟩
end Go.Proofs.YtcmbdhopmncmnaaGreatDoor
namespace Go.Proofs.YtcmbdhopmncmnaaGreatDoor
set_option linter.unusedSimpArgs false
set_option linter.unusedVariables false
open Go.RowKit
theorem take_eq_snoc {α:Type}{xs ys:List α}{k:Nat}(h:xs.take k=ys.take k)(h1:k < xs.length)(h2:k < ys.length)(h3:xs[k]=ys[k]):xs.take (k+1)=ys.take (k+1):=by
 rw[List.take_succ_eq_append_getElem h1,List.take_succ_eq_append_getElem h2,h,h3]
set_option maxRecDepth 100000
theorem Tryz.stood_pt:Tryz.prog.stoodInHeld 43=false:=by kernel_rfl
theorem Tryz.guard_pt:Tryz.prog.eqGuardType Tryz.prog.depth 43=false:=by kernel_rfl
theorem neq_pt (a b c d:Int)(w:World):(binOp .neq 43 (.agg #[.int .i64 a,.int .i64 b]) (.agg #[.int .i64 c,.int .i64 d])).run Tryz.prog w=.ok (.bool (ptNe a b c d)) w:=by
 have h1:=Tryz.stood_pt;simp[go_sem,h1];unfold ptNe;by_cases h2:a=c <;> by_cases h3:b=d <;> simp[h2,h3]
theorem eql_pt (a b c d:Int)(w:World):(binOp .eql 43 (.agg #[.int .i64 a,.int .i64 b]) (.agg #[.int .i64 c,.int .i64 d])).run Tryz.prog w=.ok (.bool (ptEq a b c d)) w:=by
 have h1:=Tryz.stood_pt;simp[go_sem,h1];unfold ptEq;by_cases h2:a=c <;> by_cases h3:b=d <;> simp[h2,h3]
end Go.Proofs.YtcmbdhopmncmnaaGreatDoor
namespace Go.Proofs.YtcmbdhopmncmnaaGreatDoor
open Lib(hid)
open Go.RowKit
set_option maxRecDepth 100000
set_option linter.unusedVariables false
set_option linter.unusedSimpArgs false

theorem bef_ord (x' y' x y:Int):(decide (y' < y) || (y' == y && decide (x' < x)))=decide (ordP x' y' x y < 0):=by
 unfold ordP Lib.compareInt;by_cases h1:y' < y
 ·simp[h1]
 ·by_cases h2:y'=y
  ·subst h2;by_cases h3:x' < x
   ·simp[h3]
   ·by_cases h4:x' > x
    ·simp[h3,h4]
    ·simp[h3,h4]
  ·have h3:y' > y:=by omega
   have h4:¬ y' < y:=h1;simp[h1,h2,h3]
set_option maxHeartbeats 1000000 in
theorem rbefore_any (x' y' x y:Int)(w:World):Calls Tryz.prog 71 #[ptV x' y',ptV x y] w fun e w'=>e=.returned (.bool (decide (ordP x' y' x y < 0)))∧Below w.heap.size w w':=by
 rw[← bef_ord];unfold ptV;by_cases h1:y' < y
 ·have d1:decide (y' < y)=true:=decide_eq_true h1;rw[d1,Bool.true_or];clear h1;go_enter Tryz.func71,Tryz.ntmps71;go_wp2;go_ret;exact⟨rfl,(below_new w _).alloc (below_new w _).size _⟩
 ·have d1:decide (y' < y)=false:=decide_eq_false h1;rw[d1,Bool.false_or];by_cases h2:y'=y
  ·have e2:(y' == y)=true:=by simp[h2]
   rw[e2,Bool.true_and];clear h1 h2;go_enter Tryz.func71,Tryz.ntmps71;go_wp2;go_ret;exact⟨rfl,(below_new w _).alloc (below_new w _).size _⟩
  ·have e2:(y' == y)=false:=by simpa using h2
   rw[e2,Bool.false_and];clear h1 h2;go_enter Tryz.func71,Tryz.ntmps71;go_wp2;go_ret;exact⟨rfl,(below_new w _).alloc (below_new w _).size _⟩
set_option maxHeartbeats 16000000 in
theorem rhood_any (A:Option Addr)(c:Nat)(ps:List (Int × Int))(w:World)(ha:Pts w A ps) :
  Calls Tryz.prog 31 #[.slice A ps.length c] w fun e w'=>e=.returned (.bool (hoodB ps))∧Below w.heap.size w w':=by
 have hn:=ha.le;by_cases h1:ps.length < 1
 ·have d1:decide ((ps.length:Int) < 1)=true:=decide_eq_true (by omega);have HE:Hid (hoodB ps=false):=hid (by unfold hoodB;rw[decide_eq_false (by omega:¬ 1≤ps.length)];rfl);clear h1;go_enter Tryz.func31,Tryz.ntmps31;go_wp2;go_ret;exact⟨ret_bool (by rw[HE.out] <;> rfl),Below.refl _ _⟩
 have d1:decide ((ps.length:Int) < 1)=false:=decide_eq_false (by omega);by_cases h2:25 < ps.length
 ·have d2:decide ((25:Int) < (ps.length:Int))=true:=decide_eq_true (by omega);have HE:Hid (hoodB ps=false):=hid (by unfold hoodB;rw[decide_eq_false (by omega:¬ ps.length≤25),Bool.and_false];rfl);clear h1 h2;go_enter Tryz.func31,Tryz.ntmps31;go_wp2;go_ret;exact⟨ret_bool (by rw[HE.out] <;> rfl),Below.refl _ _⟩
 have d2:decide ((25:Int) < (ps.length:Int))=false:=decide_eq_false (by omega);have HL:=hid (show 1≤ps.length∧ps.length≤25 by omega);have HE:Hid (hoodB ps=chainH none ps):=hid (by unfold hoodB;rw[decide_eq_true HL.out.1,decide_eq_true HL.out.2];rfl);have HA:=hid ha;clear h1 h2 ha;go_enter Tryz.func31,Tryz.ntmps31;go_wp2;go_loopw [3] (fun i wr=>∃ k:Nat,k≤ps.length∧i=.int .i64 k∧Hid (Below w.heap.size w wr)∧Hid (chainH none ps=chainH (prevH ps k) (ps.drop k))) (fun i _=>ps.length - (intOf i).toNat)
 case atStart=>exact⟨0,Nat.zero_le _,rfl,hid (Below.refl _ _),hid rfl⟩
 case round=>
  obtain⟨k,hk,rfl,HB,HT⟩:=hrel;by_cases hlt:k < ps.length
  ·obtain⟨b1,o1,e1,hb1,hc0,hc1⟩:=(HA.out.ext HB.out).at_ hlt;have hpre:0 < k→wr.cell? ⟨b1,o1+(k - 1)*2,none⟩=some (.int .i64 (ps[k - 1]'(by omega)).1)∧wr.cell? ⟨b1,o1+(k - 1)*2+1,none⟩=some (.int .i64 (ps[k - 1]'(by omega)).2):=fun h=>by
    obtain⟨b1',o1',e1',-,h0,h1⟩:=(HA.out.ext HB.out).at_ (k:=k - 1) (by omega);rw[e1] at e1';injection e1' with e1'
    injection e1' with e2 e3
    subst e2 e3;exact⟨h0,h1⟩
   obtain⟨cx,hcx⟩:∃ cx,cx=ps[k]:=⟨_,rfl⟩
   rw[← hcx] at hc0 hc1;have HCX:=hid hcx;have HPRE:=hid hpre;have HLT:=hid hlt;obtain⟨x,y⟩:=cx;dsimp only at hc0 hc1;have hw1:wrap64 ((k:Int)+1)=(k:Int)+1:=by have:=HL.out;unfold wrap64;omega
   obtain⟨wb,hwb⟩:∃ wb,wb=wr.alloc (.cells #[.int .i64 x,.int .i64 y] 43):=⟨_,rfl⟩
   have hnb:=below_new wr (.cells #[.int .i64 x,.int .i64 y] 43);have p0:=Blk.new wr 43 #[.int .i64 x,.int .i64 y];rw[← hwb] at hnb p0;have P0:=cell_regrown (p0.cell_ 0 (.int .i64 x) rfl);have P1:=cell_regrown (p0.cell_ 1 (.int .i64 y) rfl);have HB2:=hid (HB.out.trans (hnb.mono HB.out.size));have HW:=hid hwb;have HNB:=hid hnb;clear hcx hpre p0 hnb hwb hk;by_cases a1:x < -2
   ·have e1d:decide (x < -2)=true:=decide_eq_true a1;have HF:Hid (chainH none ps=false):=hid (by rw[HT.out];exact chainH_no HLT.out (by rw[← HCX.out];unfold okH rngB;dsimp only;rw[decide_eq_false (by omega:¬ -2≤x)] <;> rfl));subst e1;go_upto_region 7 with fail
    rw[← HW.out];refine wp_region_quiet_below (by kernel_rfl) (by kernel_rfl) ?_;repeat (go_big_quiet_step (fail))
    refine wpQuiet_nil ?_;intro _ hw';obtain⟨⟨dq,osq⟩,hw''⟩:=hw';subst hw'';go_wp2;go_ret;exact⟨ret_bool (by rw[HE.out,HF.out] <;> rfl),HB2.out.trans ((below_regrown wb dq osq).mono HB2.out.size)⟩
   have f1:decide (x < -2)=false:=decide_eq_false a1;by_cases a2:2 < x
   ·have e2d:decide (2 < x)=true:=decide_eq_true a2;have HF:Hid (chainH none ps=false):=hid (by rw[HT.out];exact chainH_no HLT.out (by rw[← HCX.out];unfold okH rngB;dsimp only;rw[decide_eq_false (by omega:¬ x≤2)];simp));subst e1;go_upto_region 7 with fail
    rw[← HW.out];refine wp_region_quiet_below (by kernel_rfl) (by kernel_rfl) ?_;repeat (go_big_quiet_step (fail))
    refine wpQuiet_nil ?_;intro _ hw';obtain⟨⟨dq,osq⟩,hw''⟩:=hw';subst hw'';go_wp2;go_ret;exact⟨ret_bool (by rw[HE.out,HF.out] <;> rfl),HB2.out.trans ((below_regrown wb dq osq).mono HB2.out.size)⟩
   have f2:decide (2 < x)=false:=decide_eq_false a2;by_cases a3:y < -2
   ·have e3d:decide (y < -2)=true:=decide_eq_true a3;have HF:Hid (chainH none ps=false):=hid (by rw[HT.out];exact chainH_no HLT.out (by rw[← HCX.out];unfold okH rngB;dsimp only;rw[decide_eq_false (by omega:¬ -2≤y)];simp));subst e1;go_upto_region 7 with fail
    rw[← HW.out];refine wp_region_quiet_below (by kernel_rfl) (by kernel_rfl) ?_;repeat (go_big_quiet_step (fail))
    refine wpQuiet_nil ?_;intro _ hw';obtain⟨⟨dq,osq⟩,hw''⟩:=hw';subst hw'';go_wp2;go_ret;exact⟨ret_bool (by rw[HE.out,HF.out] <;> rfl),HB2.out.trans ((below_regrown wb dq osq).mono HB2.out.size)⟩
   have f3:decide (y < -2)=false:=decide_eq_false a3;by_cases a4:2 < y
   ·have e4d:decide (2 < y)=true:=decide_eq_true a4;have HF:Hid (chainH none ps=false):=hid (by rw[HT.out];exact chainH_no HLT.out (by rw[← HCX.out];unfold okH rngB;dsimp only;rw[decide_eq_false (by omega:¬ y≤2)];simp));subst e1;go_upto_region 7 with fail
    rw[← HW.out];refine wp_region_quiet_below (by kernel_rfl) (by kernel_rfl) ?_;repeat (go_big_quiet_step (fail))
    refine wpQuiet_nil ?_;intro _ hw';obtain⟨⟨dq,osq⟩,hw''⟩:=hw';subst hw'';go_wp2;go_ret;exact⟨ret_bool (by rw[HE.out,HF.out] <;> rfl),HB2.out.trans ((below_regrown wb dq osq).mono HB2.out.size)⟩
   have f4:decide (2 < y)=false:=decide_eq_false a4;have HR:Hid (rngB (x,y)=true):=hid (by unfold rngB;dsimp only;rw[decide_eq_true (by omega:-2≤x),decide_eq_true (by omega:x≤2),decide_eq_true (by omega:-2≤y),decide_eq_true (by omega:y≤2)];rfl);by_cases hk0:0 < k
   ·obtain⟨k1,rfl⟩:∃ k1,k=k1+1:=⟨k - 1,by omega⟩
    obtain⟨q0,q1⟩:=HPRE.out hk0;simp only[Nat.add_sub_cancel] at q0 q1;have hw1':wrap64 ((k1:Int)+1+1)=(k1:Int)+1+1:=by have:=HL.out;unfold wrap64;omega
    have hwk:wrap64 ((k1:Int)+1 - 1)=k1:=by have:=HL.out;unfold wrap64;omega
    have hwk2:wrap64 (k1:Int)=k1:=by have:=HL.out;unfold wrap64;omega
    have hprev:prevH ps (k1+1)=some (ps[k1]'(by omega)):=List.getElem?_eq_getElem (by omega);obtain⟨qx,hqx⟩:∃ qx,qx=ps[k1]'(by omega):=⟨_,rfl⟩
    rw[← hqx] at q0 q1 hprev;obtain⟨x',y'⟩:=qx;dsimp only at q0 q1;have hk1l:k1 < ps.length:=by omega
    have HPV:=hid hprev;have Q0:=cell_regrown (w:=wb) (v:=.int .i64 x') (a:=⟨b1,o1+k1*2,none⟩) ((HNB.out.cell hb1).trans q0);have Q1:=cell_regrown (w:=wb) (v:=.int .i64 y') (a:=⟨b1,o1+k1*2+1,none⟩) ((HNB.out.cell hb1).trans q1);have cC:=fun d os=>Calls.regrown_of (w:=wb) (d:=d) (os:=os) (rbefore_any x' y' x y _);unfold ptV at cC;have CC:=hid cC;clear cC q0 q1 hprev hqx hk0 a1 a2 a3 a4;by_cases hcm:ordP x' y' x y < 0
    ·have g2:decide ((0:Int)≤ordP x' y' x y)=false:=decide_eq_false (by omega);have HOK:Hid (chainH (prevH ps (k1+1)) (ps.drop (k1+1))=chainH (prevH ps (k1+1+1)) (ps.drop (k1+1+1))):=hid (chainH_yes HLT.out (by rw[HPV.out,← HCX.out];unfold okH;rw[HR.out];simpa using hcm));simp only[decide_eq_true hcm] at CC;clear hcm g2;subst e1;go_upto_region 7 with fail
     rw[← HW.out];refine wp_region_quiet_below (by kernel_rfl) (by kernel_rfl) ?_;repeat (go_big_quiet_step (with_reducible exact CC.out _ _))
     refine wpQuiet_nil ?_;intro _ hw';obtain⟨⟨dq,osq⟩,hw''⟩:=hw';subst hw'';go_wp2;go_roundw
     case rel=>exact⟨k1+1+1,HLT.out,rfl,hid (HB2.out.trans ((below_regrown wb dq osq).mono HB2.out.size)),hid (HT.out.trans HOK.out)⟩
     case measure=>have:=HLT.out;simp[intOf];omega
    ·have g2:decide ((0:Int)≤ordP x' y' x y)=true:=decide_eq_true (by omega);have HF:Hid (chainH none ps=false):=hid (by rw[HT.out];exact chainH_no HLT.out (by rw[HPV.out,← HCX.out];unfold okH;rw[HR.out];simpa using hcm));simp only[decide_eq_false hcm] at CC;clear hcm g2;subst e1;go_upto_region 7 with fail
     rw[← HW.out];refine wp_region_quiet_below (by kernel_rfl) (by kernel_rfl) ?_;repeat (go_big_quiet_step (with_reducible exact CC.out _ _))
     refine wpQuiet_nil ?_;intro _ hw';obtain⟨⟨dq,osq⟩,hw''⟩:=hw';subst hw'';go_wp2;go_ret;exact⟨ret_bool (by rw[HE.out,HF.out] <;> rfl),HB2.out.trans ((below_regrown wb dq osq).mono HB2.out.size)⟩
   ·obtain rfl:k=0:=by omega
    have HOK:Hid (chainH (prevH ps 0) (ps.drop 0)=chainH (prevH ps (0+1)) (ps.drop (0+1))):=hid (chainH_yes HLT.out (by rw[← HCX.out];unfold okH;rw[HR.out];rfl));simp only[Nat.zero_mul,Nat.add_zero] at hc0 hc1;clear a1 a2 a3 a4 hk0;subst e1;go_upto_region 7 with fail
    rw[← HW.out];refine wp_region_quiet_below (by kernel_rfl) (by kernel_rfl) ?_;repeat (go_big_quiet_step (fail))
    refine wpQuiet_nil ?_;intro _ hw';obtain⟨⟨dq,osq⟩,hw''⟩:=hw';subst hw'';go_wp2;go_roundw
    case rel=>exact⟨0+1,HLT.out,rfl,hid (HB2.out.trans ((below_regrown wb dq osq).mono HB2.out.size)),hid (HT.out.trans HOK.out)⟩
    case measure=>have:=HLT.out;simp[intOf];omega
  ·have HF:Hid (chainH none ps=true):=hid (by
    have h:=HT.out;rw[List.drop_of_length_le (by omega)] at h;exact h)
   go_wp2;go_ret;exact⟨ret_bool (by rw[HE.out,HF.out] <;> rfl),HB.out⟩
end Go.Proofs.YtcmbdhopmncmnaaGreatDoor
namespace Go.Proofs.YtcmbdhopmncmnaaGreatDoor
set_option linter.unusedSimpArgs false
open Go.RowKit
set_option linter.unusedVariables false

def fI {α:Type}(p:α→Bool):List α→Nat→Int
 | [],_=>-1
 | z :: r,k=>if p z then (k:Int) else fI p r (k+1)
theorem fI_any {α:Type}(p:α→Bool):∀ (l:List α)(k:Nat),decide (0≤fI p l k)=l.any p
 | [],k=>rfl
 | z :: r,k=>by
  unfold fI;rw[List.any_cons];cases h:p z with
  | true=>simp
  | false=>simp[fI_any p r (k+1)]
theorem fI_step {α:Type}(p:α→Bool){l:List α}{k:Nat}(h:k < l.length):fI p (l.drop k) k=if p l[k] then (k:Int) else fI p (l.drop (k+1)) (k+1):=by
 rw[List.drop_eq_getElem_cons h];rfl
def badS (st s:Int):Bool:=decide (s < 0) || decide (st≤s)
theorem meas_step {n k:Nat}(h:k < n):n - (intOf (.int .i64 ((k:Int)+1))).toNat < n - (intOf (.int .i64 (k:Int))).toNat:=by
 simp only[intOf];omega
end Go.Proofs.YtcmbdhopmncmnaaGreatDoor
namespace Go.Proofs.YtcmbdhopmncmnaaGreatDoor
set_option linter.unusedSimpArgs false
open Go.RowKit Go.Maps
set_option linter.unusedVariables false

theorem results_ct {P:Program}{fn:Func}{p u:Tmp}{ty:TypeId}(h:fn.results=#[.cell p ty,.tmp u])(tmps:Array Value)(w:World)(g:Nat)(t:TypeId)(cs:Array Value)(fr:Nat × Nat)(d:TypeDesc)
  (hp:tmps.getD p undef=.pointer (some ⟨g,0,none⟩)) (hg:w.heap[g]?=some (.cells cs t fr))
  (hu:P.underlying ty=some d) (hd:(match d with | .struct _ | .array _ _=>true | _=>false)=true) (hi:(P.info? ty).map (·.size)=some cs.size) :
  (results fn tmps).run P w=.ok (.tuple #[.agg cs,tmps.getD u undef]) w:=by
 rw[results_cell_tmp h,hp];simp[asAddr,run_loadVar_row w g t ty cs fr d hg hu hd hi,Result.andThen]
end Go.Proofs.YtcmbdhopmncmnaaGreatDoor

namespace Go.Proofs.YtcmbdhopmncmnaaGreatDoor
open Lib(hid)
set_option linter.unusedSimpArgs false
open Go.RowKit
set_option maxRecDepth 100000
set_option linter.unusedVariables false

def idxF {α:Type} [DecidableEq α] (p:α):Nat→List α→Int
 | _,[]=>-1
 | k,x :: l=>if x=p then (k:Int) else idxF p (k+1) l
theorem idxF_step {α:Type} [DecidableEq α] {p:α}{xs:List α}{k:Nat}(h:k < xs.length):idxF p k (xs.drop k)=if xs[k]=p then (k:Int) else idxF p (k+1) (xs.drop (k+1)):=by
 rw[List.drop_eq_getElem_cons h];rfl
theorem idxF_mem {α:Type} [DecidableEq α] {p:α}:∀ (xs:List α)(k:Nat),(0≤idxF p k xs ↔ p ∈ xs)
 | [],k=>by simp[idxF]
 | x :: l,k=>by
  unfold idxF;by_cases h:x=p
  ·rw[if_pos h];simp[h]
  ·rw[if_neg h,idxF_mem l (k+1)];simp[Ne.symm h]
set_option maxHeartbeats 800000 in
theorem iidx_any (A:Option Addr)(xs:List Int)(c:Nat)(n:Int)(w:World)(ha:Ints w A xs) :
  Calls Tryz.prog 70 #[.slice A xs.length c,.int .i64 n] w fun e w'=>e=.returned (.int .i64 (idxF n 0 xs))∧w'=w:=by
 have hn:=ha.le;go_enter Tryz.func70,Tryz.ntmps70;go_wp2
 go_loop [8] (fun i=>∃ k:Nat,k≤xs.length∧i=.int .i64 k∧Hid (idxF n 0 xs=idxF n k (xs.drop k))) (fun i=>xs.length - (intOf i).toNat)
 case atStart=>exact⟨0,Nat.zero_le _,rfl,hid rfl⟩
 case round=>
  obtain⟨k,hk,rfl,HT⟩:=hrel;by_cases hlt:k < xs.length
  ·obtain⟨b1,o1,rfl,-,hc⟩:=ha.at_ hlt;have hd:=idxF_step (p:=n) hlt;by_cases h1:xs[k]=n
   ·have HN:=hid (HT.out.trans (hd.trans (if_pos h1)));have d1:(n == xs[k])=true:=by simp[h1]
    clear hd h1 HT;go_wp2;go_ret;exact⟨ret_int HN.out.symm,rfl⟩
   ·have HN:=hid (HT.out.trans (hd.trans (if_neg h1)));have d1:(n == xs[k])=false:=by simp[Ne.symm h1]
    clear hd h1 HT;go_wp2
    go_round
    case rel=>exact⟨k+1,by omega,by go_num,HN⟩
    case measure=>simp[intOf];omega
  ·obtain rfl:k=xs.length:=by omega
   have hno:idxF n 0 xs = -1:=by rw[HT.out,List.drop_length];rfl
   have HN:=hid hno;clear hno HT;go_wp2;go_ret;exact⟨ret_int HN.out.symm,rfl⟩
set_option maxHeartbeats 800000 in
theorem contains_any (A:Option Addr)(xs:List Int)(c:Nat)(n:Int)(w:World)(ha:Ints w A xs) :
  Calls Tryz.prog 30 #[.slice A xs.length c,.int .i64 n] w fun e w'=>e=.returned (.bool (decide (n ∈ xs)))∧w'=w:=by
 have HI:=hid (iidx_any A xs c n w ha);have HM:=hid (idxF_mem (p:=n) xs 0);obtain⟨r,hr⟩:∃ r,r=idxF n 0 xs:=⟨_,rfl⟩
 rw[← hr] at HI HM;clear hr ha;go_enter Tryz.func30,Tryz.ntmps30;go_wp2_with fail;refine HI.out.mono ?_;rintro e w' ⟨rfl,rfl⟩;go_wp2;go_ret;exact⟨ret_bool (decide_eq_decide.2 HM.out),rfl⟩
set_option maxHeartbeats 800000 in
theorem pidx_any (A:Option Addr)(xs:List (Int × Int))(c:Nat)(a b:Int)(w:World)(ha:Pts w A xs) :
  Calls Tryz.prog 83 #[.slice A xs.length c,.agg #[.int .i64 a,.int .i64 b]] w fun e w'=>e=.returned (.int .i64 (idxF (a,b) 0 xs))∧Below w.heap.size w w':=by
 have hn:=ha.le;obtain⟨w0,hw0⟩:∃ w0,w0=w.alloc (.cells #[.int .i64 a,.int .i64 b] 43):=⟨_,rfl⟩
 have hb0:Below w.heap.size w w0:=by rw[hw0];exact below_new _ _
 have q0:Blk w0 w.heap.size 43 #[.int .i64 a,.int .i64 b]:=by rw[hw0];exact Blk.new _ _ _
 have d0:=q0.cell_ 0 (.int .i64 a) rfl;have d1:=q0.cell_ 1 (.int .i64 b) rfl;have hP:=ha.ext hb0;have HB0:=hid hb0;have HW0:=hid hw0;clear hb0 q0 hw0 ha;go_enter Tryz.func83,Tryz.ntmps83;go_upto_region 1 with fail
 rw[← HW0.out];go_wp2;go_loopw [8] (fun i wr=>∃ k q:Nat,k≤xs.length∧i=.int .i64 k∧wr=w0.drewN q∧Hid (idxF (a,b) 0 xs=idxF (a,b) k (xs.drop k))) (fun i _=>xs.length - (intOf i).toNat)
 case atStart=>exact⟨0,0,Nat.zero_le _,rfl,rfl,hid rfl⟩
 case round=>
  obtain⟨k,q,hk,rfl,rfl,HT⟩:=hrel;by_cases hlt:k < xs.length
  ·obtain⟨b1,o1,rfl,-,hc,hc'⟩:=hP.at_ hlt;have HD:=hid (HT.out.trans (idxF_step (p:=(a,b)) hlt));clear HT;have hst:=Tryz.stood_pt;have heg:=Tryz.guard_pt;have hnq:=eql_pt;go_wp2;go_quiet (fail)
   cases hpe:ptEq a b xs[k].1 xs[k].2 with
   | true=>
    have he:xs[k]=(a,b):=by
     unfold ptEq at hpe;simp at hpe;exact Prod.ext hpe.1.symm hpe.2.symm
    have HN:=hid (HD.out.trans (if_pos he));clear HD he;go_wp2;go_ret;exact⟨ret_int HN.out.symm,HB0.out.trans ((below_drewN (below_drewN (Below.refl _ _) _) _).mono HB0.out.size)⟩
   | false=>
    have he:¬ xs[k]=(a,b):=by
     unfold ptEq at hpe;intro e;rw[e] at hpe;simp at hpe
    have HN:=hid (HD.out.trans (if_neg he));clear HD he;go_wp2;go_roundw
    case rel=>exact⟨k+1,_,by omega,by go_num,rfl,HN⟩
    case measure=>simp[intOf];omega
  ·obtain rfl:k=xs.length:=by omega
   have hno:idxF (a,b) 0 xs = -1:=by rw[HT.out,List.drop_length];rfl
   have HN:=hid hno;clear hno HT;go_wp2;go_ret;exact⟨ret_int HN.out.symm,HB0.out.trans ((below_drewN (Below.refl _ _) _).mono HB0.out.size)⟩
set_option maxHeartbeats 800000 in
theorem ridx_any (A:Option Addr)(xs:List (Int × Int))(c:Nat)(a b:Int)(w:World)(ha:Pts w A xs) :
  Calls Tryz.prog 65 #[.slice A xs.length c,.agg #[.int .i64 a,.int .i64 b]] w fun e w'=>e=.returned (.int .i64 (idxF (a,b) 0 xs))∧Below w.heap.size w w':=by
 have hn:=ha.le;obtain⟨w0,hw0⟩:∃ w0,w0=w.alloc (.cells #[.int .i64 a,.int .i64 b] 43):=⟨_,rfl⟩
 have hb0:Below w.heap.size w w0:=by rw[hw0];exact below_new _ _
 have q0:Blk w0 w.heap.size 43 #[.int .i64 a,.int .i64 b]:=by rw[hw0];exact Blk.new _ _ _
 have d0:=q0.cell_ 0 (.int .i64 a) rfl;have d1:=q0.cell_ 1 (.int .i64 b) rfl;have hP:=ha.ext hb0;have HB0:=hid hb0;have HW0:=hid hw0;clear hb0 q0 hw0 ha;go_enter Tryz.func65,Tryz.ntmps65;go_upto_region 1 with fail
 rw[← HW0.out];go_wp2;go_loopw [5] (fun i wr=>∃ k q:Nat,k≤xs.length∧i=.int .i64 k∧wr=w0.drewN q∧Hid (idxF (a,b) 0 xs=idxF (a,b) k (xs.drop k))) (fun i _=>xs.length - (intOf i).toNat)
 case atStart=>exact⟨0,0,Nat.zero_le _,rfl,rfl,hid rfl⟩
 case round=>
  obtain⟨k,q,hk,rfl,rfl,HT⟩:=hrel;by_cases hlt:k < xs.length
  ·obtain⟨b1,o1,rfl,-,hc,hc'⟩:=hP.at_ hlt;have HD:=hid (HT.out.trans (idxF_step (p:=(a,b)) hlt));clear HT;have hst:=Tryz.stood_pt;have heg:=Tryz.guard_pt;have hnq:=eql_pt;go_wp2;go_quiet (fail)
   cases hpe:ptEq xs[k].1 xs[k].2 a b with
   | true=>
    have he:xs[k]=(a,b):=by
     unfold ptEq at hpe;simp at hpe;exact Prod.ext hpe.1 hpe.2
    have HN:=hid (HD.out.trans (if_pos he));clear HD he;go_wp2;go_ret;exact⟨ret_int HN.out.symm,HB0.out.trans ((below_drewN (below_drewN (Below.refl _ _) _) _).mono HB0.out.size)⟩
   | false=>
    have he:¬ xs[k]=(a,b):=by
     unfold ptEq at hpe;intro e;rw[e] at hpe;simp at hpe
    have HN:=hid (HD.out.trans (if_neg he));clear HD he;go_wp2;go_roundw
    case rel=>exact⟨k+1,_,by omega,by go_num,rfl,HN⟩
    case measure=>simp[intOf];omega
  ·obtain rfl:k=xs.length:=by omega
   have hno:idxF (a,b) 0 xs = -1:=by rw[HT.out,List.drop_length];rfl
   have HN:=hid hno;clear hno HT;go_wp2;go_ret;exact⟨ret_int HN.out.symm,HB0.out.trans ((below_drewN (Below.refl _ _) _).mono HB0.out.size)⟩
def ctrP (ps:List (Int × Int)):Int:=if hoodB ps=true then idxF (0,0) 0 ps else -1
set_option maxHeartbeats 800000 in
theorem centre_any (A:Option Addr)(ps:List (Int × Int))(c:Nat)(w:World)(ha:Pts w A ps) :
  Calls Tryz.prog 45 #[.slice A ps.length c] w fun e w'=>e=.returned (.int .i64 (ctrP ps))∧Below w.heap.size w w':=by
 have HH:=hid (hood_any A c ps w ha);have HX:=hid (fun W (hb:Below w.heap.size w W)=>pidx_any A ps c 0 0 W (ha.ext hb));have hn:=ha.le;cases hB:hoodB ps with
 | false=>
  have HE:Hid (ctrP ps = -1):=hid (by unfold ctrP;rw[hB];rfl);go_enter Tryz.func45,Tryz.ntmps45;go_wp2_with fail;refine HH.out.mono ?_;rintro e w1 ⟨rfl,hb1⟩;rw[hB];go_wp2;go_ret;exact⟨ret_int HE.out.symm,hb1⟩
 | true=>
  have HE:Hid (ctrP ps=idxF (0,0) 0 ps):=hid (by unfold ctrP;rw[hB];rfl);go_enter Tryz.func45,Tryz.ntmps45;go_wp2_with fail;refine HH.out.mono ?_;rintro e w1 ⟨rfl,hb1⟩;rw[hB];go_wp2_with fail;refine (HX.out w1 hb1).mono ?_;rintro e w2 ⟨rfl,hb2⟩;go_wp2;go_ret;exact⟨ret_int HE.out.symm,hb1.trans (hb2.mono hb1.size)⟩
end Go.Proofs.YtcmbdhopmncmnaaGreatDoor
namespace Go.Proofs.YtcmbdhopmncmnaaGreatDoor
open Go.RowKit
set_option maxRecDepth 100000
set_option linter.unusedVariables false
set_option linter.unusedSimpArgs false

abbrev Rw:=List Int × Int
structure Rh where
 A:Option Addr
 c:Nat
 zs:List Int
 out:Int
def Rh.cells (h:Rh):List Value:=[.slice h.A h.zs.length h.c,.int .i64 h.out]
def Rh.rw_ (h:Rh):Rw:=(h.zs,h.out)
theorem rh2:∀ (hs:List Rh)(k:Nat)(hk:k < hs.length),(hs.flatMap Rh.cells)[2*k]?=some (.slice hs[k].A hs[k].zs.length hs[k].c)∧(hs.flatMap Rh.cells)[2*k+1]?=some (.int .i64 hs[k].out)
 | p :: ps,0,_=>by simp[Rh.cells]
 | p :: ps,k+1,hk=>by
  have h:=rh2 ps k (by simpa using hk);have e1:2*(k+1)=(2*k)+1+1:=by omega
  have e2:2*(k+1)+1=(2*k+1)+1+1:=by omega
  simp only[List.flatMap_cons,Rh.cells,List.cons_append,List.nil_append,e1,List.getElem?_cons_succ,List.getElem_cons_succ];exact h
theorem rh_len:∀ hs:List Rh,(hs.flatMap Rh.cells).length=hs.length*2
 | []=>rfl
 | p :: r=>by rw[List.flatMap_cons,List.length_append,rh_len r];simp[Rh.cells];omega
def Rws (w:World)(A:Option Addr)(hs:List Rh):Prop:=Reads w w.heap.size 2 A hs.length (hs.flatMap Rh.cells)∧hs.length≤9223372036854775807∧∀ h ∈ hs,Ints w h.A h.zs
section
variable {w w' : World} {A : Option Addr} {hs : List Rh}
theorem Rws.at_ {k:Nat}(h:Rws w A hs)(hk:k < hs.length):∃ b o,A=some ⟨b,o,none⟩∧b < w.heap.size∧w.cell? ⟨b,o+k*2,none⟩=some (.slice hs[k].A hs[k].zs.length hs[k].c)∧w.cell? ⟨b,o+k*2+1,none⟩=some (.int .i64 hs[k].out)∧Ints w hs[k].A hs[k].zs:=by
 obtain⟨ad,e,hb,hc⟩:=h.1.2 (by omega);obtain⟨f1,f2⟩:=rh2 hs k hk;obtain⟨f0,_⟩:=rh2 hs 0 (by omega);have h0:=hc _ _ f0;obtain⟨b,o,sp⟩:=ad;obtain rfl:=spot_none h0;refine⟨b,o,e,hb,?_,?_,h.2.2 _ (List.getElem_mem hk)⟩
 ·rw[Nat.mul_comm];have:=hc _ _ f1;rwa [addr_add] at this
 ·rw[Nat.mul_comm];have:=hc _ _ f2;rwa [addr_add] at this
theorem Rws.le (h:Rws w A hs):hs.length≤9223372036854775807:=h.2.1
theorem Rws.ext (h:Rws w A hs)(hb:Below w.heap.size w w'):Rws w' A hs:=⟨(Reads.below h.1 hb).more hb.size,h.2.1,fun x hx=>(h.2.2 x hx).ext hb⟩
theorem Rws.nil:Rws w A []:=⟨Reads.none_,by simp,fun _ h=>absurd h (by simp)⟩
end
structure Vh where
 A:Option Addr
 c:Nat
 zs:List Int
def Vh.val (h:Vh):Value:=.slice h.A h.zs.length h.c
def Vh.cells (h:Vh):List Value:=[.slice h.A h.zs.length h.c]
theorem vh1:∀ (hs:List Vh)(k:Nat)(hk:k < hs.length),(hs.flatMap Vh.cells)[k]?=some (.slice hs[k].A hs[k].zs.length hs[k].c)
 | p :: ps,0,_=>by simp[Vh.cells]
 | p :: ps,k+1,hk=>by
  have h:=vh1 ps k (by simpa using hk);simp only[List.flatMap_cons,Vh.cells,List.cons_append,List.nil_append,List.getElem?_cons_succ,List.getElem_cons_succ];exact h
theorem vh_len:∀ hs:List Vh,(hs.flatMap Vh.cells).length=hs.length*1
 | []=>rfl
 | p :: r=>by rw[List.flatMap_cons,List.length_append,vh_len r];simp[Vh.cells];omega
def Vrs (w:World)(A:Option Addr)(hs:List Vh):Prop:=Reads w w.heap.size 1 A hs.length (hs.flatMap Vh.cells)∧hs.length≤9223372036854775807∧∀ h ∈ hs,Ints w h.A h.zs
section
variable {w w' : World} {A : Option Addr} {hs : List Vh}
theorem Vrs.at_ {k:Nat}(h:Vrs w A hs)(hk:k < hs.length):∃ b o,A=some ⟨b,o,none⟩∧b < w.heap.size∧w.cell? ⟨b,o+k,none⟩=some (.slice hs[k].A hs[k].zs.length hs[k].c)∧Ints w hs[k].A hs[k].zs:=by
 obtain⟨ad,e,hb,hc⟩:=h.1.2 (by omega);have f1:=vh1 hs k hk;have f0:=vh1 hs 0 (by omega);have h0:=hc _ _ f0;obtain⟨b,o,sp⟩:=ad;obtain rfl:=spot_none h0;refine⟨b,o,e,hb,?_,h.2.2 _ (List.getElem_mem hk)⟩;have:=hc _ _ f1;rwa [addr_add] at this
theorem Vrs.le (h:Vrs w A hs):hs.length≤9223372036854775807:=h.2.1
theorem Vrs.ext (h:Vrs w A hs)(hb:Below w.heap.size w w'):Vrs w' A hs:=⟨(Reads.below h.1 hb).more hb.size,h.2.1,fun x hx=>(h.2.2 x hx).ext hb⟩
theorem Vrs.nil:Vrs w A []:=⟨Reads.none_,by simp,fun _ h=>absurd h (by simp)⟩
end
def OwnV (T I:TypeId)(w:World)(base:Nat)(v:Value)(hs:List Vh):Prop:=w.ownsRow base T 1 v hs.length (hs.flatMap Vh.cells)∧∀ h ∈ hs,OwnI I w base h.val h.zs
section
variable {T I : TypeId} {w w' : World} {base : Nat} {v : Value} {hs : List Vh}
theorem OwnV.nil (T I:TypeId)(w:World)(base:Nat):OwnV T I w base (.slice none 0 0) []:=⟨World.ownsRow_nil _ _ _ _,fun _ h=>absurd h (by simp)⟩
theorem OwnV.vrs (h:OwnV T I w base v hs):∃ A c,v=.slice A hs.length c∧Vrs w A hs∧NewA base A:=by
 obtain⟨A,c,e,h1,h2⟩:=own_form h.1;exact⟨A,c,e,⟨h1.1,h1.2,fun x hx=>OwnI.reads (h.2 x hx)⟩,h2⟩
theorem OwnV.ext (h:OwnV T I w base v hs)(hb:Below w.heap.size w w'):OwnV T I w' base v hs:=⟨own_below h.1 hb,fun x hx=>(h.2 x hx).ext hb⟩
theorem OwnV.kept (h:OwnV T I w base v hs){S:Nat→Prop}(hk:Kept S w w')(hv:∀ g,v.ownBlock=some g→¬ S g)(hz:∀ x ∈ hs,∀ g,x.val.ownBlock=some g→¬ S g):OwnV T I w' base v hs:=
 ⟨hk.own h.1 hv,fun x hx=>hk.own (h.2 x hx) (hz x hx)⟩
end
structure TabH where
 st:Int
 sym:Int
 hood:List (Int × Int)
 vs:List Vh
 rs:List Rh
structure TabL where
 st:Int
 sym:Int
 hood:List (Int × Int)
 vars:List (List Int)
 rows:List Rw
def TabH.tab (t:TabH):TabL:=⟨t.st,t.sym,t.hood,t.vs.map Vh.zs,t.rs.map Rh.rw_⟩
def tabV (hA:Option Addr)(hc:Nat)(vA:Option Addr)(vc:Nat)(rA:Option Addr)(rc:Nat)(t:TabH):Value:=
 .agg #[.int .i64 t.st,.int .i64 t.sym,.slice hA t.hood.length hc,.slice vA t.vs.length vc,.slice rA t.rs.length rc]
structure TabR (w:World)(hA vA rA:Option Addr)(t:TabH):Prop where
 hood:Pts w hA t.hood
 vars:Vrs w vA t.vs
 rows:Rws w rA t.rs
theorem TabR.ext {w w':World}{hA vA rA:Option Addr}{t:TabH}(h:TabR w hA vA rA t)(hb:Below w.heap.size w w'):TabR w' hA vA rA t:=⟨h.hood.ext hb,h.vars.ext hb,h.rows.ext hb⟩
end Go.Proofs.YtcmbdhopmncmnaaGreatDoor
