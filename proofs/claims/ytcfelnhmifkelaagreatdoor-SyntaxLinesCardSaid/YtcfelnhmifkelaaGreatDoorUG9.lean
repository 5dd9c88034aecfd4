/-
  texts ParsR Eq EqP EqR Hood: parts of the proof; conditions stand with each theorem.
-/
import Derived.Test.YtcfelnhmifkelaaGreatDoorUG8
import Derived.Deep.CutRange
import Derived.Test.YtcfelnhmifkelaaGreatDoorRows
import Derived.Test.YtcfelnhmifkelaaGreatDoorUG0
namespace Go.Proofs.YtcfelnhmifkelaaGreatDoor
open Go.RowKit
set_option maxRecDepth 100000
set_option linter.unusedVariables false
set_option linter.unusedSimpArgs false

theorem take_eq_snoc {α:Type} {xs ys:List α}{k:Nat}(h:xs.take k=ys.take k)(h1:k < xs.length)(h2:k < ys.length)(h3:xs[k]=ys[k]):xs.take (k+1)=ys.take (k+1):=by
 rw[List.take_succ_eq_append_getElem h1,List.take_succ_eq_append_getElem h2,h,h3]
end Go.Proofs.YtcfelnhmifkelaaGreatDoor
namespace Go.Proofs.YtcfelnhmifkelaaGreatDoor
open Lib(hid)
set_option linter.unusedSimpArgs false
set_option linter.unusedVariables false
open Go.RowKit
set_option maxRecDepth 100000
theorem Tryz.stood_pt:Tryz.prog.stoodInHeld 117=false:=by kernel_rfl
theorem Tryz.guard_pt:Tryz.prog.eqGuardType Tryz.prog.depth 117=false:=by kernel_rfl
theorem neq_pt (a b c d:Int)(w:World):(binOp .neq 117 (.agg #[.int .i64 a,.int .i64 b]) (.agg #[.int .i64 c,.int .i64 d])).run Tryz.prog w=.ok (.bool (ptNe a b c d)) w:=by
 have h1:=Tryz.stood_pt;simp[go_sem,h1];unfold ptNe;by_cases h2:a=c <;> by_cases h3:b=d <;> simp[h2,h3]
set_option maxHeartbeats 400000 in
theorem equalPts (A B:Option Addr)(xs ys:List (Int × Int)) (c d:Nat)(w:World)(ha:Pts w A xs)(hb:Pts w B ys) :
  Calls Tryz.prog 220 #[.slice A xs.length c,.slice B ys.length d] w fun e w'=>e=.returned (.bool (decide (xs=ys)))∧Qt w w':=by
 have hn:=ha.le;have hm:=hb.le;by_cases hl:xs.length=ys.length
 ·have hd:((xs.length:Int) != ys.length)=false:=by simp[hl]
  have HL:=hid hl;clear hl;go_enter Tryz.func220,Tryz.ntmps220;go_wp2;go_loopw [13] (fun i wr=>∃ k q:Nat,k≤xs.length∧i=.int .i64 k∧wr=w.drewN q∧Hid (xs.take k=ys.take k)) (fun i _=>xs.length - (intOf i).toNat)
  case atStart=>exact⟨0,0,Nat.zero_le _,rfl,rfl,hid rfl⟩
  case round=>
   obtain⟨k,q,hk,rfl,rfl,HT⟩:=hrel;by_cases hlt:k < xs.length
   ·have hlt2:k < ys.length:=by have:=HL.out;omega
    obtain⟨b1,o1,rfl,-,hc,hc'⟩:=ha.at_ hlt;obtain⟨b2,o2,rfl,-,hc2,hc2'⟩:=hb.at_ hlt2;go_wp2;have hst:=Tryz.stood_pt;have heg:=Tryz.guard_pt;have hnq:=neq_pt;go_quiet (fail)
    go_wp2
    ·have hne:¬ xs[k]=ys[k]:=ptNe_true ‹_›;go_ret;refine⟨ret_bool (decide_eq_false ?_).symm,(Qt.drewN _ _).step _⟩;rintro rfl;exact hne rfl
    ·have he:xs[k]=ys[k]:=ptNe_false ‹_›;go_roundw
     case rel=>exact⟨k+1,_,by omega,by go_num,rfl,hid (take_eq_snoc HT.out hlt hlt2 he)⟩
     case measure=>simp[intOf];omega
   ·have hk':k=xs.length:=by omega
    have hfin:xs=ys:=by
     have:=HT.out;rwa [hk',List.take_of_length_le (Nat.le_refl _),List.take_of_length_le (by rw[HL.out];exact Nat.le_refl _)] at this
    clear hk';have HF:=hid hfin;clear hfin;go_wp2;go_ret;exact⟨ret_bool (decide_eq_true HF.out).symm,Qt.drewN _ _⟩
 ·have hd:((xs.length:Int) != ys.length)=true:=by simp;omega
  have hf:¬ xs=ys:=by
   rintro rfl;exact hl rfl
  have HF:=hid hf;clear hl hf;go_enter Tryz.func220,Tryz.ntmps220;go_wp2;go_ret;exact⟨ret_bool (decide_eq_false HF.out).symm,Qt.refl _⟩
end Go.Proofs.YtcfelnhmifkelaaGreatDoor
namespace Go.Proofs.YtcfelnhmifkelaaGreatDoor
set_option linter.unusedSimpArgs false
set_option linter.unusedVariables false
open Go.RowKit
set_option maxRecDepth 100000

end Go.Proofs.YtcfelnhmifkelaaGreatDoor
namespace Go.Proofs.YtcfelnhmifkelaaGreatDoor
open Lib(hid)
set_option linter.unusedSimpArgs false
open Go.RowKit
set_option maxRecDepth 100000
set_option linter.unusedVariables false

def xsOf (r:Nat):List Int:=(List.range (2*r+1)).map fun (i:Nat)=>(i:Int) - (r:Int)
def rowOf (r:Nat)(p:Int→Int→Bool)(y:Int)(i:Nat):List (Int × Int):=(((xsOf r).take i).filter (p · y)).map fun x=>(x,y)
def gridOf (r:Nat)(p:Int→Int→Bool)(j:Nat):List (Int × Int):=((xsOf r).take j).flatMap fun y=>rowOf r p y (2*r+1)
theorem xsOf_len (r:Nat):(xsOf r).length=2*r+1:=by simp[xsOf]
theorem xsOf_take (r i:Nat)(h:i < 2*r+1):(xsOf r).take (i+1)=(xsOf r).take i ++ [(i:Int) - r]:=by
 rw[List.take_succ_eq_append_getElem (by rw[xsOf_len];exact h)];simp[xsOf]
theorem rowOf_yes {r:Nat}{p:Int→Int→Bool}{y:Int}{i:Nat}(h:i < 2*r+1)(hp:p ((i:Int) - r) y=true):rowOf r p y (i+1)=rowOf r p y i ++ [((i:Int) - r,y)]:=by
 simp[rowOf,xsOf_take r i h,hp]
theorem rowOf_no {r:Nat}{p:Int→Int→Bool}{y:Int}{i:Nat}(h:i < 2*r+1)(hp:p ((i:Int) - r) y=false):rowOf r p y (i+1)=rowOf r p y i:=by
 simp[rowOf,xsOf_take r i h,hp]
theorem gridOf_succ {r:Nat}{p:Int→Int→Bool}{j:Nat}(h:j < 2*r+1):gridOf r p (j+1)=gridOf r p j ++ rowOf r p ((j:Int) - r) (2*r+1):=by
 simp[gridOf,xsOf_take r j h]
theorem rowOf_len (r:Nat)(p:Int→Int→Bool)(y:Int)(i:Nat):(rowOf r p y i).length≤2*r+1:=by
 unfold rowOf;rw[List.length_map];refine Nat.le_trans (List.length_filter_le _ _) ?_;rw[List.length_take,xsOf_len];omega
theorem gridOf_len (r:Nat)(p:Int→Int→Bool):∀ j,j≤2*r+1→(gridOf r p j).length≤j*(2*r+1)
 | 0,_=>by simp[gridOf]
 | j+1,h=>by
  rw[gridOf_succ (by omega),List.length_append,Nat.add_mul];have:=gridOf_len r p j (by omega);have:=rowOf_len r p ((j:Int) - r) (2*r+1);omega
theorem Tryz.infoPt:(Tryz.prog.info? 117).map (fun i=>(i.zero,i.size,i.bytes))=some (some (.agg #[.int .i64 0,.int .i64 0]),2,16):=by kernel_rfl
theorem Tryz.infoInt:(Tryz.prog.info? 3).map (fun i=>(i.zero,i.size,i.bytes))=some (some (.int .i64 0),1,8):=by kernel_rfl

set_option maxHeartbeats 400000 in
theorem collect_any (r:Nat)(hr:r≤2)(K:FuncId)(cap:Array Value)(p:Int→Int→Bool)(w:World)
  (hent:∀ (args:Array Value) (w:World),(callFunc K args).run Tryz.prog w=.ok (.enter K args) w)
  (hc:∀ (x y:Int) (w':World),-2≤x→x≤2→-2≤y→y≤2→Below w.heap.size w w'→Calls Tryz.prog K (#[.int .i64 x,.int .i64 y] ++ cap) w' fun e w''=>e=.returned (.bool (p x y))∧w'=w'') :
  Calls Tryz.prog 191 #[.int .i64 r,.func (.func K) #[] cap] w (RetPts (gridOf r p (2*r+1)) w):=by
 have HC:=hid hc;clear hc;go_enter Tryz.func191,Tryz.ntmps191;go_wp2;go_loopw [5,6] (fun v y wr=>∃ j:Nat,j≤2*r+1∧y=.int .i64 ((j:Int) - r)∧OwnP 117 wr w.heap.size v (gridOf r p j)∧Below w.heap.size w wr) (fun _ y _=>(r+1 - intOf y).toNat)
 case atStart=>exact⟨0,by omega,by go_num,OwnP.nil _ _ _,Below.refl _ _⟩
 case round=>
  obtain⟨j,hj,rfl,hown,hb⟩:=hrel;by_cases hlt:j < 2*r+1
  ·have hdec:decide (((j:Int) - r)≤(r:Int))=true:=decide_eq_true (by omega);go_wp2;obtain⟨wo,rfl⟩:∃ wo:World,wo=wr:=⟨_,rfl⟩
   go_loopw [5,7] (fun v x wr=>∃ i:Nat,i≤2*r+1∧x=.int .i64 ((i:Int) - r)∧OwnP 117 wr w.heap.size v (gridOf r p j ++ rowOf r p ((j:Int) - r) i)∧Below w.heap.size w wr) (fun _ x _=>(r+1 - intOf x).toNat)
   case atStart=>exact⟨0,by omega,by go_num,by simpa [rowOf] using hown,hb⟩
   case round=>
    obtain⟨i,hi,rfl,hown2,hb2⟩:=hrel;clear hown;by_cases hlt2:i < 2*r+1
    ·go_wp2_with fail;have hcall:=HC.out ((i:Int) - r) ((j:Int) - r) wr (by omega) (by omega) (by omega) (by omega) hb2;refine hcall.mono ?_;rintro e w' ⟨rfl,rfl⟩;clear hcall;have hlen:=gridOf_len r p j (by omega);have hlen2:=rowOf_len r p ((j:Int) - r) i;have hlen3:j*(2*r+1)≤5*5:=Nat.mul_le_mul (by omega) (by omega);have hlen4:(gridOf r p j ++ rowOf r p ((j:Int) - r) i).length < 4294967296:=by
      rw[List.length_append];omega
     clear hlen hlen2 hlen3;cases hp:p ((i:Int) - r) ((j:Int) - r)
     ·have HP:=rowOf_no hlt2 hp;have HP2:=hid HP;clear HP;go_wp2;go_roundw
      case rel=>exact⟨i+1,by omega,by go_num,by rw[HP2.out];exact hown2,hb2⟩
      case measure=>simp[intOf];omega
     ·have HP:=rowOf_yes hlt2 hp;have HP2:=hid HP;clear HP;go_wp2_with (at_builtin;refine wpList_pushP rfl _ _ _ rfl w.heap.size 117 Tryz.underlying141 Tryz.infoPt _ _ rfl hown2 _ _ rfl hlen4 hb2.size ?_);intro v' w1 hown3 hb3;have hb4:=hb2.trans hb3;go_wp2;go_roundw
      case rel=>exact⟨i+1,by omega,by go_num,by rw[HP2.out];exact hown3,hb4⟩
      case measure=>simp[intOf];omega
    ·obtain rfl:i=2*r+1:=by omega
     have HG:=hid (gridOf_succ (p:=p) hlt);go_wp2;go_roundw
     case rel=>exact⟨j+1,by omega,by go_num,by rw[HG.out];exact hown2,hb2⟩
     case measure=>simp[intOf];omega
  ·obtain rfl:j=2*r+1:=by omega
   obtain⟨A,c,hv,hp,hnew⟩:=hown.pts;subst hv;go_wp2;go_ret;exact⟨A,c,rfl,hp,hnew,hb⟩

theorem enters {P : Program} {f : FuncId} {fn : Func} {c : Code} (hf : P.funcs[f]? = some fn) (hname : (fn.name == "runtime.NumGoroutine") = false) (hb : fn.body = some c) (args : Array Value) (w : World) :
  (callFunc f args).run P w=.ok (.enter f args) w:=by
 have h1 : fn.name ≠ "runtime.NumGoroutine" := by simpa using hname
 simp[callFunc,hf,h1,hb]
def inAll (_ _:Int):Bool:=true
def inDia (r:Nat)(x y:Int):Bool:=decide (x.natAbs+y.natAbs≤r)
def inHex (x y:Int):Bool:=decide (0≤x*y)
def mooreL (r:Nat):List (Int × Int):=gridOf r inAll (2*r+1)
def neumL (r:Nat):List (Int × Int):=gridOf r (inDia r) (2*r+1)
def hexL:List (Int × Int):=gridOf 1 inHex 3
set_option maxHeartbeats 400000 in
theorem moore1_any (x y:Int)(w:World):Calls Tryz.prog 192 #[.int .i64 x,.int .i64 y] w fun e w'=>e=.returned (.bool (inAll x y))∧w=w':=by
 go_enter Tryz.func192,Tryz.ntmps192;go_wp2;go_ret;exact⟨rfl,rfl⟩
set_option maxHeartbeats 400000 in
theorem hex1_any (x y:Int)(w:World)(hx:-2≤x)(hx':x≤2)(hy:-2≤y)(hy':y≤2):Calls Tryz.prog 195 #[.int .i64 x,.int .i64 y] w fun e w'=>e=.returned (.bool (inHex x y))∧w=w':=by
 have h1:-4≤x*y∧x*y≤4:=by
  obtain rfl | rfl | rfl | rfl | rfl:x = -2∨x = -1∨x=0∨x=1∨x=2:=by omega
  all_goals omega
 obtain⟨h1,h2⟩:=h1;go_enter Tryz.func195,Tryz.ntmps195;go_wp2;go_ret;exact⟨rfl,rfl⟩
set_option maxHeartbeats 400000 in
theorem neum1_any (r:Nat)(hr:r≤2)(a:Addr)(x y:Int)(w:World)(hc:w.cell? a=some (.int .i64 r)) (hx:-2≤x)(hx':x≤2)(hy:-2≤y)(hy':y≤2) :
  Calls Tryz.prog 194 #[.int .i64 x,.int .i64 y,.pointer (some a)] w fun e w'=>e=.returned (.bool (inDia r x y))∧w=w':=by
 go_enter Tryz.func194,Tryz.ntmps194;go_wp2;all_goals go_ret
 all_goals exact⟨ret_bool (decide_eq_decide.2 (by omega)),rfl⟩
set_option maxHeartbeats 400000 in
theorem moore_any (r:Nat)(hr:r≤2)(w:World) :
  Calls Tryz.prog 151 #[.int .i64 r] w (RetPts (mooreL r) w):=by
 have hE:=enters Tryz.func192 (by kernel_rfl) rfl;have hC:=hid (collect_any r hr 192 #[] inAll w hE (fun x y w' _ _ _ _ _=>moore1_any x y w'));clear hE;go_enter Tryz.func151,Tryz.ntmps151;go_wp2_with fail;refine hC.out.mono ?_;rintro e w' ⟨A,c,rfl,hp,hnew,hb⟩;go_wp2;go_ret;exact⟨A,c,rfl,hp,hnew,hb⟩
set_option maxHeartbeats 400000 in
theorem hex_any (w:World) :
  Calls Tryz.prog 154 #[] w (RetPts hexL w):=by
 have hE:=enters Tryz.func195 (by kernel_rfl) rfl;have hC:=hid (collect_any 1 (by omega) 195 #[] inHex w hE (fun x y w' h1 h2 h3 h4 _=>hex1_any x y w' h1 h2 h3 h4));clear hE;go_enter Tryz.func154,Tryz.ntmps154;go_wp2_with fail;refine hC.out.mono ?_;rintro e w' ⟨A,c,rfl,hp,hnew,hb⟩;go_wp2;go_ret;exact⟨A,c,rfl,hp,hnew,hb⟩
set_option maxHeartbeats 400000 in
theorem neum_any (r:Nat)(hr:r≤2)(w:World) :
  Calls Tryz.prog 153 #[.int .i64 r] w (RetPts (neumL r) w):=by
 have hE:=enters Tryz.func194 (by kernel_rfl) rfl;have hc0:(w.alloc (.cells #[.int .i64 r] 3)).cell? ⟨w.heap.size,0,none⟩=some (.int .i64 r):=cell_of_row _ _ _ _ _ _ (heap_alloc_new w _);have hC:=hid (collect_any r hr 194 #[.pointer (some ⟨w.heap.size,0,none⟩)] (inDia r) (w.alloc (.cells #[.int .i64 r] 3)) hE
  (fun x y w' h1 h2 h3 h4 h5=>neum1_any r hr _ x y w' ((h5.cell (by simp)).trans hc0) h1 h2 h3 h4))
 clear hE hc0;go_enter Tryz.func153,Tryz.ntmps153;go_wp2_with fail;refine hC.out.mono ?_;rintro e w' ⟨A,c,rfl,hp,hnew,hb⟩;have hb':=(((Below.refl w.heap.size w).alloc (Nat.le_refl _) (.cells #[.int .i64 r] 3)).trans (hb.mono (by simp)))
 clear hb;go_wp2;go_ret;exact⟨A,c,rfl,hp,hnew.mono (by simp),hb'⟩
end Go.Proofs.YtcfelnhmifkelaaGreatDoor
