/-
  texts Hood Ref07 Push15 Few11 SmallL Fld Prs11 Trip11 Len11: parts of the proof; conditions stand with each theorem.
-/
import Derived.Test.YtcmbdhopmncmnaaGreatDoorWG0
import Derived.Test.YtcmbdhopmncmnaaGreatDoorWG1
import Derived.Lib.FieldsP
import Derived.Lib.ItoaNum
import Derived.Test.YtcmbdhopmncmnaaGreatDoorWG4
namespace Go.Proofs.YtcmbdhopmncmnaaGreatDoor
open Lib(hid)
set_option linter.unusedSimpArgs false
open Go.RowKit
set_option maxRecDepth 100000
set_option linter.unusedVariables false

def xsOf (r:Nat):List Int:=(List.range (2*r+1)).map fun (i:Nat)=>(i:Int) - (r:Int)
def rowOf (r:Nat)(p:Int→Int→Bool)(y:Int)(i:Nat):List (Int × Int):=(((xsOf r).take i).filter (p · y)).map fun x=>(x,y)
def gridOf (r:Nat)(p:Int→Int→Bool)(j:Nat):List (Int × Int):=((xsOf r).take j).flatMap fun y=>rowOf r p y (2*r+1)
theorem xsOf_len (r:Nat):(xsOf r).length=2*r+1:=by simp[xsOf]
theorem xsOf_take (r i:Nat)(h:i < 2*r+1):(xsOf r).take (i+1)=(xsOf r).take i ++ [(i:Int) - r]:=by
 rw[List.take_succ_eq_append_getElem (by rw[xsOf_len];exact h)];simp[xsOf]
theorem rowOf_yes {r:Nat}{p:Int→Int→Bool}{y:Int}{i:Nat}(h:i < 2*r+1)(hp:p ((i:Int) - r) y=true):rowOf r p y (i+1)=rowOf r p y i ++ [((i:Int) - r,y)]:=by
 simp[rowOf,xsOf_take r i h,hp]
theorem rowOf_no {r:Nat}{p:Int→Int→Bool}{y:Int}{i:Nat}(h:i < 2*r+1)(hp:p ((i:Int) - r) y=false):rowOf r p y (i+1)=rowOf r p y i:=by
 simp[rowOf,xsOf_take r i h,hp]
theorem gridOf_succ {r:Nat}{p:Int→Int→Bool}{j:Nat}(h:j < 2*r+1):gridOf r p (j+1)=gridOf r p j ++ rowOf r p ((j:Int) - r) (2*r+1):=by
 simp[gridOf,xsOf_take r j h]
theorem rowOf_len (r:Nat)(p:Int→Int→Bool)(y:Int)(i:Nat):(rowOf r p y i).length≤2*r+1:=by
 unfold rowOf;rw[List.length_map];refine Nat.le_trans (List.length_filter_le _ _) ?_;rw[List.length_take,xsOf_len];omega
theorem gridOf_len (r:Nat)(p:Int→Int→Bool):∀ j,j≤2*r+1→(gridOf r p j).length≤j*(2*r+1)
 | 0,_=>by simp[gridOf]
 | j+1,h=>by
  rw[gridOf_succ (by omega),List.length_append,Nat.add_mul];have:=gridOf_len r p j (by omega);have:=rowOf_len r p ((j:Int) - r) (2*r+1);omega

set_option maxHeartbeats 400000 in
theorem collect_any (r:Nat)(hr:r≤2)(K:FuncId)(cap:Array Value)(p:Int→Int→Bool)(w:World)
  (hent:∀ (args:Array Value) (w:World),(callFunc K args).run Tryz.prog w=.ok (.enter K args) w)
  (hc:∀ (x y:Int) (w':World),-2≤x→x≤2→-2≤y→y≤2→Below w.heap.size w w'→Calls Tryz.prog K (#[.int .i64 x,.int .i64 y] ++ cap) w' fun e w''=>e=.returned (.bool (p x y))∧w'=w'') :
  Calls Tryz.prog 120 #[.int .i64 r,.func (.func K) #[] cap] w (RetPts (gridOf r p (2*r+1)) w):=by
 have HC:=hid hc;clear hc;go_enter Tryz.func120,Tryz.ntmps120;go_wp2;go_loopw [5,6] (fun v y wr=>∃ j:Nat,j≤2*r+1∧y=.int .i64 ((j:Int) - r)∧OwnP 43 wr w.heap.size v (gridOf r p j)∧Below w.heap.size w wr) (fun _ y _=>(r+1 - intOf y).toNat)
 case atStart=>exact⟨0,by omega,by go_num,OwnP.nil _ _ _,Below.refl _ _⟩
 case round=>
  obtain⟨j,hj,rfl,hown,hb⟩:=hrel;by_cases hlt:j < 2*r+1
  ·have hdec:decide (((j:Int) - r)≤(r:Int))=true:=decide_eq_true (by omega);go_wp2;obtain⟨wo,rfl⟩:∃ wo:World,wo=wr:=⟨_,rfl⟩
   go_loopw [5,7] (fun v x wr=>∃ i:Nat,i≤2*r+1∧x=.int .i64 ((i:Int) - r)∧OwnP 43 wr w.heap.size v (gridOf r p j ++ rowOf r p ((j:Int) - r) i)∧Below w.heap.size w wr) (fun _ x _=>(r+1 - intOf x).toNat)
   case atStart=>exact⟨0,by omega,by go_num,by simpa [rowOf] using hown,hb⟩
   case round=>
    obtain⟨i,hi,rfl,hown2,hb2⟩:=hrel;clear hown;by_cases hlt2:i < 2*r+1
    ·go_wp2_with fail;have hcall:=HC.out ((i:Int) - r) ((j:Int) - r) wr (by omega) (by omega) (by omega) (by omega) hb2;refine hcall.mono ?_;rintro e w' ⟨rfl,rfl⟩;clear hcall;have hlen:=gridOf_len r p j (by omega);have hlen2:=rowOf_len r p ((j:Int) - r) i;have hlen3:j*(2*r+1)≤5*5:=Nat.mul_le_mul (by omega) (by omega);have hlen4:(gridOf r p j ++ rowOf r p ((j:Int) - r) i).length < 1000000000000:=by
      rw[List.length_append];omega
     clear hlen hlen2 hlen3;cases hp:p ((i:Int) - r) ((j:Int) - r)
     ·have HP:=rowOf_no hlt2 hp;have HP2:=hid HP;clear HP;go_wp2;go_roundw
      case rel=>exact⟨i+1,by omega,by go_num,by rw[HP2.out];exact hown2,hb2⟩
      case measure=>simp[intOf];omega
     ·have HP:=rowOf_yes hlt2 hp;have HP2:=hid HP;clear HP;go_wp2_with (at_builtin;refine wpList_pushP rfl _ _ _ rfl w.heap.size 43 Tryz.underlying22 Tryz.infoPt _ _ rfl hown2 _ _ rfl hlen4 hb2.size ?_);intro v' w1 hown3 hb3;have hb4:=hb2.trans hb3;go_wp2;go_roundw
      case rel=>exact⟨i+1,by omega,by go_num,by rw[HP2.out];exact hown3,hb4⟩
      case measure=>simp[intOf];omega
    ·obtain rfl:i=2*r+1:=by omega
     have HG:=hid (gridOf_succ (p:=p) hlt);go_wp2;go_roundw
     case rel=>exact⟨j+1,by omega,by go_num,by rw[HG.out];exact hown2,hb2⟩
     case measure=>simp[intOf];omega
  ·obtain rfl:j=2*r+1:=by omega
   obtain⟨A,c,hv,hp,hnew⟩:=hown.pts;subst hv;go_wp2;go_ret;exact⟨A,c,rfl,hp,hnew,hb⟩

theorem enters {P : Program} {f : FuncId} {fn : Func} {c : Code} (hf : P.funcs[f]? = some fn) (hname : (fn.name == "runtime.NumGoroutine") = false) (hb : fn.body = some c) (args : Array Value) (w : World) :
  (callFunc f args).run P w=.ok (.enter f args) w:=by
 have h1 : fn.name ≠ "runtime.NumGoroutine" := by simpa using hname
 simp[callFunc,hf,h1,hb]
def inAll (_ _:Int):Bool:=true
def inDia (r:Nat)(x y:Int):Bool:=decide (x.natAbs+y.natAbs≤r)
def inHex (x y:Int):Bool:=decide (0≤x*y)
def mooreL (r:Nat):List (Int × Int):=gridOf r inAll (2*r+1)
def neumL (r:Nat):List (Int × Int):=gridOf r (inDia r) (2*r+1)
def hexL:List (Int × Int):=gridOf 1 inHex 3
set_option maxHeartbeats 400000 in
theorem moore1_any (x y:Int)(w:World):Calls Tryz.prog 121 #[.int .i64 x,.int .i64 y] w fun e w'=>e=.returned (.bool (inAll x y))∧w=w':=by
 go_enter Tryz.func121,Tryz.ntmps121;go_wp2;go_ret;exact⟨rfl,rfl⟩
set_option maxHeartbeats 400000 in
theorem hex1_any (x y:Int)(w:World)(hx:-2≤x)(hx':x≤2)(hy:-2≤y)(hy':y≤2):Calls Tryz.prog 123 #[.int .i64 x,.int .i64 y] w fun e w'=>e=.returned (.bool (inHex x y))∧w=w':=by
 have h1:-4≤x*y∧x*y≤4:=by
  obtain rfl | rfl | rfl | rfl | rfl:x = -2∨x = -1∨x=0∨x=1∨x=2:=by omega
  all_goals omega
 obtain⟨h1,h2⟩:=h1;go_enter Tryz.func123,Tryz.ntmps123;go_wp2;go_ret;exact⟨rfl,rfl⟩
set_option maxHeartbeats 400000 in
theorem neum1_any (r:Nat)(hr:r≤2)(a:Addr)(x y:Int)(w:World)(hc:w.cell? a=some (.int .i64 r))(hx:-2≤x)(hx':x≤2)(hy:-2≤y)(hy':y≤2) :
  Calls Tryz.prog 122 #[.int .i64 x,.int .i64 y,.pointer (some a)] w fun e w'=>e=.returned (.bool (inDia r x y))∧w=w':=by
 go_enter Tryz.func122,Tryz.ntmps122;go_wp2;all_goals go_ret
 all_goals exact⟨ret_bool (decide_eq_decide.2 (by omega)),rfl⟩
set_option maxHeartbeats 400000 in
theorem moore_any (r:Nat)(hr:r≤2)(w:World) :
  Calls Tryz.prog 96 #[.int .i64 r] w (RetPts (mooreL r) w):=by
 have hE:=enters Tryz.func121 (by kernel_rfl) rfl;have hC:=hid (collect_any r hr 121 #[] inAll w hE (fun x y w' _ _ _ _ _=>moore1_any x y w'));clear hE;go_enter Tryz.func96,Tryz.ntmps96;go_wp2_with fail;refine hC.out.mono ?_;rintro e w' ⟨A,c,rfl,hp,hnew,hb⟩;go_wp2;go_ret;exact⟨A,c,rfl,hp,hnew,hb⟩
set_option maxHeartbeats 400000 in
theorem hex_any (w:World) :
  Calls Tryz.prog 98 #[] w (RetPts hexL w):=by
 have hE:=enters Tryz.func123 (by kernel_rfl) rfl;have hC:=hid (collect_any 1 (by omega) 123 #[] inHex w hE (fun x y w' h1 h2 h3 h4 _=>hex1_any x y w' h1 h2 h3 h4));clear hE;go_enter Tryz.func98,Tryz.ntmps98;go_wp2_with fail;refine hC.out.mono ?_;rintro e w' ⟨A,c,rfl,hp,hnew,hb⟩;go_wp2;go_ret;exact⟨A,c,rfl,hp,hnew,hb⟩
set_option maxHeartbeats 400000 in
theorem neum_any (r:Nat)(hr:r≤2)(w:World) :
  Calls Tryz.prog 97 #[.int .i64 r] w (RetPts (neumL r) w):=by
 have hE:=enters Tryz.func122 (by kernel_rfl) rfl;have hc0:(w.alloc (.cells #[.int .i64 r] 3)).cell? ⟨w.heap.size,0,none⟩=some (.int .i64 r):=cell_of_row _ _ _ _ _ _ (heap_alloc_new w _);have hC:=hid (collect_any r hr 122 #[.pointer (some ⟨w.heap.size,0,none⟩)] (inDia r) (w.alloc (.cells #[.int .i64 r] 3)) hE
  (fun x y w' h1 h2 h3 h4 h5=>neum1_any r hr _ x y w' ((h5.cell (by simp)).trans hc0) h1 h2 h3 h4))
 clear hE hc0;go_enter Tryz.func97,Tryz.ntmps97;go_wp2_with fail;refine hC.out.mono ?_;rintro e w' ⟨A,c,rfl,hp,hnew,hb⟩;have hb':=(((Below.refl w.heap.size w).alloc (Nat.le_refl _) (.cells #[.int .i64 r] 3)).trans (hb.mono (by simp)))
 clear hb;go_wp2;go_ret;exact⟨A,c,rfl,hp,hnew.mono (by simp),hb'⟩

set_option maxHeartbeats 400000 in
theorem abs_any (x:Int)(w:World)(h1:-1000000≤x)(h2:x≤1000000):Calls Tryz.prog 67 #[.int .i64 x] w fun e w'=>e=.returned (.int .i64 x.natAbs)∧w'=w:=by
 go_enter Tryz.func67,Tryz.ntmps67;go_wp2;all_goals go_ret
 all_goals exact⟨ret_int (by omega),rfl⟩

set_option maxHeartbeats 400000 in
theorem rmoore_any (r:Nat)(hr:r≤2)(w:World) :
  Calls Tryz.prog 66 #[.int .i64 r] w (RetPts (mooreL r) w):=by
 go_enter Tryz.func66,Tryz.ntmps66;go_wp2;go_loopw [3,4] (fun v y wr=>∃ j:Nat,j≤2*r+1∧y=.int .i64 ((j:Int) - r)∧OwnP 43 wr w.heap.size v (gridOf r inAll j)∧Below w.heap.size w wr) (fun _ y _=>(r+1 - intOf y).toNat)
 case atStart=>exact⟨0,by omega,by go_num,OwnP.nil _ _ _,Below.refl _ _⟩
 case round=>
  obtain⟨j,hj,rfl,hown,hb⟩:=hrel;by_cases hlt:j < 2*r+1
  ·have hdec:decide (((j:Int) - r)≤(r:Int))=true:=decide_eq_true (by omega);go_wp2;obtain⟨wo,rfl⟩:∃ wo:World,wo=wr:=⟨_,rfl⟩
   go_loopw [3,5] (fun v x wr=>∃ i:Nat,i≤2*r+1∧x=.int .i64 ((i:Int) - r)∧OwnP 43 wr w.heap.size v (gridOf r inAll j ++ rowOf r inAll ((j:Int) - r) i)∧Below w.heap.size w wr) (fun _ x _=>(r+1 - intOf x).toNat)
   case atStart=>exact⟨0,by omega,by go_num,by simpa [rowOf] using hown,hb⟩
   case round=>
    obtain⟨i,hi,rfl,hown2,hb2⟩:=hrel;clear hown;by_cases hlt2:i < 2*r+1
    ·have hlen:=gridOf_len r inAll j (by omega);have hlen2:=rowOf_len r inAll ((j:Int) - r) i;have hlen3:j*(2*r+1)≤5*5:=Nat.mul_le_mul (by omega) (by omega);have hlen4:(gridOf r inAll j ++ rowOf r inAll ((j:Int) - r) i).length < 1000000000000:=by
      rw[List.length_append];omega
     clear hlen hlen2 hlen3;have HP:=rowOf_yes (p:=inAll) (y:=(j:Int) - r) hlt2 rfl;have HP2:=hid HP;clear HP;go_wp2_with (at_builtin;refine wpList_pushP rfl _ _ _ rfl w.heap.size 43 Tryz.underlying22 Tryz.infoPt _ _ rfl hown2 _ _ rfl hlen4 hb2.size ?_);intro v' w1 hown3 hb3;have hb4:=hb2.trans hb3;go_wp2;go_roundw
     case rel=>exact⟨i+1,by omega,by go_num,by rw[HP2.out];exact hown3,hb4⟩
     case measure=>simp[intOf];omega
    ·obtain rfl:i=2*r+1:=by omega
     have HG:=hid (gridOf_succ (p:=inAll) hlt);go_wp2;go_roundw
     case rel=>exact⟨j+1,by omega,by go_num,by rw[HG.out];exact hown2,hb2⟩
     case measure=>simp[intOf];omega
  ·obtain rfl:j=2*r+1:=by omega
   obtain⟨A,c,hv,hp,hnew⟩:=hown.pts;subst hv;go_wp2;go_ret;exact⟨A,c,rfl,hp,hnew,hb⟩
theorem neum_eq:∀ r:Nat,r≤2→(mooreL r).filter (fun p=>inDia r p.1 p.2)=neumL r:=by decide
theorem moore_len:∀ r:Nat,r≤2→(mooreL r).length≤25:=by decide
theorem moore_rng:∀ r:Nat,r≤2→∀ p ∈ mooreL r,-2≤p.1∧p.1≤2∧-2≤p.2∧p.2≤2:=by decide
set_option maxHeartbeats 400000 in
theorem rneum_any (r:Nat)(hr:r≤2)(w:World) :
  Calls Tryz.prog 26 #[.int .i64 r] w (RetPts (neumL r) w):=by
 rw[← neum_eq r hr];have hM:=hid (rmoore_any r hr w);have hlen:=moore_len r hr;have hrng:=hid (moore_rng r hr);go_enter Tryz.func26,Tryz.ntmps26;go_wp2_with fail;refine hM.out.mono ?_;rintro e w1 ⟨A,c,rfl,hp,hnew,hb⟩;clear hM;go_wp2;go_loopw [4,5] (fun v i wr=>∃ k:Nat,k≤(mooreL r).length∧i=.int .i64 k∧OwnP 43 wr w1.heap.size v (((mooreL r).take k).filter (fun p=>inDia r p.1 p.2))∧Below w1.heap.size w1 wr) (fun _ i _=>(mooreL r).length - (intOf i).toNat)
 case atStart=>exact⟨0,by omega,rfl,OwnP.nil _ _ _,Below.refl _ _⟩
 case round=>
  obtain⟨k,hk,rfl,hown,hbr⟩:=hrel;have hpr:=hp.ext hbr;by_cases hlt:k < (mooreL r).length
  ·obtain⟨b1,o1,rfl,hbb,hc,hc'⟩:=hpr.at_ hlt;have hg:=hrng.out _ (List.getElem_mem hlt);obtain⟨g1,g2,g3,g4⟩:=hg;have hta:=hid (List.take_succ_eq_append_getElem hlt);go_wp2;go_quiet ((go_at_call 67;exact Calls.quiet_of_same (abs_any _ _ (by omega) (by omega))))
   have hl2:(((mooreL r).take k).filter (fun p=>inDia r p.1 p.2)).length < 1000000000000:=by
    have:=List.length_filter_le (fun p:Int × Int=>inDia r p.1 p.2) ((mooreL r).take k);have:=List.length_take_le k (mooreL r);omega
   by_cases hin:(((mooreL r)[k].1.natAbs:Int)+((mooreL r)[k].2.natAbs:Int))≤(r:Int)
   ·have hf:((mooreL r).take (k+1)).filter (fun p=>inDia r p.1 p.2)=((mooreL r).take k).filter (fun p=>inDia r p.1 p.2) ++ [((mooreL r)[k].1,(mooreL r)[k].2)]:=by
     rw[hta.out,List.filter_append];have:inDia r (mooreL r)[k].1 (mooreL r)[k].2=true:=decide_eq_true (by omega);simp[this]
    have HF:=hid hf;clear hf;go_wp2_with (at_builtin;refine wpList_pushP rfl _ _ _ rfl w1.heap.size 43 Tryz.underlying22 Tryz.infoPt _ _ rfl (hown.drewN _) _ _ rfl hl2 hbr.size ?_);intro v' w2 hown2 hb2;have hb3:=(below_drewN hbr nq).trans hb2;go_wp2;go_roundw
    case rel=>exact⟨k+1,by omega,by go_num,by rw[HF.out];exact hown2,hb3⟩
    case measure=>simp[intOf];omega
   ·have hf:((mooreL r).take (k+1)).filter (fun p=>inDia r p.1 p.2)=((mooreL r).take k).filter (fun p=>inDia r p.1 p.2):=by
     rw[hta.out,List.filter_append];have:inDia r (mooreL r)[k].1 (mooreL r)[k].2=false:=decide_eq_false (by omega);simp[this]
    have HF:=hid hf;clear hf;go_wp2;go_roundw
    case rel=>exact⟨k+1,by omega,by go_num,by rw[HF.out];exact hown.drewN _,below_drewN hbr nq⟩
    case measure=>simp[intOf];omega
  ·obtain rfl:k=(mooreL r).length:=by omega
   rw[List.take_length] at hown;obtain⟨A2,c2,hv,hp2,hnew2⟩:=hown.pts;subst hv;have hb2:=hb.trans (hbr.mono hb.size);go_wp2;go_ret;exact⟨A2,c2,rfl,hp2,hnew2.mono hb.size,hb2⟩
theorem hex_eq:hexL=[(-1,-1),(0,-1),(-1,0),(0,0),(1,0),(0,1),(1,1)]:=by decide
set_option maxHeartbeats 400000 in
theorem rhex_any (w:World) :
  Calls Tryz.prog 102 #[] w (RetPts hexL w):=by
 go_enter Tryz.func102,Tryz.ntmps102;go_wp2;go_ret;refine⟨_,_,rfl,?_,(by intro ad e;injection e with e;subst e;exact Nat.le_refl _),(Below.refl _ _).alloc (Nat.le_refl _) _⟩;refine⟨⟨by decide,fun _=>⟨_,rfl,by simp,fun j u hj=>?_⟩⟩,by decide⟩;rw[addr_add,cell_of_row _ _ _ _ _ _ (heap_alloc_new w _)];rw[hex_eq] at hj;simpa [ptCells] using hj
end Go.Proofs.YtcmbdhopmncmnaaGreatDoor
namespace Go.Proofs.YtcmbdhopmncmnaaGreatDoor
set_option linter.unusedSimpArgs false
open Go.RowKit Go.Maps
set_option maxRecDepth 100000
set_option linter.unusedVariables false

theorem Tryz.infoRow:(Tryz.prog.info? 48).map (fun i=>(i.zero,i.size,i.bytes))=some (some (.agg #[.slice none 0 0,.int .i64 0]),2,32):=by kernel_rfl
theorem Tryz.infoInts15:(Tryz.prog.info? 30).map (fun i=>(i.zero,i.size,i.bytes))=some (some (.slice none 0 0),1,24):=by kernel_rfl
theorem wpList_pushV {P:Program}{wr:World}{ops:Array Oper}{rest:List Oper}{o:Oper}{a:Act}{Q:Exit→Act→World→Prop}(hgd:o.guard=none)(s x:Operand)(t:TypeId)
  (ho:o.op=.call { callee:=.builtin .append,args:=#[s,x],argTypes:=#[t,t] })
  (base:Nat) (T I:TypeId) (hTI:I≠T) (ht:P.underlying t=some (.slice T)) (hi:(P.info? T).map (fun i=>(i.zero,i.size,i.bytes))=some (some (.slice none 0 0),1,24))
  (v:Value) (hs:List Vh) (hse:a.eval s=v) (hown:OwnV T I wr base v hs)
  (A:Option Addr) (c:Nat) (zs:List Int) (hI:OwnI I wr base (.slice A zs.length c) zs) (hx:a.eval x=.slice (some ⟨wr.heap.size,0,none⟩) 1 1)
  (hn:hs.length < 1000000000000) (hbase:base≤wr.heap.size)
  (h:∀ v' w',OwnV T I w' base v' (hs ++ [⟨A,c,zs⟩])→Kept (fun g=>v.ownBlock=some g) wr w'→(v'.ownBlock=v.ownBlock∨∃ g,v'.ownBlock=some g∧wr.heap.size≤g)→wpList P ops Q rest (a.put o.dst v') w') :
  wpList P ops Q (o :: rest) a (wr.alloc (.cells #[.slice A zs.length c] T)):=by
 obtain⟨i0,hi0,hz0,hz1,hz2⟩:=info_parts hi;refine wpList_append_own_at _ hgd s x t ho base T i0 _ 1 24 ht hi0 hz0 hz1 hz2 rfl (by decide) v hs.length _ hse (hown.1.alloc _) ⟨wr.heap.size,0,none⟩ 1 1 [.slice A zs.length c] hx (by simp) ?_ (by simp[Value.oneCell']) (by unfold maxLen;omega) (by omega) (by simp;omega) ?_
 ·intro j u hu;rw[addr_add];have:(wr.alloc (.cells #[.slice A zs.length c] T)).cell? ⟨wr.heap.size,0+j,none⟩=#[Value.slice A zs.length c][0+j]?:=cell_of_row _ _ _ _ _ _ (heap_alloc_new wr _);rw[this];simpa using hu
 ·intro v' w' hown' hg _ hat;have hk:Kept (fun g=>v.ownBlock=some g) wr w':=((Kept.refl _ wr).alloc _).grown hg fun g hg=>Or.inl hg;refine h v' w' ⟨?_,fun y hy=>?_⟩ hk ?_
  ·rw[List.length_append,List.flatMap_append];exact hown'
  ·have hy1:OwnI I wr base y.val y.zs:=by
    rcases List.mem_append.1 hy with hy | hy
    ·exact hown.2 y hy
    ·rw[List.mem_singleton] at hy;subst hy;exact hI
   exact hk.own hy1 fun g hg hv=>own_ne hy1 hown.1 hTI hg hv
  ·rcases hat with hat | hat
   ·exact .inl hat
   ·exact .inr ⟨_,hat,by simp⟩
end Go.Proofs.YtcmbdhopmncmnaaGreatDoor
namespace Go.Proofs.YtcmbdhopmncmnaaGreatDoor
open Lib(hid)
open Go.RowKit
set_option maxRecDepth 100000
set_option linter.unusedVariables false
set_option linter.unusedSimpArgs false
theorem any_take15 {α:Type}{p:α→Bool}{l:List α}{i:Nat}(hi:i < l.length)(h:(l.take i).any p=false)(h2:p l[i]=false):(l.take (i+1)).any p=false:=by
 rw[List.take_succ_eq_append_getElem hi,List.any_append,h];simp[h2]
def few11 (t:TabL):Bool:=!(decide (30 < t.hood.length) || decide (50 < t.vars.length) || decide (30 < t.rows.length)) && !(t.vars.any fun l=>decide (30 < l.length)) && !(t.rows.any fun r=>decide (30 < r.1.length))
set_option maxHeartbeats 8000000 in
theorem few11_any (hA:Option Addr)(hc:Nat)(vA:Option Addr)(vc:Nat)(rA:Option Addr)(rc:Nat)(t:TabH)(w:World)(hT:TabR w hA vA rA t) :
  Calls Tryz.prog 8 #[tabV hA hc vA vc rA rc t] w fun e w'=>e=.returned (.bool (few11 t.tab))∧Below w.heap.size w w':=by
 obtain⟨w0,hw0⟩:∃ w0,w0=w.alloc (.cells #[.int .i64 t.st,.int .i64 t.sym,.slice hA t.hood.length hc,.slice vA t.vs.length vc,.slice rA t.rs.length rc] 26):=⟨_,rfl⟩
 have hb0:Below w.heap.size w w0:=by rw[hw0];exact below_new _ _
 have p0:Blk w0 w.heap.size 26 #[.int .i64 t.st,.int .i64 t.sym,.slice hA t.hood.length hc,.slice vA t.vs.length vc,.slice rA t.rs.length rc]:=by rw[hw0];exact Blk.new _ _ _
 have HTR:=hid (hT.ext hb0);have HB0:=hid hb0;have HP:=hid p0;have HW0:=hid hw0;have hh9:t.hood.length≤9223372036854775807:=hT.hood.le;have hv9:t.vs.length≤9223372036854775807:=hT.vars.le;have hr9:t.rs.length≤9223372036854775807:=hT.rows.le;obtain⟨res,hres⟩:∃ res,res=few11 t.tab:=⟨_,rfl⟩
 rw[← hres];unfold few11 TabH.tab at hres;dsimp only at hres;rw[List.length_map,List.length_map,List.any_map,List.any_map] at hres;have HRES:=hid hres;have x2:=p0.cell_ 2 (.slice hA t.hood.length hc) rfl;have x3:=p0.cell_ 3 (.slice vA t.vs.length vc) rfl;have x4:=p0.cell_ 4 (.slice rA t.rs.length rc) rfl;unfold tabV;clear hb0 p0 hw0 hT hres;cases k1:decide (30 < t.hood.length) with
 | true=>
  have q1:decide ((30:Int) < (t.hood.length:Int))=true:=by have:=of_decide_eq_true k1;exact decide_eq_true (by omega)
  have HE:Hid (res=false):=hid (by rw[HRES.out,k1];simp);clear k1;go_enter Tryz.func8,Tryz.ntmps8;go_upto_region 1 with fail
  rw[← HW0.out];go_wp2;go_ret;exact⟨by first | (rw[HE.out];done) | (rw[HE.out];rfl),HB0.out⟩
 | false=>
  have q1:decide ((30:Int) < (t.hood.length:Int))=false:=by have:=of_decide_eq_false k1;exact decide_eq_false (by omega)
  cases k2:decide (50 < t.vs.length) with
  | true=>
   have q2:decide ((50:Int) < (t.vs.length:Int))=true:=by have:=of_decide_eq_true k2;exact decide_eq_true (by omega)
   have HE:Hid (res=false):=hid (by rw[HRES.out,k2];simp);clear k1 k2;go_enter Tryz.func8,Tryz.ntmps8;go_upto_region 1 with fail
   rw[← HW0.out];go_wp2;go_ret;exact⟨by first | (rw[HE.out];done) | (rw[HE.out];rfl),HB0.out⟩
  | false=>
   have q2:decide ((50:Int) < (t.vs.length:Int))=false:=by have:=of_decide_eq_false k2;exact decide_eq_false (by omega)
   cases k3:decide (30 < t.rs.length) with
   | true=>
    have q3:decide ((30:Int) < (t.rs.length:Int))=true:=by have:=of_decide_eq_true k3;exact decide_eq_true (by omega)
    have HE:Hid (res=false):=hid (by rw[HRES.out,k3];simp);clear k1 k2 k3;go_enter Tryz.func8,Tryz.ntmps8;go_upto_region 1 with fail
    rw[← HW0.out];go_wp2;go_ret;exact⟨by first | (rw[HE.out];done) | (rw[HE.out];rfl),HB0.out⟩
   | false=>
    have q3:decide ((30:Int) < (t.rs.length:Int))=false:=by have:=of_decide_eq_false k3;exact decide_eq_false (by omega)
    have HRES2:Hid (res=(!(t.vs.any ((fun l=>decide (30 < l.length)) ∘ Vh.zs)) && !(t.rs.any ((fun r=>decide (30 < r.1.length)) ∘ Rh.rw_)))):=hid (by rw[HRES.out,k1,k2,k3];simp);clear k1 k2 k3;go_enter Tryz.func8,Tryz.ntmps8;go_upto_region 1 with fail
    rw[← HW0.out];go_wp2;clear q1 q2 q3;go_loopw [24] (fun iv wr=>∃ i:Nat,i≤t.vs.length∧iv=.int .i64 i∧w0=wr∧Hid ((t.vs.take i).any ((fun l=>decide (30 < l.length)) ∘ Vh.zs)=false)) (fun iv _=>t.vs.length - (intOf iv).toNat)
    case atStart=>exact⟨0,Nat.zero_le _,rfl,rfl,hid rfl⟩
    case round=>
     obtain⟨i,hi,rfl,rfl,HN⟩:=hrel;by_cases hil:i < t.vs.length
     ·obtain⟨b,o,rfl,-,k0,kz⟩:=HTR.out.vars.at_ hil;obtain⟨vh,hvh⟩:∃ v,v=t.vs[i]:=⟨_,rfl⟩
      rw[← hvh] at k0;have hany:decide (30 < vh.zs.length)=true→t.vs.any ((fun l=>decide (30 < l.length)) ∘ Vh.zs)=true:=fun h=>List.any_eq_true.2 ⟨t.vs[i],List.getElem_mem hil,by rw[← hvh];exact h⟩;have hnon:decide (30 < vh.zs.length)=false→(t.vs.take (i+1)).any ((fun l=>decide (30 < l.length)) ∘ Vh.zs)=false:=fun h=>any_take15 hil HN.out (by rw[← hvh];exact h);have HANY:=hid hany;have HNON:=hid hnon;clear hvh kz hany hnon;have hwi:wrap64 ((i:Int)+1)=(i:Int)+1:=by unfold wrap64;omega
      have HI:=hid hil;have HWI:=hid hwi;cases hb:decide (30 < vh.zs.length) with
      | true=>
       have q4:decide ((30:Int) < (vh.zs.length:Int))=true:=by have:=of_decide_eq_true hb;exact decide_eq_true (by omega)
       have HE:Hid (res=false):=hid (by
        have:=HANY.out hb;rw[HRES2.out,this];rfl)
       clear hi hb;go_wp2;go_ret;exact⟨by first | (rw[HE.out];done) | (rw[HE.out];rfl),HB0.out⟩
      | false=>
       have q4:decide ((30:Int) < (vh.zs.length:Int))=false:=by have:=of_decide_eq_false hb;exact decide_eq_false (by omega)
       have HN2:Hid ((t.vs.take (i+1)).any ((fun l=>decide (30 < l.length)) ∘ Vh.zs)=false):=hid (HNON.out hb);clear hi hb;go_wp2;go_roundw
       case rel=>exact⟨i+1,HI.out,(by first | rfl | (rw[HWI.out];rfl)),(by first | trivial | rfl),HN2⟩
       case measure=>(try rw[HWI.out]);exact meas_step HI.out
     ·obtain rfl:i=t.vs.length:=Nat.le_antisymm hi (Nat.le_of_not_lt hil);have HRES3:Hid (res = !(t.rs.any ((fun r=>decide (30 < r.1.length)) ∘ Rh.rw_))):=hid (by
       have h:=HN.out;rw[List.take_length] at h;rw[HRES2.out,h];rfl)
      clear hi hil HN;go_wp2;go_loopw [38] (fun iv wr=>∃ i:Nat,i≤t.rs.length∧iv=.int .i64 i∧w0=wr∧Hid ((t.rs.take i).any ((fun r=>decide (30 < r.1.length)) ∘ Rh.rw_)=false)) (fun iv _=>t.rs.length - (intOf iv).toNat)
      case atStart=>exact⟨0,Nat.zero_le _,rfl,rfl,hid rfl⟩
      case round=>
       obtain⟨i,hi,rfl,rfl,HN⟩:=hrel;by_cases hil:i < t.rs.length
       ·obtain⟨b,o,rfl,-,k0,-,kz⟩:=HTR.out.rows.at_ hil;obtain⟨vh,hvh⟩:∃ v,v=t.rs[i]:=⟨_,rfl⟩
        rw[← hvh] at k0;have hany:decide (30 < vh.zs.length)=true→t.rs.any ((fun r=>decide (30 < r.1.length)) ∘ Rh.rw_)=true:=fun h=>List.any_eq_true.2 ⟨t.rs[i],List.getElem_mem hil,by rw[← hvh];exact h⟩;have hnon:decide (30 < vh.zs.length)=false→(t.rs.take (i+1)).any ((fun r=>decide (30 < r.1.length)) ∘ Rh.rw_)=false:=fun h=>any_take15 hil HN.out (by rw[← hvh];exact h);have HANY:=hid hany;have HNON:=hid hnon;clear hvh kz hany hnon;have hwi:wrap64 ((i:Int)+1)=(i:Int)+1:=by unfold wrap64;omega
        have HI:=hid hil;have HWI:=hid hwi;cases hb:decide (30 < vh.zs.length) with
        | true=>
         have q4:decide ((30:Int) < (vh.zs.length:Int))=true:=by have:=of_decide_eq_true hb;exact decide_eq_true (by omega)
         have HE:Hid (res=false):=hid (by
          have:=HANY.out hb;rw[HRES3.out,this];rfl)
         clear hi hb;go_wp2;go_ret;exact⟨by first | (rw[HE.out];done) | (rw[HE.out];rfl),HB0.out⟩
        | false=>
         have q4:decide ((30:Int) < (vh.zs.length:Int))=false:=by have:=of_decide_eq_false hb;exact decide_eq_false (by omega)
         have HN2:Hid ((t.rs.take (i+1)).any ((fun r=>decide (30 < r.1.length)) ∘ Rh.rw_)=false):=hid (HNON.out hb);clear hi hb;go_wp2;go_roundw
         case rel=>exact⟨i+1,HI.out,(by first | rfl | (rw[HWI.out];rfl)),(by first | trivial | rfl),HN2⟩
         case measure=>(try rw[HWI.out]);exact meas_step HI.out
       ·obtain rfl:i=t.rs.length:=Nat.le_antisymm hi (Nat.le_of_not_lt hil);have HE:Hid (res=true):=hid (by
         have h:=HN.out;rw[List.take_length] at h;rw[HRES3.out,h];rfl)
        clear hi hil HN;go_wp2;go_ret;exact⟨by first | (rw[HE.out];done) | (rw[HE.out];rfl),HB0.out⟩
end Go.Proofs.YtcmbdhopmncmnaaGreatDoor
namespace Go.Proofs.YtcmbdhopmncmnaaGreatDoor
open Go.RowKit
set_option maxRecDepth 100000
set_option linter.unusedVariables false
set_option linter.unusedSimpArgs false
def lineL:List (Int × Int):=[(-1,0),(0,0),(1,0)]
end Go.Proofs.YtcmbdhopmncmnaaGreatDoor
namespace Go.Proofs.YtcmbdhopmncmnaaGreatDoor
open Go.Lib
set_option linter.unusedVariables false
set_option linter.unusedSimpArgs false
def sepB (c:UInt8):Bool:=c == 32 || c == 9
def sepR (r:Nat):Bool:=r == 32 || r == 9
def fieldsB (cur:List UInt8):List UInt8→List (List UInt8)
 | []=>if cur=[] then [] else [cur]
 | c :: r=>if sepB c=true then (if cur=[] then fieldsB [] r else cur :: fieldsB [] r) else fieldsB (cur ++ [c]) r
theorem fieldsB_app:∀ (xs cur r:List UInt8),(∀ x ∈ xs,sepB x=false)→fieldsB cur (xs ++ r)=fieldsB (cur ++ xs) r
 | [],cur,r,_=>by rw[List.nil_append,List.append_nil]
 | x :: xs,cur,r,h=>by
  rw[List.cons_append];show (if sepB x=true then _ else fieldsB (cur ++ [x]) (xs ++ r))=_;rw[if_neg (by rw[h x (by simp)];simp),fieldsB_app xs _ r (fun y hy=>h y (by simp[hy])),List.append_assoc];rfl
theorem decN_high {n b0 b1 b2 b3:Nat}(h:128≤b0):128≤(decodeN n b0 b1 b2 b3).1∧(2≤(decodeN n b0 b1 b2 b3).2→128≤b1)∧(3≤(decodeN n b0 b1 b2 b3).2→128≤b2)∧(4≤(decodeN n b0 b1 b2 b3).2→128≤b3)∧(decodeN n b0 b1 b2 b3).2≤4:=by
 unfold decodeN;rw[if_neg (by omega)]
 repeat' split
 all_goals (simp only;omega)
theorem get_list (s:ByteArray){i:Nat}(h:i < s.size):s.data.toList[i]?=some (s.get! i):=by
 have h2:i < s.data.size:=h;have:s.get! i=s.data[i]!:=rfl;rw[this,getElem!_pos s.data i h2,Array.getElem?_toList,Array.getElem?_eq_getElem h2]
theorem sepB_big {b:UInt8}(h:128≤b.toNat):sepB b=false:=by
 unfold sepB;rw[Bool.or_eq_false_iff];constructor
 ·rw[beq_eq_false_iff_ne];rintro rfl;exact absurd h (by decide)
 ·rw[beq_eq_false_iff_ne];rintro rfl;exact absurd h (by decide)
theorem sep_small (b:UInt8):sepR b.toNat=sepB b:=by
 unfold sepR sepB
 congr 1
 ·rw[Bool.eq_iff_iff,beq_iff_eq,beq_iff_eq];exact⟨fun h=>UInt8.toNat_inj.1 h,fun h=>by rw[h];rfl⟩
 ·rw[Bool.eq_iff_iff,beq_iff_eq,beq_iff_eq];exact⟨fun h=>UInt8.toNat_inj.1 h,fun h=>by rw[h];rfl⟩
theorem rune_step (s:ByteArray){pos:Nat}(h:pos < s.size):pos+(Utf8.decode s pos).2≤s.size∧
  ((sepR (Utf8.decode s pos).1=true∧(Utf8.decode s pos).2=1∧∃ c,s.data.toList[pos]?=some c∧sepB c=true)∨
   (sepR (Utf8.decode s pos).1=false∧∀ x ∈ (s.data.toList.drop pos).take (Utf8.decode s pos).2,sepB x=false)):=by
 have hwn:pos+(Utf8.decode s pos).2≤s.size:=by
  have:=decodeN_le_n' (s.size - pos) (s.get! pos).toNat (s.get! (pos+1)).toNat (s.get! (pos+2)).toNat (s.get! (pos+3)).toNat (by omega);rw[← decode_at] at this;omega
 refine⟨hwn,?_⟩;have hg:=get_list s h;by_cases hb:(s.get! pos).toNat < 128
 ·have he:Utf8.decode s pos=((s.get! pos).toNat,1):=by
   rw[decode_at];unfold decodeN;rw[if_pos hb]
  rw[he];dsimp only;rw[sep_small];cases hs:sepB (s.get! pos) with
  | true=>exact .inl ⟨rfl,rfl,_,hg,hs⟩
  | false=>
   refine .inr ⟨rfl,fun x hx=>?_⟩;obtain⟨j,hj,e⟩:=List.mem_iff_getElem.1 hx;rw[List.length_take] at hj;obtain rfl:j=0:=by omega
   have e2:=List.getElem?_eq_getElem (l:=(s.data.toList.drop pos).take 1) (i:=0) (by rw[List.length_take];exact hj);rw[e,List.getElem?_take,if_pos (by decide),List.getElem?_drop,Nat.add_zero,hg] at e2;injection e2 with e2
   rw[← e2];exact hs
 ·have hd:=decN_high (n:=s.size - pos) (b0:=(s.get! pos).toNat) (b1:=(s.get! (pos+1)).toNat) (b2:=(s.get! (pos+2)).toNat) (b3:=(s.get! (pos+3)).toNat) (by omega);rw[← decode_at] at hd;obtain⟨h1,h2,h3,h4,h5⟩:=hd;refine .inr ⟨?_,fun x hx=>?_⟩
  ·unfold sepR;rw[Bool.or_eq_false_iff];exact⟨beq_false_of_ne (by omega),beq_false_of_ne (by omega)⟩
  ·obtain⟨j,hj,e⟩:=List.mem_iff_getElem.1 hx;have hj2:=hj;rw[List.length_take] at hj2;have e2:=List.getElem?_eq_getElem (l:=(s.data.toList.drop pos).take (Utf8.decode s pos).2) (i:=j) hj;rw[e,List.getElem?_take,if_pos (by omega),List.getElem?_drop,get_list s (by omega)] at e2;injection e2 with e2
   rw[← e2];apply sepB_big;obtain rfl | rfl | rfl | rfl:j=0∨j=1∨j=2∨j=3:=by omega
   ·rw[Nat.add_zero];omega
   ·exact h2 (by omega)
   ·exact h3 (by omega)
   ·exact h4 (by omega)
theorem fields_spans (s:ByteArray):∀ (f pos:Nat)(st:Option Nat)(acc:List (Nat × Nat)),s.size≤pos+f→pos≤s.size→(∀ a,st=some a→a < pos)→
  acc.map (fun p=>pieceU s.data.toList p.1 p.2) ++ fieldsB (openPiece s.data.toList st pos) (s.data.toList.drop pos)=(closeSpans s (spansFromP sepR s f pos st acc)).map (fun p=>pieceU s.data.toList p.1 p.2)
 | f,pos,st,acc,h,hp,hst=>by
  by_cases hlt:pos < s.size
  ·obtain⟨f,rfl⟩:∃ g,f=g+1:=⟨f - 1,by omega⟩
   have hw:=width_pos s pos;obtain⟨hwn,hk⟩:=rune_step s hlt;have hsp:s.data.toList.drop pos=(s.data.toList.drop pos).take (Utf8.decode s pos).2 ++ s.data.toList.drop (pos+(Utf8.decode s pos).2):=by
    rw[← List.drop_drop,List.take_append_drop]
   rcases hk with ⟨k1,k2,c,k3,k4⟩ | ⟨k1,k2⟩
   ·have hd:s.data.toList.drop pos=c :: s.data.toList.drop (pos+1):=by
     obtain⟨hl,e⟩:=List.getElem?_eq_some_iff.1 k3;rw[List.drop_eq_getElem_cons hl,e]
    simp only[spansFromP,if_pos hlt,if_pos k1,k2];rw[hd];show _ ++ (if sepB c=true then _ else _)=_;rw[if_pos k4];cases st with
    | none=>
     have ih:=fields_spans s f (pos+1) none acc (by omega) (by omega) (fun a h=>by cases h);simpa [openPiece] using ih
    | some a=>
     have hpn:=pieceU_ne s.data.toList a pos (hst a rfl) (by rw[← size_eq];omega);have ih:=fields_spans s f (pos+1) none (acc ++ [(a,pos)]) (by omega) (by omega) (fun a h=>by cases h);simpa [openPiece,hpn] using ih
   ·simp only[spansFromP,if_pos hlt,if_neg (show ¬ sepR (Utf8.decode s pos).1=true by rw[k1];simp)];rw[hsp,fieldsB_app _ _ _ k2];cases st with
    | none=>
     have ih:=fields_spans s f (pos+(Utf8.decode s pos).2) (some pos) acc (by omega) hwn (fun a h=>by cases h;omega);have e:([]:List UInt8) ++ (s.data.toList.drop pos).take (Utf8.decode s pos).2=pieceU s.data.toList pos (pos+(Utf8.decode s pos).2):=by
      unfold pieceU;rw[List.nil_append,Nat.add_sub_cancel_left]
     simp only[openPiece] at ih ⊢;rw[e];exact ih
    | some a=>
     have ih:=fields_spans s f (pos+(Utf8.decode s pos).2) (some a) acc (by omega) hwn (fun b h=>by cases h;have:=hst a rfl;omega);simp only[openPiece] at ih ⊢;rw[pieceU_grow _ _ _ _ (Nat.le_of_lt (hst a rfl))];exact ih
  ·obtain rfl:pos=s.size:=by omega
   have hd:s.data.toList.drop s.size=[]:=List.drop_eq_nil_of_le (by rw[← size_eq];exact Nat.le_refl _);rw[hd,spansFromP_end _ s _ _ _ _ hlt];cases st with
   | none=>simp[closeSpans,openPiece,fieldsB]
   | some a=>
    have:=pieceU_ne s.data.toList a s.size (hst a rfl) (by rw[← size_eq];exact Nat.le_refl _);simp[closeSpans,openPiece,fieldsB,this]
termination_by f=>f
theorem fields_bytes (s:ByteArray):(goFieldsP sepR s).map (fun x=>x.data.toList)=fieldsB [] s.data.toList:=by
 have h:=fields_spans s s.size 0 none [] (by omega) (by omega) (fun a h=>by cases h);simp only[List.map_nil,List.nil_append,openPiece,List.drop_zero] at h;rw[h];unfold goFieldsP spansOfP;rw[List.map_map];refine List.map_congr_left (fun p _=>?_);show (s.extract p.1 p.2).data.toList=_;rw[extract_data];unfold pieceU;rfl
end Go.Proofs.YtcmbdhopmncmnaaGreatDoor
namespace Go.Proofs.YtcmbdhopmncmnaaGreatDoor
set_option linter.unusedVariables false
set_option linter.unusedSimpArgs false
abbrev Wd:=List UInt8
def uncom (l:List UInt8):List UInt8:=l.takeWhile (fun c=>c != 35)
def wordsL (l:List UInt8):List Wd:=fieldsB [] (uncom l)
def dig11 (c:UInt8):Bool:=decide (48≤c.toNat) && decide (c.toNat≤57)
def val11 (l:List UInt8):Int:=l.foldl (fun n c=>10*n+((c.toNat:Int) - 48)) 0
def numW (w:Wd):Int:=if w.length=0∨9 < w.length∨(1 < w.length∧w.headD 0=48)∨w.all dig11=false then -1 else val11 w
def alpha11 (c:UInt8):Bool:=(decide (97≤c.toNat) && decide (c.toNat≤122)) || (decide (65≤c.toNat) && decide (c.toNat≤90))
def varW:Wd:=[118,97,114]
def nameW (w:Wd):Bool:=decide (1≤w.length) && decide (w.length≤20) && decide (w≠varW) && !dig11 (w.headD 0) && w.all fun c=>alpha11 c || dig11 c
def placeW (w:Wd):Nat→List Wd→Option Nat
 | _,[]=>none
 | k,x :: l=>if x=w then some k else placeW w (k+1) l
structure PSt where
 head:Nat
 t:TabL
 names:List Wd
def PSt.zero:PSt:=⟨0,⟨0,0,[],[],[]⟩,[]⟩
def elemW (s:PSt)(w:Wd):Int × Int:=
 if 0≤numW w then (if s.t.st≤numW w then (0,5) else (numW w,0)) else if nameW w=false then (0,15) else match placeW w 0 s.names with
 | none=>(0,7)
 | some v=>(-1 - (v:Int),0)
def elemsW (s:PSt):List Wd→List Int × Int
 | []=>([],0)
 | w :: r=>if (elemW s w).2≠0 then ([],(elemW s w).2) else if (elemsW s r).2≠0 then ([],(elemsW s r).2) else ((elemW s w).1 :: (elemsW s r).1,0)
def arrowW:Wd:=[45,62]
def rowW (s:PSt)(w:List Wd):PSt × Int:=
 if w.length≠s.t.hood.length+2∨w.getD s.t.hood.length []≠arrowW then (s,15) else
 if (elemsW s (w.take s.t.hood.length ++ w.drop (s.t.hood.length+1))).2≠0 then (s,(elemsW s (w.take s.t.hood.length ++ w.drop (s.t.hood.length+1))).2) else
 if (elemsW s (w.take s.t.hood.length ++ w.drop (s.t.hood.length+1))).1.getD s.t.hood.length 0 < 0∧(elemsW s (w.take s.t.hood.length ++ w.drop (s.t.hood.length+1))).1.getD s.t.hood.length 0 ∉ (elemsW s (w.take s.t.hood.length ++ w.drop (s.t.hood.length+1))).1.take s.t.hood.length then (s,2) else
 if 400≤s.t.rows.length then (s,6) else
 (⟨s.head,⟨s.t.st,s.t.sym,s.t.hood,s.t.vars,s.t.rows ++ [((elemsW s (w.take s.t.hood.length ++ w.drop (s.t.hood.length+1))).1.take s.t.hood.length,(elemsW s (w.take s.t.hood.length ++ w.drop (s.t.hood.length+1))).1.getD s.t.hood.length 0)]⟩,s.names⟩,0)
def ascW:List Int→Bool
 | x :: y :: l=>decide (x < y) && ascW (y :: l)
 | _=>true
def vblW (s:PSt)(w:List Wd):PSt × Int:=
 if 0 < s.t.rows.length then (s,9) else
 if w.length < 3∨nameW (w.getD 1 [])=false then (s,15) else
 if ((w.drop 2).map numW).any (fun n=>decide (n < 0))=true then (s,15) else
 if (placeW (w.getD 1 []) 0 s.names).isSome=true then (s,8) else
 if ((w.drop 2).map numW).any (fun n=>decide (s.t.st≤n))=true then (s,5) else
 if ascW ((w.drop 2).map numW)=false then (s,9) else
 if 40≤s.t.vars.length then (s,6) else
 (⟨s.head,⟨s.t.st,s.t.sym,s.t.hood,s.t.vars ++ [(w.drop 2).map numW],s.t.rows⟩,s.names ++ [w.getD 1 []]⟩,0)
def mooreP:List (Int × Int):=[(-1,-1),(0,-1),(1,-1),(-1,0),(0,0),(1,0),(-1,1),(0,1),(1,1)]
def neumP:List (Int × Int):=[(0,-1),(-1,0),(0,0),(1,0),(0,1)]
def hexP:List (Int × Int):=[(-1,-1),(0,-1),(-1,0),(0,0),(1,0),(0,1),(1,1)]
def hoodsW:List Wd:=[[109,111,111,114,101],[110,101,117,109,97,110,110],[104,101,120],[108,105,110,101]]
def line11:List (Int × Int):=[(-1,0),(0,0),(1,0)]
def hoodsP:List (List (Int × Int)):=[mooreP,neumP,hexP,line11]
def symsW:List Wd:=[[110,111,110,101],[114,111,116,97,116,101],[114,101,102,108,101,99,116],[112,101,114,109,117,116,101]]
def headsW:List Wd:=[[115,116,97,116,101,115],[104,111,111,100],[115,121,109,109,101,116,114,121]]
def headW (s:PSt)(w:List Wd):PSt × Int:=
 if w.length≠2∨w.getD 0 []≠headsW.getD s.head [] then (s,15) else
 if s.head=0 then (if numW (w.getD 1 []) < 0 then (s,15) else if numW (w.getD 1 []) < 2∨8 < numW (w.getD 1 []) then (s,5) else (⟨1,⟨numW (w.getD 1 []),s.t.sym,s.t.hood,s.t.vars,s.t.rows⟩,s.names⟩,0)) else
 if s.head=1 then (match placeW (w.getD 1 []) 0 hoodsW with
  | none=>(s,7)
  | some k=>(⟨2,⟨s.t.st,s.t.sym,hoodsP.getD k [],s.t.vars,s.t.rows⟩,s.names⟩,0)) else
 match placeW (w.getD 1 []) 0 symsW with
 | none=>(s,7)
 | some k=>if permP s.t.hood (k:Int)=false then (s,2) else (⟨3,⟨s.t.st,(k:Int),s.t.hood,s.t.vars,s.t.rows⟩,s.names⟩,0)
def stepW (s:PSt)(w:List Wd):PSt × Int:=
 if s.head < 3 then headW s w else if w.getD 0 []=varW then ((⟨s.head+1,(vblW s w).1.t,(vblW s w).1.names⟩:PSt),(vblW s w).2) else ((⟨s.head+1,(rowW s w).1.t,(rowW s w).1.names⟩:PSt),(rowW s w).2)
def zero11:TabL:=⟨0,0,[],[],[]⟩
def readW (s:PSt):Nat→List (List UInt8)→TabL × Int × Int
 | _,[]=>if s.head < 3 then (zero11,0,4) else (s.t,0,0)
 | i,l :: r=>if wordsL l=[] then readW s (i+1) r else if (stepW s (wordsL l)).2≠0 then (zero11,(i:Int)+1,(stepW s (wordsL l)).2) else readW (stepW s (wordsL l)).1 (i+1) r
def lines11:List UInt8→List (List UInt8)
 | []=>[[]]
 | c :: r=>if c=10 then [] :: lines11 r else match lines11 r with
  | x :: l=>(c :: x) :: l
  | []=>[[c]]
def parse11 (l:List UInt8):TabL × Int × Int:=if 65536 < l.length then (zero11,0,6) else readW PSt.zero 0 (lines11 l)
def placeH (h:List (Int × Int)):Nat→List (List (Int × Int))→Option Nat
 | _,[]=>none
 | k,x :: l=>if x=h then some k else placeH h (k+1) l
def elT (e:Int):Wd:=if e < 0 then 118 :: Lib.decDigits (-1 - e).toNat else Lib.decDigits e.toNat
def rowT11 (r:Rw):List UInt8:=(r.1.flatMap fun e=>elT e ++ [32]) ++ ([45,62,32] ++ elT r.2) ++ [10]
def varT11 (v:Nat)(l:List Int):List UInt8:=varW ++ (32 :: 118 :: Lib.decDigits v) ++ (l.flatMap fun s=>32 :: Lib.decDigits s.toNat) ++ [10]
def varsT11:Nat→List (List Int)→List UInt8
 | _,[]=>[]
 | v,l :: r=>varT11 v l ++ varsT11 (v+1) r
def head11 (t:TabL)(k:Nat):List UInt8:=headsW.getD 0 [] ++ 32 :: Lib.decDigits t.st.toNat ++ [10] ++ (headsW.getD 1 [] ++ 32 :: hoodsW.getD k [] ++ [10]) ++ (headsW.getD 2 [] ++ 32 :: symsW.getD t.sym.toNat [] ++ [10])
def text11 (t:TabL):List UInt8:=
 if rightTab t=false then [] else match placeH t.hood 0 hoodsP with
 | none=>[]
 | some k=>head11 t k ++ varsT11 0 t.vars ++ t.rows.flatMap rowT11
set_option maxRecDepth 100000
theorem d11_small {n:Nat}(h:n < 10):Lib.decDigits n=[UInt8.ofNat (48+n)]:=by rw[Lib.decDigits,dif_pos h]
theorem d11_big {n:Nat}(h:¬ n < 10):Lib.decDigits n=Lib.decDigits (n / 10) ++ [UInt8.ofNat (48+n % 10)]:=by rw[Lib.decDigits,dif_neg h]
theorem d11_len:∀ {k:Nat}(n:Nat),n < 10 ^ (k+1)→(Lib.decDigits n).length≤k+1
 | 0,n,h=>by rw[d11_small (by simpa using h)];simp
 | k+1,n,h=>by
  by_cases hs:n < 10
  ·rw[d11_small hs];simp
  ·rw[d11_big hs,List.length_append];have:=d11_len (k:=k) (n / 10) (by rw[Nat.pow_succ] at h;omega)
   simp;omega
theorem d11_digit {n:Nat}(h:n < 10):dig11 (UInt8.ofNat (48+n))=true∧((UInt8.ofNat (48+n)).toNat:Int) - 48=n:=by
 have:n=0∨n=1∨n=2∨n=3∨n=4∨n=5∨n=6∨n=7∨n=8∨n=9:=by omega
 rcases this with rfl | rfl | rfl | rfl | rfl | rfl | rfl | rfl | rfl | rfl <;> decide
theorem d11_dig (n:Nat):∀ c ∈ Lib.decDigits n,dig11 c=true:=by
 induction n using Nat.strongRecOn with
 | ind n ih=>
  by_cases h:n < 10
  ·rw[d11_small h];intro c hc;rw[List.mem_singleton.1 hc];exact (d11_digit h).1
  ·rw[d11_big h];intro c hc;rcases List.mem_append.1 hc with hc | hc
   ·exact ih _ (by omega) c hc
   ·rw[List.mem_singleton.1 hc];exact (d11_digit (by omega)).1
theorem val11_snoc (l:List UInt8)(c:UInt8):val11 (l ++ [c])=10*val11 l+((c.toNat:Int) - 48):=by
 unfold val11;rw[List.foldl_append];rfl
theorem d11_val (n:Nat):val11 (Lib.decDigits n)=n:=by
 induction n using Nat.strongRecOn with
 | ind n ih=>
  by_cases h:n < 10
  ·rw[d11_small h];show 10*0+_=_;rw[(d11_digit h).2];omega
  ·rw[d11_big h,val11_snoc,ih _ (by omega),(d11_digit (by omega)).2];omega
theorem d11_ne (n:Nat):Lib.decDigits n≠[]:=by
 by_cases h:n < 10
 ·rw[d11_small h];simp
 ·rw[d11_big h];simp
theorem d11_head (n:Nat):1≤n→(Lib.decDigits n).headD 0≠48:=by
 induction n using Nat.strongRecOn with
 | ind n ih=>
  intro h1;by_cases h:n < 10
  ·rw[d11_small h];have:n=1∨n=2∨n=3∨n=4∨n=5∨n=6∨n=7∨n=8∨n=9:=by omega
   rcases this with rfl | rfl | rfl | rfl | rfl | rfl | rfl | rfl | rfl <;> decide
  ·have h2:=ih (n / 10) (by omega) (by omega);rw[d11_big h];cases hd:Lib.decDigits (n / 10) with
   | nil=>exact absurd hd (d11_ne _)
   | cons c r=>rw[hd] at h2;exact h2
theorem d11_num {n:Nat}(h:n < 1000000000):numW (Lib.decDigits n)=n:=by
 unfold numW;rw[if_neg,d11_val];rintro (h1 | h1 | ⟨h1,h2⟩ | h1)
 ·exact d11_ne n (List.eq_nil_of_length_eq_zero h1)
 ·have:=d11_len (k:=8) n (by omega);omega
 ·by_cases h0:n < 10
  ·rw[d11_small h0] at h1;simp at h1
  ·exact d11_head n (by omega) h2
 ·rw[List.all_eq_true.2 (d11_dig n)] at h1;cases h1
def okc (c:UInt8):Bool:=c != 10 && !sepB c && c != 35
def GoodW (w:Wd):Prop:=w≠[]∧∀ c ∈ w,okc c=true
theorem dig_okc {c:UInt8}(h:dig11 c=true):okc c=true:=by
 unfold dig11 at h;rw[Bool.and_eq_true,decide_eq_true_eq,decide_eq_true_eq] at h;unfold okc sepB;have h1:(c != 10)=true:=by rw[bne_iff_ne];rintro rfl;exact absurd h.1 (by decide)
 have h2:(c == 32)=false:=by rw[beq_eq_false_iff_ne];rintro rfl;exact absurd h.1 (by decide)
 have h3:(c == 9)=false:=by rw[beq_eq_false_iff_ne];rintro rfl;exact absurd h.1 (by decide)
 have h4:(c != 35)=true:=by rw[bne_iff_ne];rintro rfl;exact absurd h.1 (by decide)
 rw[h1,h2,h3,h4];rfl
theorem good_dec (n:Nat):GoodW (Lib.decDigits n):=⟨d11_ne n,fun c hc=>dig_okc (d11_dig n c hc)⟩
theorem good_v (n:Nat):GoodW (118 :: Lib.decDigits n):=⟨by simp,fun c hc=>by
 rcases List.mem_cons.1 hc with rfl | hc
 ·decide
 ·exact dig_okc (d11_dig n c hc)⟩
theorem good_el (e:Int):GoodW (elT e):=by
 unfold elT
 split
 ·exact good_v _
 ·exact good_dec _
def joinB:List Wd→List UInt8
 | []=>[]
 | [w]=>w
 | w :: x :: r=>w ++ 32 :: joinB (x :: r)
theorem okc_parts {c:UInt8}(h:okc c=true):c≠10∧sepB c=false∧c≠35:=by
 unfold okc at h;rw[Bool.and_eq_true,Bool.and_eq_true,bne_iff_ne,bne_iff_ne] at h;exact⟨h.1.1,by simpa using h.1.2,h.2⟩
theorem joinB_mem:∀ {ws:List Wd},(∀ w ∈ ws,GoodW w)→∀ c ∈ joinB ws,c≠10∧c≠35
 | [],_,c,hc=>absurd hc (by simp[joinB])
 | [w],h,c,hc=>by
  have:=okc_parts ((h w (by simp)).2 c hc);exact⟨this.1,this.2.2⟩
 | w :: x :: r,h,c,hc=>by
  unfold joinB at hc;rcases List.mem_append.1 hc with hc | hc
  ·have:=okc_parts ((h w (by simp)).2 c hc);exact⟨this.1,this.2.2⟩
  ·rcases List.mem_cons.1 hc with rfl | hc
   ·decide
   ·exact joinB_mem (fun y hy=>h y (by simp[hy])) c hc
theorem fieldsB_join:∀ {ws:List Wd},(∀ w ∈ ws,GoodW w)→fieldsB [] (joinB ws)=ws
 | [],_=>rfl
 | [w],h=>by
  have h1:=h w (by simp);have:=fieldsB_app w [] [] (fun c hc=>(okc_parts (h1.2 c hc)).2.1);rw[List.append_nil,List.nil_append] at this;show fieldsB [] w=_;rw[this];exact if_neg h1.1
 | w :: x :: r,h=>by
  have h1:=h w (by simp);show fieldsB [] (w ++ 32 :: joinB (x :: r))=_;rw[fieldsB_app w [] _ (fun c hc=>(okc_parts (h1.2 c hc)).2.1),List.nil_append];show (if sepB 32=true then _ else _)=_;rw[if_pos (by decide),if_neg h1.1,fieldsB_join (fun y hy=>h y (by simp[hy]))]
theorem uncom_id:∀ {l:List UInt8},(∀ c ∈ l,c≠35)→uncom l=l
 | [],_=>rfl
 | c :: l,h=>by
  unfold uncom;rw[List.takeWhile_cons,if_pos (by rw[bne_iff_ne];exact h c (by simp))];have:=uncom_id (l:=l) (fun y hy=>h y (by simp[hy]));unfold uncom at this;rw[this]
theorem words_join {ws:List Wd}(h:∀ w ∈ ws,GoodW w):wordsL (joinB ws)=ws:=by
 unfold wordsL;rw[uncom_id (fun c hc=>(joinB_mem h c hc).2),fieldsB_join h]
theorem lines_app:∀ (x r:List UInt8),(∀ c ∈ x,c≠10)→lines11 (x ++ 10 :: r)=x :: lines11 r
 | [],r,_=>by
  show (if (10:UInt8)=10 then _ else _)=_;rw[if_pos rfl]
 | c :: x,r,h=>by
  rw[List.cons_append];show (if c=10 then _ else _)=_;rw[if_neg (h c (by simp)),lines_app x r (fun y hy=>h y (by simp[hy]))]
def textW (ls:List (List Wd)):List UInt8:=ls.flatMap fun ws=>joinB ws ++ [10]
def GoodL (ls:List (List Wd)):Prop:=∀ ws ∈ ls,ws≠[]∧∀ w ∈ ws,GoodW w
theorem lines_text:∀ {ls:List (List Wd)},GoodL ls→lines11 (textW ls)=ls.map joinB ++ [[]]
 | [],_=>rfl
 | ws :: ls,h=>by
  have h1:=h ws (by simp);have e:textW (ws :: ls)=joinB ws ++ 10 :: textW ls:=by
   unfold textW;rw[List.flatMap_cons,List.append_assoc];rfl
  rw[e,lines_app _ _ (fun c hc=>(joinB_mem h1.2 c hc).1),lines_text (fun y hy=>h y (by simp[hy]))];rfl
def runW (s:PSt):List (List Wd)→Option PSt
 | []=>some s
 | w :: r=>if (stepW s w).2≠0 then none else runW (stepW s w).1 r
theorem runW_app (s:PSt):∀ (a b:List (List Wd)),runW s (a ++ b)=(runW s a).bind fun x=>runW x b:=by
 intro a;induction a generalizing s with
 | nil=>intro b;rfl
 | cons w a ih=>
  intro b;show (if _ then _ else _)=Option.bind (if _ then _ else _) _;by_cases h:(stepW s w).2≠0
  ·rw[if_pos h,if_pos h];rfl
  ·rw[if_neg h,if_neg h];exact ih _ b
theorem read_run:∀ {ls:List (List Wd)}(s s':PSt)(i:Nat),GoodL ls→runW s ls=some s'→3≤s'.head→readW s i (ls.map joinB ++ [[]])=(s'.t,0,0)
 | [],s,s',i,_,h,h3=>by
  injection h with h
  subst h;show (if wordsL []=[] then _ else _)=_;rw[if_pos (by decide)];show (if _ then _ else _)=_;rw[if_neg (by omega)]
 | ws :: ls,s,s',i,hg,h,h3=>by
  have h1:=hg ws (by simp);have h':(if (stepW s ws).2≠0 then none else runW (stepW s ws).1 ls)=some s':=h;by_cases he:(stepW s ws).2≠0
  ·rw[if_pos he] at h';cases h'
  ·rw[if_neg he] at h';show (if wordsL (joinB ws)=[] then _ else _)=_;rw[words_join h1.2,if_neg h1.1,if_neg he];exact read_run _ s' (i+1) (fun y hy=>hg y (by simp[hy])) h' h3
def vnm (v:Nat):Wd:=118 :: Lib.decDigits v
theorem vnm_inj {a b:Nat}(h:vnm a=vnm b):a=b:=by
 unfold vnm at h;injection h with _ h
 have h2:=congrArg val11 h;rw[d11_val,d11_val] at h2;omega
theorem place_vnm (k:Nat):∀ (m j:Nat),j≤k→placeW (vnm k) j ((List.range' j m).map vnm)=if k < j+m then some k else none
 | 0,j,h=>by rw[if_neg (by omega)];rfl
 | m+1,j,h=>by
  rw[List.range'_succ,List.map_cons];show (if vnm j=vnm k then some j else placeW (vnm k) (j+1) ((List.range' (j+1) m).map vnm))=_;by_cases hjk:j=k
  ·subst hjk;rw[if_pos rfl,if_pos (by omega)]
  ·rw[if_neg (fun h=>hjk (vnm_inj h)),place_vnm k m (j+1) (by omega)];by_cases h2:k < j+(m+1)
   ·rw[if_pos h2,if_pos (by omega)]
   ·rw[if_neg h2,if_neg (by omega)]
theorem name_vnm {k:Nat}(h:k < 1000):nameW (vnm k)=true:=by
 have hl:=d11_len (k:=2) k (by omega);unfold nameW;have h1:decide (1≤(vnm k).length)=true:=decide_eq_true (by unfold vnm;simp);have h2:decide ((vnm k).length≤20)=true:=decide_eq_true (by unfold vnm;simp;omega);have h3:decide (vnm k≠varW)=true:=decide_eq_true (fun e=>by
  unfold vnm varW at e;injection e with _ e
  have:=d11_dig k 97 (by rw[e];simp);exact absurd this (by decide))
 have h4:dig11 ((vnm k).headD 0)=false:=by
  show dig11 118=false;decide
 have h5:((vnm k).all fun c=>alpha11 c || dig11 c)=true:=List.all_eq_true.2 (fun c hc=>by
  rcases List.mem_cons.1 hc with rfl | hc
  ·decide
  ·rw[d11_dig k c hc,Bool.or_true])
 rw[h1,h2,h3,h4,h5];rfl
theorem num_vnm (k:Nat):numW (vnm k) = -1:=by
 unfold numW;rw[if_pos (.inr (.inr (.inr (by
  show (dig11 118 && _)=false;rw[show dig11 118=false from by decide];rfl))))]
theorem el_of_neg {e:Int}(h:e < 0):elT e=vnm (-1 - e).toNat:=if_pos h
theorem elem_ok {s:PSt}{nv:Nat}{e:Int}(hn:s.names=(List.range' 0 nv).map vnm)(hnv:nv≤40)(hst:s.t.st≤8)(h:elB s.t.st nv e=true):elemW s (elT e)=(e,0):=by
 unfold elB at h;rw[Bool.and_eq_true,decide_eq_true_eq,decide_eq_true_eq] at h;unfold elemW;by_cases h0:e < 0
 ·rw[el_of_neg h0,num_vnm,if_neg (by decide),if_neg (by rw[name_vnm (by omega)];simp),hn,place_vnm _ nv 0 (by omega),if_pos (by omega)];dsimp only;rw[show (-1:Int) - ((-1 - e).toNat:Int)=e by omega]
 ·have:elT e=Lib.decDigits e.toNat:=if_neg h0;rw[this,d11_num (by omega),if_pos (by omega),if_neg (by omega),show ((e.toNat:Nat):Int)=e by omega]
theorem elems_ok {s:PSt}{nv:Nat}(hn:s.names=(List.range' 0 nv).map vnm)(hnv:nv≤40)(hst:s.t.st≤8):∀ (es:List Int),(∀ e ∈ es,elB s.t.st nv e=true)→elemsW s (es.map elT)=(es,0)
 | [],_=>rfl
 | e :: es,h=>by
  rw[List.map_cons];unfold elemsW;rw[elem_ok hn hnv hst (h e (by simp)),elems_ok hn hnv hst es (fun x hx=>h x (by simp[hx]))];rfl
def rowWs (r:Rw):List Wd:=r.1.map elT ++ [arrowW,elT r.2]
theorem row_ok {s:PSt}{nv:Nat}(hn:s.names=(List.range' 0 nv).map vnm)(hnv:nv≤40)(hst:s.t.st≤8){r:Rw}(hr:okRow s.t.st nv s.t.hood.length r=true)(hl:s.t.rows.length < 400) :
  rowW s (rowWs r)=(⟨s.head,⟨s.t.st,s.t.sym,s.t.hood,s.t.vars,s.t.rows ++ [r]⟩,s.names⟩,0):=by
 unfold okRow at hr;simp only[Bool.and_eq_true,decide_eq_true_eq,Bool.or_eq_true] at hr;obtain⟨⟨⟨h1,h2⟩,h3⟩,h4⟩:=hr;have hlen:(r.1.map elT).length=s.t.hood.length:=by rw[List.length_map,h1]
 have e1:(rowWs r).getD s.t.hood.length []=arrowW:=by
  unfold rowWs;rw[List.getD_eq_getElem?_getD,List.getElem?_append_right (by omega),hlen,Nat.sub_self];rfl
 have e2:(rowWs r).take s.t.hood.length ++ (rowWs r).drop (s.t.hood.length+1)=(r.1 ++ [r.2]).map elT:=by
  unfold rowWs;rw[List.take_left' hlen,List.map_append,← List.drop_drop,List.drop_left' hlen];rfl
 have e3:elemsW s ((r.1 ++ [r.2]).map elT)=(r.1 ++ [r.2],0):=elems_ok hn hnv hst _ (fun e he=>by
  rcases List.mem_append.1 he with he | he
  ·exact List.all_eq_true.1 h4 e he
  ·rw[List.mem_singleton.1 he];exact h2)
 have e4:(r.1 ++ [r.2]).getD s.t.hood.length 0=r.2:=by
  rw[List.getD_eq_getElem?_getD,List.getElem?_append_right (by omega),h1,Nat.sub_self];rfl
 have e5:(r.1 ++ [r.2]).take s.t.hood.length=r.1:=List.take_left' h1;have e6:(rowWs r).length=s.t.hood.length+2:=by unfold rowWs;simp[h1]
 unfold rowW;rw[e1,e2,e3];dsimp only;rw[e4,e5,if_neg (by rw[e6];simp),if_neg (by simp),if_neg (by
  rintro⟨a,b⟩;rcases h3 with h3 | h3
  ·omega
  ·exact b h3),if_neg (by omega)]
theorem run_rows {nv:Nat}(hnv:nv≤40):∀ (rs:List Rw)(s:PSt),s.names=(List.range' 0 nv).map vnm→s.t.st≤8→3≤s.head→(∀ r ∈ rs,okRow s.t.st nv s.t.hood.length r=true)→s.t.rows.length+rs.length≤400→
  runW s (rs.map rowWs)=some ⟨s.head+rs.length,⟨s.t.st,s.t.sym,s.t.hood,s.t.vars,s.t.rows ++ rs⟩,s.names⟩
 | [],s,_,_,_,_,_=>by
  rw[List.append_nil];rfl
 | r :: rs,s,hn,hst,h3,hr,hl=>by
  have h0:=row_ok hn hnv hst (hr r (by simp)) (by simp at hl;omega);have hv:(rowWs r).getD 0 []≠varW:=by
   unfold rowWs;cases h:r.1 with
   | nil=>
    show arrowW≠varW;decide
   | cons e es=>
    show elT e≠varW;unfold elT
    split
    ·intro e2;unfold varW at e2;injection e2 with _ e2
     have:=d11_dig (-1 - e).toNat 97 (by rw[e2];simp);exact absurd this (by decide)
    ·intro e2;have:=d11_dig e.toNat 118 (by rw[e2];unfold varW;simp);exact absurd this (by decide)
  have hs:stepW s (rowWs r)=(⟨s.head+1,⟨s.t.st,s.t.sym,s.t.hood,s.t.vars,s.t.rows ++ [r]⟩,s.names⟩,0):=by
   unfold stepW;rw[if_neg (by omega),if_neg hv,h0]
  rw[List.map_cons];show (if (stepW s (rowWs r)).2≠0 then none else runW (stepW s (rowWs r)).1 (rs.map rowWs))=_;rw[hs,if_neg (by simp),run_rows hnv rs ⟨s.head+1,⟨s.t.st,s.t.sym,s.t.hood,s.t.vars,s.t.rows ++ [r]⟩,s.names⟩ hn hst (by dsimp only;omega) (fun x hx=>hr x (by simp[hx])) (by dsimp only;simp at hl ⊢;omega)];dsimp only;rw[List.append_assoc,List.length_cons,Nat.add_assoc,Nat.add_comm 1];rfl
def varWs (v:Nat)(l:List Int):List Wd:=varW :: vnm v :: l.map fun s=>Lib.decDigits s.toNat
theorem okVarS_cons (st:Int)(q:Option Int)(s:Int)(l:List Int):okVarS st q (s :: l)=(decide (0≤s) && decide (s < st) && (match q with | none=>true | some a=>decide (a < s)) && okVarS st (some s) l):=rfl
theorem okVarS_parts {st:Int}:∀ (l:List Int)(q:Option Int),okVarS st q l=true→(∀ s ∈ l,0≤s∧s < st)∧ascW l=true∧(match q,l with | some a,s :: _=>decide (a < s) | _,_=>true)=true
 | [],q,_=>⟨fun s h=>absurd h (by simp),rfl,by cases q <;> rfl⟩
 | s :: l,q,h=>by
  rw[okVarS_cons] at h;simp only[Bool.and_eq_true,decide_eq_true_eq] at h;obtain⟨⟨⟨h1,h2⟩,h3⟩,h4⟩:=h;obtain⟨i1,i2,i3⟩:=okVarS_parts l (some s) h4;refine⟨fun x hx=>?_,?_,?_⟩
  ·rcases List.mem_cons.1 hx with rfl | hx
   ·exact⟨h1,h2⟩
   ·exact i1 x hx
  ·cases l with
   | nil=>rfl
   | cons y l=>
    show (decide (s < y) && ascW (y :: l))=true;rw[i2,Bool.and_true];exact i3
  ·cases q with
   | none=>rfl
   | some a=>exact h3
theorem num_states {st:Int}(h8:st≤8){l:List Int}(h:∀ s ∈ l,0≤s∧s < st):(l.map fun s=>Lib.decDigits s.toNat).map numW=l:=by
 rw[List.map_map]
 conv=>rhs;rw[← List.map_id l]
 refine List.map_congr_left (fun s hs=>?_);have:=h s hs;show numW (Lib.decDigits s.toNat)=s;rw[d11_num (by omega)];omega
theorem vbl_ok {s:PSt}{v:Nat}{l:List Int}(hn:s.names=(List.range' 0 v).map vnm)(hv:s.t.vars.length=v)(hv4:v < 40)(hr:s.t.rows=[])(hst:s.t.st≤8)(hl:okVar s.t.st l=true) :
  vblW s (varWs v l)=(⟨s.head,⟨s.t.st,s.t.sym,s.t.hood,s.t.vars ++ [l],s.t.rows⟩,(List.range' 0 (v+1)).map vnm⟩,0):=by
 unfold okVar at hl;rw[Bool.and_eq_true,decide_eq_true_eq] at hl;obtain⟨h1,h2,-⟩:=okVarS_parts l none hl.2;have hd:((varWs v l).drop 2).map numW=l:=num_states hst h1;have hg:(varWs v l).getD 1 []=vnm v:=rfl;have hp:placeW (vnm v) 0 ((List.range' 0 v).map vnm)=none:=by rw[place_vnm v v 0 (by omega),if_neg (by omega)]
 have c2:¬ ((varWs v l).length < 3∨nameW (vnm v)=false):=by
  rintro (h | h)
  ·rw[show (varWs v l).length=l.length+2 by simp[varWs]] at h;omega
  ·rw[name_vnm (by omega)] at h;cases h
 have c3:¬ (l.any (fun n=>decide (n < 0))=true):=by
  intro h;obtain⟨x,hx,hx2⟩:=List.any_eq_true.1 h;have:=h1 x hx;rw[decide_eq_true_eq] at hx2;omega
 have c5:¬ (l.any (fun n=>decide (s.t.st≤n))=true):=by
  intro h;obtain⟨x,hx,hx2⟩:=List.any_eq_true.1 h;have:=h1 x hx;rw[decide_eq_true_eq] at hx2;omega
 unfold vblW;rw[hd,hg,hn,hp,if_neg (show ¬ (0 < s.t.rows.length) by rw[hr];simp),if_neg c2,if_neg c3,if_neg (show ¬ ((none:Option Nat).isSome=true) by simp),if_neg c5,if_neg (show ¬ (ascW l=false) by rw[h2];simp),if_neg (show ¬ (40≤s.t.vars.length) by omega)];have:(List.range' 0 (v+1)).map vnm=(List.range' 0 v).map vnm ++ [vnm v]:=by
  rw[List.range'_concat,List.map_append]
  simp
 rw[this]
def varsWs:Nat→List (List Int)→List (List Wd)
 | _,[]=>[]
 | v,l :: r=>varWs v l :: varsWs (v+1) r
theorem run_vars:∀ (vs:List (List Int))(s:PSt)(v:Nat),s.names=(List.range' 0 v).map vnm→s.t.vars.length=v→v+vs.length≤40→s.t.rows=[]→s.t.st≤8→3≤s.head→(∀ l ∈ vs,okVar s.t.st l=true)→
  runW s (varsWs v vs)=some ⟨s.head+vs.length,⟨s.t.st,s.t.sym,s.t.hood,s.t.vars ++ vs,[]⟩,(List.range' 0 (v+vs.length)).map vnm⟩
 | [],⟨hd,⟨st,sym,hood,vars,rows⟩,names⟩,v,hn,hv,_,hr,_,_,_=>by
  dsimp only at hn hr;subst hr;rw[List.append_nil,hn];rfl
 | l :: vs,s,v,hn,hv,h4,hr,hst,h3,hok=>by
  rw[List.length_cons] at h4;have h0:=vbl_ok hn hv (by omega) hr hst (hok l (by simp));have hs:stepW s (varWs v l)=(⟨s.head+1,⟨s.t.st,s.t.sym,s.t.hood,s.t.vars ++ [l],s.t.rows⟩,(List.range' 0 (v+1)).map vnm⟩,0):=by
   unfold stepW;rw[if_neg (by omega),if_pos (show (varWs v l).getD 0 []=varW from rfl),h0]
  show (if (stepW s (varWs v l)).2≠0 then none else runW (stepW s (varWs v l)).1 (varsWs (v+1) vs))=_;rw[hs,if_neg (by simp),run_vars vs ⟨s.head+1,⟨s.t.st,s.t.sym,s.t.hood,s.t.vars ++ [l],s.t.rows⟩,(List.range' 0 (v+1)).map vnm⟩ (v+1) rfl (by dsimp only;rw[List.length_append,hv];rfl) (by omega) hr hst (by dsimp only;omega) (fun x hx=>hok x (by simp[hx]))];dsimp only;rw[List.append_assoc,List.length_cons,show s.head+1+vs.length=s.head+(vs.length+1) by omega,show v+1+vs.length=v+(vs.length+1) by omega];rfl
theorem place_hoods {k:Nat}(h:k < 4):placeW (hoodsW.getD k []) 0 hoodsW=some k:=by
 obtain rfl | rfl | rfl | rfl:k=0∨k=1∨k=2∨k=3:=by omega
 all_goals decide
theorem place_syms {k:Nat}(h:k < 4):placeW (symsW.getD k []) 0 symsW=some k:=by
 obtain rfl | rfl | rfl | rfl:k=0∨k=1∨k=2∨k=3:=by omega
 all_goals decide
theorem placeH_some {h:List (Int × Int)}:∀ (l:List (List (Int × Int)))(j k:Nat),placeH h j l=some k→j≤k∧k < j+l.length∧l.getD (k - j) []=h
 | [],j,k,e=>by cases e
 | x :: l,j,k,e=>by
  have e':(if x=h then some j else placeH h (j+1) l)=some k:=e;by_cases hx:x=h
  ·rw[if_pos hx] at e';injection e' with e'
   subst e';exact⟨Nat.le_refl _,by simp,by rw[Nat.sub_self];exact hx⟩
  ·rw[if_neg hx] at e';obtain⟨h1,h2,h3⟩:=placeH_some l (j+1) k e';refine⟨by omega,by rw[List.length_cons];omega,?_⟩;rw[show k - j=(k - (j+1))+1 by omega];exact h3
def linesT (t:TabL)(k:Nat):List (List Wd):=
 [[headsW.getD 0 [],Lib.decDigits t.st.toNat],[headsW.getD 1 [],hoodsW.getD k []],[headsW.getD 2 [],symsW.getD t.sym.toNat []]] ++ (varsWs 0 t.vars ++ t.rows.map rowWs)
theorem good_vars:∀ (vs:List (List Int))(v:Nat),GoodL (varsWs v vs)
 | [],_,ws,h=>absurd h (by simp[varsWs])
 | l :: vs,v,ws,h=>by
  rcases List.mem_cons.1 h with rfl | h
  ·refine⟨by simp[varWs],fun w hw=>?_⟩;rcases List.mem_cons.1 hw with rfl | hw
   ·exact⟨by decide,by decide⟩
   ·rcases List.mem_cons.1 hw with rfl | hw
    ·exact good_v v
    ·obtain⟨s,-,rfl⟩:=List.mem_map.1 hw;exact good_dec _
  ·exact good_vars vs (v+1) ws h
theorem good_rows (rs:List Rw):GoodL (rs.map rowWs):=fun ws h=>by
 obtain⟨r,-,rfl⟩:=List.mem_map.1 h;refine⟨by simp[rowWs],fun w hw=>?_⟩;rcases List.mem_append.1 hw with hw | hw
 ·obtain⟨e,-,rfl⟩:=List.mem_map.1 hw;exact good_el e
 ·rcases List.mem_cons.1 hw with rfl | hw
  ·exact⟨by decide,by decide⟩
  ·rw[List.mem_singleton.1 hw];exact good_el _
theorem good_lines (t:TabL){k:Nat}(hk:k < 4)(hs:t.sym.toNat < 4):GoodL (linesT t k):=fun ws h=>by
 have gh:∀ k,k < 4→GoodW (hoodsW.getD k []):=fun k hk=>by
  obtain rfl | rfl | rfl | rfl:k=0∨k=1∨k=2∨k=3:=by omega
  all_goals exact⟨by decide,by decide⟩
 have gs:∀ k,k < 4→GoodW (symsW.getD k []):=fun k hk=>by
  obtain rfl | rfl | rfl | rfl:k=0∨k=1∨k=2∨k=3:=by omega
  all_goals exact⟨by decide,by decide⟩
 have g2:∀ (a b:Wd),GoodW a→GoodW b→[a,b]≠[]∧∀ w ∈ [a,b],GoodW w:=fun a b ha hb=>⟨by simp,fun w hw=>by
  rcases List.mem_cons.1 hw with rfl | hw
  ·exact ha
  ·rw[List.mem_singleton.1 hw];exact hb⟩
 rcases List.mem_append.1 h with h | h
 ·rcases List.mem_cons.1 h with rfl | h
  ·exact g2 _ _ ⟨by decide,by decide⟩ (good_dec _)
  ·rcases List.mem_cons.1 h with rfl | h
   ·exact g2 _ _ ⟨by decide,by decide⟩ (gh k hk)
   ·rw[List.mem_singleton.1 h];exact g2 _ _ ⟨by decide,by decide⟩ (gs _ hs)
 ·rcases List.mem_append.1 h with h | h
  ·exact good_vars t.vars 0 ws h
  ·exact good_rows t.rows ws h
theorem join_row (r:Rw):joinB (rowWs r) ++ [10]=rowT11 r:=by
 have h:∀ es:List Int,joinB (es.map elT ++ [arrowW,elT r.2])=(es.flatMap fun e=>elT e ++ [32]) ++ ([45,62,32] ++ elT r.2):=by
  intro es;induction es with
  | nil=>rfl
  | cons e es ih=>
   have:joinB ((e :: es).map elT ++ [arrowW,elT r.2])=elT e ++ 32 :: joinB (es.map elT ++ [arrowW,elT r.2]):=by
    cases es <;> rfl
   rw[this,ih,List.flatMap_cons,List.append_assoc,List.append_assoc];rfl
 unfold rowWs rowT11;rw[h]
theorem join_var (v:Nat)(l:List Int):joinB (varWs v l) ++ [10]=varT11 v l:=by
 have h:∀ (w:Wd) (l:List Int),joinB (w :: l.map fun s=>Lib.decDigits s.toNat)=w ++ l.flatMap fun s=>32 :: Lib.decDigits s.toNat:=by
  intro w l;induction l generalizing w with
  | nil=>show w=w ++ [];rw[List.append_nil]
  | cons s l ih=>
   show w ++ 32 :: joinB (Lib.decDigits s.toNat :: l.map fun s=>Lib.decDigits s.toNat)=_;rw[ih];rfl
 unfold varWs varT11;show (varW ++ 32 :: joinB (vnm v :: l.map fun s=>Lib.decDigits s.toNat)) ++ [10]=_;rw[h];unfold vnm;simp[List.append_assoc]
theorem text_lines (t:TabL)(k:Nat):head11 t k ++ varsT11 0 t.vars ++ t.rows.flatMap rowT11=textW (linesT t k):=by
 have hv:∀ (vs:List (List Int)) (v:Nat),textW (varsWs v vs)=varsT11 v vs:=by
  intro vs;induction vs with
  | nil=>intro v;rfl
  | cons l vs ih=>
   intro v;show (joinB (varWs v l) ++ [10]) ++ textW (varsWs (v+1) vs)=_;rw[join_var,ih];rfl
 have hr:∀ rs:List Rw,textW (rs.map rowWs)=rs.flatMap rowT11:=by
  intro rs;induction rs with
  | nil=>rfl
  | cons r rs ih=>
   show (joinB (rowWs r) ++ [10]) ++ textW (rs.map rowWs)=_;rw[join_row,ih,List.flatMap_cons]
 have ha:∀ a b:List (List Wd),textW (a ++ b)=textW a ++ textW b:=fun a b=>List.flatMap_append;unfold linesT;have h3:textW [[headsW.getD 0 [],Lib.decDigits t.st.toNat],[headsW.getD 1 [],hoodsW.getD k []],[headsW.getD 2 [],symsW.getD t.sym.toNat []]]=head11 t k:=by simp[textW,head11,joinB]
 rw[ha,ha,hv,hr,List.append_assoc,h3]
theorem run_head {t:TabL}(hr:rightTab t=true){k:Nat}(hk:placeH t.hood 0 hoodsP=some k) :
  runW PSt.zero [[headsW.getD 0 [],Lib.decDigits t.st.toNat],[headsW.getD 1 [],hoodsW.getD k []],[headsW.getD 2 [],symsW.getD t.sym.toNat []]]=some ⟨3,⟨t.st,t.sym,t.hood,[],[]⟩,[]⟩:=by
 unfold rightTab headTab at hr;simp only[Bool.and_eq_true,decide_eq_true_eq] at hr;obtain⟨⟨⟨⟨⟨⟨⟨h1,h2⟩,h3⟩,h4⟩,h5⟩,h6⟩,h7⟩,h8⟩:=hr;obtain⟨-,k4,kh⟩:=placeH_some _ _ _ hk;rw[Nat.sub_zero] at kh;have k4':k < 4:=by simpa [hoodsP] using k4
 have hsym:0≤t.sym∧t.sym < 4:=by
  unfold permP at h4;by_cases a0:t.sym=0
  ·omega
  ·rw[if_neg a0] at h4;by_cases a1:t.sym=1
   ·omega
   ·rw[if_neg a1] at h4;by_cases a2:t.sym=2
    ·omega
    ·rw[if_neg a2] at h4;by_cases a3:t.sym=3
     ·omega
     ·rw[if_neg a3] at h4;cases h4
 have e1:stepW PSt.zero [headsW.getD 0 [],Lib.decDigits t.st.toNat]=(⟨1,⟨t.st,0,[],[],[]⟩,[]⟩,0):=by
  have hn:numW (Lib.decDigits t.st.toNat)=t.st:=by rw[d11_num (by omega)];omega
  show (if (0:Nat) < 3 then headW PSt.zero _ else _)=_;rw[if_pos (by decide)];unfold headW;rw[if_neg (by rintro (h | h);exact h rfl;exact h rfl),if_pos (show PSt.zero.head=0 from rfl)];have hg:([headsW.getD 0 [],Lib.decDigits t.st.toNat]:List Wd).getD 1 []=Lib.decDigits t.st.toNat:=rfl;rw[hg,hn,if_neg (by omega),if_neg (by omega)];rfl
 have e2:stepW ⟨1,⟨t.st,0,[],[],[]⟩,[]⟩ [headsW.getD 1 [],hoodsW.getD k []]=(⟨2,⟨t.st,0,t.hood,[],[]⟩,[]⟩,0):=by
  show (if (1:Nat) < 3 then headW _ _ else _)=_;rw[if_pos (by decide)];unfold headW;rw[if_neg (by rintro (h | h);exact h rfl;exact h rfl),if_neg (show ¬ ((1:Nat)=0) by decide),if_pos (show (1:Nat)=1 from rfl)];show (match placeW (hoodsW.getD k []) 0 hoodsW with | none=>_ | some k=>_)=_;rw[place_hoods k4'];dsimp only;rw[kh]
 have e3:stepW ⟨2,⟨t.st,0,t.hood,[],[]⟩,[]⟩ [headsW.getD 2 [],symsW.getD t.sym.toNat []]=(⟨3,⟨t.st,t.sym,t.hood,[],[]⟩,[]⟩,0):=by
  show (if (2:Nat) < 3 then headW _ _ else _)=_;rw[if_pos (by decide)];unfold headW;rw[if_neg (by rintro (h | h);exact h rfl;exact h rfl),if_neg (show ¬ ((2:Nat)=0) by decide),if_neg (show ¬ ((2:Nat)=1) by decide)];show (match placeW (symsW.getD t.sym.toNat []) 0 symsW with | none=>_ | some k=>_)=_;rw[place_syms (by omega)];dsimp only;rw[show ((t.sym.toNat:Nat):Int)=t.sym by omega,h4,if_neg (by simp)]
 unfold runW;rw[e1,if_neg (by simp)];unfold runW;rw[e2,if_neg (by simp)];unfold runW;rw[e3,if_neg (by simp)];rfl
theorem trip11 {t:TabL}(hr:rightTab t=true){k:Nat}(hk:placeH t.hood 0 hoodsP=some k)(hl:(text11 t).length≤65536):parse11 (text11 t)=(t,0,0):=by
 have hh:=run_head hr hk;have hr0:=hr;unfold rightTab headTab at hr;simp only[Bool.and_eq_true,decide_eq_true_eq] at hr;obtain⟨⟨⟨⟨⟨⟨⟨h1,h2⟩,h3⟩,h4⟩,h5⟩,h6⟩,h7⟩,h8⟩:=hr;obtain⟨-,k4,-⟩:=placeH_some _ _ _ hk;have k4':k < 4:=by simpa [hoodsP] using k4
 have hsym:t.sym.toNat < 4:=by
  unfold permP at h4;by_cases a0:t.sym=0
  ·omega
  ·rw[if_neg a0] at h4;by_cases a1:t.sym=1
   ·omega
   ·rw[if_neg a1] at h4;by_cases a2:t.sym=2
    ·omega
    ·rw[if_neg a2] at h4;by_cases a3:t.sym=3
     ·omega
     ·rw[if_neg a3] at h4;cases h4
 have et:text11 t=textW (linesT t k):=by
  unfold text11;rw[if_neg (by rw[hr0];simp),hk];exact text_lines t k
 have hrun:runW PSt.zero (linesT t k)=some ⟨3+t.vars.length+t.rows.length,t,(List.range' 0 t.vars.length).map vnm⟩:=by
  unfold linesT;rw[runW_app,hh];show runW _ _=_;rw[runW_app,run_vars t.vars ⟨3,⟨t.st,t.sym,t.hood,[],[]⟩,[]⟩ 0 rfl rfl (by omega) rfl h2 (Nat.le_refl _) (fun l hl=>List.all_eq_true.1 h7 l hl)];show runW _ _=_;rw[run_rows (nv:=t.vars.length) h5 t.rows _ (by dsimp only;rw[Nat.zero_add]) h2 (by dsimp only;omega) (fun r hr=>List.all_eq_true.1 h8 r hr) (by dsimp only;simpa using h6)];dsimp only;rw[List.nil_append,List.nil_append,Nat.zero_add]
 unfold parse11;rw[if_neg (by omega),et,lines_text (good_lines t k4' hsym),read_run PSt.zero _ 0 (good_lines t k4' hsym) hrun (by dsimp only;omega)]
theorem el_len {st:Int}{nv:Nat}{e:Int}(hnv:nv≤40)(hst:st≤8)(h:elB st nv e=true):(elT e).length≤3:=by
 unfold elB at h;rw[Bool.and_eq_true,decide_eq_true_eq,decide_eq_true_eq] at h;unfold elT
 split
 ·have:=d11_len (k:=1) (-1 - e).toNat (by omega);rw[List.length_cons];omega
 ·have:=d11_len (k:=0) e.toNat (by omega);omega
theorem flat_len {α:Type}{f:α→List UInt8}{m:Nat}:∀ {l:List α},(∀ x ∈ l,(f x).length≤m)→(l.flatMap f).length≤m*l.length
 | [],_=>by simp
 | x :: l,h=>by
  rw[List.flatMap_cons,List.length_append,List.length_cons,Nat.mul_succ];have h1:=h x (by simp);have h2:=flat_len (l:=l) (fun y hy=>h y (by simp[hy]));omega
theorem row_len {st:Int}{nv nh:Nat}{r:Rw}(hnv:nv≤40)(hst:st≤8)(h:okRow st nv nh r=true):(rowT11 r).length≤4*nh+7:=by
 obtain⟨h1,-,-⟩:=okRow_parts hnv h;unfold okRow at h;simp only[Bool.and_eq_true,decide_eq_true_eq] at h;obtain⟨⟨⟨-,h2⟩,-⟩,h4⟩:=h;have a:=flat_len (f:=fun e=>elT e ++ [32]) (m:=4) (l:=r.1) (fun e he=>by
  have:=el_len hnv hst (List.all_eq_true.1 h4 e he);rw[List.length_append];simpa using this)
 have b:=el_len hnv hst h2;unfold rowT11;rw[List.length_append,List.length_append,List.length_append];simp only[List.length_cons,List.length_nil];rw[h1] at a;omega
theorem var_len {st:Int}{v:Nat}{l:List Int}(hst:st≤8)(hv:v < 100)(h:okVar st l=true):(varT11 v l).length≤2*l.length+8:=by
 unfold okVar at h;rw[Bool.and_eq_true] at h;obtain⟨h1,-,-⟩:=okVarS_parts l none h.2;have a:=flat_len (f:=fun s:Int=>32 :: Lib.decDigits s.toNat) (m:=2) (l:=l) (fun s hs=>by
  have:=h1 s hs;have:=d11_len (k:=0) s.toNat (by omega);rw[List.length_cons];omega)
 have b:=d11_len (k:=1) v (by omega);unfold varT11 varW;simp only[List.length_append,List.length_cons,List.length_nil];omega
theorem vars_len {st:Int}(hst:st≤8):∀ (vs:List (List Int))(v:Nat),v+vs.length≤40→(∀ l ∈ vs,okVar st l=true)→(∀ l ∈ vs,l.length≤30)→(varsT11 v vs).length≤68*vs.length
 | [],_,_,_,_=>by simp[varsT11]
 | l :: vs,v,h,h1,h2=>by
  rw[List.length_cons] at h;have a:=var_len (v:=v) hst (by omega) (h1 l (by simp));have b:=vars_len hst vs (v+1) (by omega) (fun x hx=>h1 x (by simp[hx])) (fun x hx=>h2 x (by simp[hx]));have c:=h2 l (by simp);unfold varsT11;rw[List.length_append,List.length_cons];omega
theorem words_len:∀ k:Nat,k < 4→(hoodsW.getD k []).length≤7∧(symsW.getD k []).length≤7:=by decide
theorem text_len {t:TabL}(hr:rightTab t=true)(hv:∀ l ∈ t.vars,l.length≤30)(hn:t.rows.length≤30):(text11 t).length≤10000:=by
 obtain⟨⟨h2,h8⟩,hh,hp,hv4,hn4,hva,hro⟩:=rightTab_parts hr;unfold text11;rw[if_neg (by rw[hr];simp)];cases hk:placeH t.hood 0 hoodsP with
 | none=>exact Nat.zero_le _
 | some k=>
  dsimp only;obtain⟨-,k4,-⟩:=placeH_some _ _ _ hk;have k4':k < 4:=by simpa [hoodsP] using k4
  have hsy:(symsW.getD t.sym.toNat []).length≤7:=by
   by_cases hs:t.sym.toNat < 4
   ·exact (words_len _ hs).2
   ·rw[List.getD_eq_getElem?_getD,List.getElem?_eq_none (by show 4≤_;omega)];exact Nat.zero_le _
  have hho:=(words_len k k4').1;have a:=vars_len h8 t.vars 0 (by omega) hva hv;have hl:=hoodB_len hh;have b:=flat_len (f:=rowT11) (m:=4*t.hood.length+7) (l:=t.rows) (fun r hr=>row_len hv4 h8 (hro r hr));have b2:(4*t.hood.length+7)*t.rows.length≤107*30:=Nat.mul_le_mul (by omega) hn;have c:=d11_len (k:=0) t.st.toNat (by omega);have e:(head11 t k).length=6+(1+(Lib.decDigits t.st.toNat).length)+1+(4+(1+(hoodsW.getD k []).length)+1)+(8+(1+(symsW.getD t.sym.toNat []).length)+1):=by
   unfold head11;simp only[List.length_append,List.length_cons,List.length_nil];rw[show (headsW.getD 0 []).length=6 from rfl,show (headsW.getD 1 []).length=4 from rfl,show (headsW.getD 2 []).length=8 from rfl];omega
  rw[List.length_append,List.length_append,e];omega
end Go.Proofs.YtcmbdhopmncmnaaGreatDoor
