/-
  texts RPerm11 Hood Ref07 Push15 Few11 SmallL Fld Prs11: parts of the proof; conditions stand with each theorem.
-/
import Derived.Test.YtcmbdhopmncmnaaGreatDoorVG6
import Derived.Test.YtcmbdhopmncmnaaGreatDoorVG0
import Derived.Test.YtcmbdhopmncmnaaGreatDoorVG1
import Derived.Lib.FieldsP
import Derived.Lib.ItoaNum
import Derived.Test.YtcmbdhopmncmnaaGreatDoorVG3
namespace Go.Proofs.YtcmbdhopmncmnaaGreatDoor
open Go.RowKit Go.Sort Go.Maps
set_option maxRecDepth 100000
set_option linter.unusedVariables false
set_option linter.unusedSimpArgs false
theorem Ints.take {w:World}{A:Option Addr}{zs:List Int}(h:Ints w A zs)(i:Nat):Ints w A (zs.take i):=by
 refine⟨⟨by simp,fun hn=>?_⟩,?_⟩
 ·obtain⟨ad,e,hb,hc⟩:=h.1.2 (by rw[List.length_take] at hn;omega);refine⟨ad,e,hb,fun j u hj=>hc j u ?_⟩;rw[List.map_take,List.getElem?_take] at hj
  split at hj
  ·exact hj
  ·cases hj
 ·have:=h.2;rw[List.length_take];omega
theorem own_cap {w:World}{base size n:Nat}{e:TypeId}{v:Value}{xs:List Value}(h:w.ownsRow base e size v n xs):∃ A c,v=.slice A n c∧n≤c:=by
 rcases h.2 with ⟨h1,h2⟩ | ⟨g,cap,cur,h3,h4,h5,h6⟩
 ·exact⟨none,0,by rw[h1,h2],by omega⟩
 ·exact⟨some ⟨g,0,none⟩,cap,h3,h6.1⟩
theorem OwnI.capI {I:TypeId}{w:World}{base:Nat}{v:Value}{zs:List Int}(h:OwnI I w base v zs):∃ A c,v=.slice A zs.length c∧Ints w A zs∧zs.length≤c:=by
 obtain⟨A,c,e,h1⟩:=own_cap h;obtain⟨A',c',e',h2,-⟩:=h.ints;rw[e] at e';injection e' with e1 _ e2
 subst e1 e2;exact⟨A,c,e,h2,h1⟩
end Go.Proofs.YtcmbdhopmncmnaaGreatDoor
namespace Go.Proofs.YtcmbdhopmncmnaaGreatDoor
open Lib(hid)
set_option linter.unusedSimpArgs false
open Go.RowKit
set_option maxRecDepth 100000
set_option linter.unusedVariables false

def xsOf (r:Nat):List Int:=(List.range (2*r+1)).map fun (i:Nat)=>(i:Int) - (r:Int)
def rowOf (r:Nat)(p:Int→Int→Bool)(y:Int)(i:Nat):List (Int × Int):=(((xsOf r).take i).filter (p · y)).map fun x=>(x,y)
def gridOf (r:Nat)(p:Int→Int→Bool)(j:Nat):List (Int × Int):=((xsOf r).take j).flatMap fun y=>rowOf r p y (2*r+1)
theorem xsOf_len (r:Nat):(xsOf r).length=2*r+1:=by simp[xsOf]
theorem xsOf_take (r i:Nat)(h:i < 2*r+1):(xsOf r).take (i+1)=(xsOf r).take i ++ [(i:Int) - r]:=by
 rw[List.take_succ_eq_append_getElem (by rw[xsOf_len];exact h)];simp[xsOf]
theorem rowOf_yes {r:Nat}{p:Int→Int→Bool}{y:Int}{i:Nat}(h:i < 2*r+1)(hp:p ((i:Int) - r) y=true):rowOf r p y (i+1)=rowOf r p y i ++ [((i:Int) - r,y)]:=by
 simp[rowOf,xsOf_take r i h,hp]
theorem rowOf_no {r:Nat}{p:Int→Int→Bool}{y:Int}{i:Nat}(h:i < 2*r+1)(hp:p ((i:Int) - r) y=false):rowOf r p y (i+1)=rowOf r p y i:=by
 simp[rowOf,xsOf_take r i h,hp]
theorem gridOf_succ {r:Nat}{p:Int→Int→Bool}{j:Nat}(h:j < 2*r+1):gridOf r p (j+1)=gridOf r p j ++ rowOf r p ((j:Int) - r) (2*r+1):=by
 simp[gridOf,xsOf_take r j h]
theorem rowOf_len (r:Nat)(p:Int→Int→Bool)(y:Int)(i:Nat):(rowOf r p y i).length≤2*r+1:=by
 unfold rowOf;rw[List.length_map];refine Nat.le_trans (List.length_filter_le _ _) ?_;rw[List.length_take,xsOf_len];omega
theorem gridOf_len (r:Nat)(p:Int→Int→Bool):∀ j,j≤2*r+1→(gridOf r p j).length≤j*(2*r+1)
 | 0,_=>by simp[gridOf]
 | j+1,h=>by
  rw[gridOf_succ (by omega),List.length_append,Nat.add_mul];have:=gridOf_len r p j (by omega);have:=rowOf_len r p ((j:Int) - r) (2*r+1);omega

set_option maxHeartbeats 400000 in
theorem collect_any (r:Nat)(hr:r≤2)(K:FuncId)(cap:Array Value)(p:Int→Int→Bool)(w:World)
  (hent:∀ (args:Array Value) (w:World),(callFunc K args).run Tryz.prog w=.ok (.enter K args) w)
  (hc:∀ (x y:Int) (w':World),-2≤x→x≤2→-2≤y→y≤2→Below w.heap.size w w'→Calls Tryz.prog K (#[.int .i64 x,.int .i64 y] ++ cap) w' fun e w''=>e=.returned (.bool (p x y))∧w'=w'') :
  Calls Tryz.prog 120 #[.int .i64 r,.func (.func K) #[] cap] w (RetPts (gridOf r p (2*r+1)) w):=by
 have HC:=hid hc;clear hc;go_enter Tryz.func120,Tryz.ntmps120;go_wp2;go_loopw [5,6] (fun v y wr=>∃ j:Nat,j≤2*r+1∧y=.int .i64 ((j:Int) - r)∧OwnP 43 wr w.heap.size v (gridOf r p j)∧Below w.heap.size w wr) (fun _ y _=>(r+1 - intOf y).toNat)
 case atStart=>exact⟨0,by omega,by go_num,OwnP.nil _ _ _,Below.refl _ _⟩
 case round=>
  obtain⟨j,hj,rfl,hown,hb⟩:=hrel;by_cases hlt:j < 2*r+1
  ·have hdec:decide (((j:Int) - r)≤(r:Int))=true:=decide_eq_true (by omega);go_wp2;obtain⟨wo,rfl⟩:∃ wo:World,wo=wr:=⟨_,rfl⟩
   go_loopw [5,7] (fun v x wr=>∃ i:Nat,i≤2*r+1∧x=.int .i64 ((i:Int) - r)∧OwnP 43 wr w.heap.size v (gridOf r p j ++ rowOf r p ((j:Int) - r) i)∧Below w.heap.size w wr) (fun _ x _=>(r+1 - intOf x).toNat)
   case atStart=>exact⟨0,by omega,by go_num,by simpa [rowOf] using hown,hb⟩
   case round=>
    obtain⟨i,hi,rfl,hown2,hb2⟩:=hrel;clear hown;by_cases hlt2:i < 2*r+1
    ·go_wp2_with fail;have hcall:=HC.out ((i:Int) - r) ((j:Int) - r) wr (by omega) (by omega) (by omega) (by omega) hb2;refine hcall.mono ?_;rintro e w' ⟨rfl,rfl⟩;clear hcall;have hlen:=gridOf_len r p j (by omega);have hlen2:=rowOf_len r p ((j:Int) - r) i;have hlen3:j*(2*r+1)≤5*5:=Nat.mul_le_mul (by omega) (by omega);have hlen4:(gridOf r p j ++ rowOf r p ((j:Int) - r) i).length < 1000000000000:=by
      rw[List.length_append];omega
     clear hlen hlen2 hlen3;cases hp:p ((i:Int) - r) ((j:Int) - r)
     ·have HP:=rowOf_no hlt2 hp;have HP2:=hid HP;clear HP;go_wp2;go_roundw
      case rel=>exact⟨i+1,by omega,by go_num,by rw[HP2.out];exact hown2,hb2⟩
      case measure=>simp[intOf];omega
     ·have HP:=rowOf_yes hlt2 hp;have HP2:=hid HP;clear HP;go_wp2_with (at_builtin;refine wpList_pushP rfl _ _ _ rfl w.heap.size 43 Tryz.underlying22 Tryz.infoPt _ _ rfl hown2 _ _ rfl hlen4 hb2.size ?_);intro v' w1 hown3 hb3;have hb4:=hb2.trans hb3;go_wp2;go_roundw
      case rel=>exact⟨i+1,by omega,by go_num,by rw[HP2.out];exact hown3,hb4⟩
      case measure=>simp[intOf];omega
    ·obtain rfl:i=2*r+1:=by omega
     have HG:=hid (gridOf_succ (p:=p) hlt);go_wp2;go_roundw
     case rel=>exact⟨j+1,by omega,by go_num,by rw[HG.out];exact hown2,hb2⟩
     case measure=>simp[intOf];omega
  ·obtain rfl:j=2*r+1:=by omega
   obtain⟨A,c,hv,hp,hnew⟩:=hown.pts;subst hv;go_wp2;go_ret;exact⟨A,c,rfl,hp,hnew,hb⟩

theorem enters {P : Program} {f : FuncId} {fn : Func} {c : Code} (hf : P.funcs[f]? = some fn) (hname : (fn.name == "runtime.NumGoroutine") = false) (hb : fn.body = some c) (args : Array Value) (w : World) :
  (callFunc f args).run P w=.ok (.enter f args) w:=by
 have h1 : fn.name ≠ "runtime.NumGoroutine" := by simpa using hname
 simp[callFunc,hf,h1,hb]
def inAll (_ _:Int):Bool:=true
def inDia (r:Nat)(x y:Int):Bool:=decide (x.natAbs+y.natAbs≤r)
def inHex (x y:Int):Bool:=decide (0≤x*y)
def mooreL (r:Nat):List (Int × Int):=gridOf r inAll (2*r+1)
def neumL (r:Nat):List (Int × Int):=gridOf r (inDia r) (2*r+1)
def hexL:List (Int × Int):=gridOf 1 inHex 3
set_option maxHeartbeats 400000 in
theorem moore1_any (x y:Int)(w:World):Calls Tryz.prog 121 #[.int .i64 x,.int .i64 y] w fun e w'=>e=.returned (.bool (inAll x y))∧w=w':=by
 go_enter Tryz.func121,Tryz.ntmps121;go_wp2;go_ret;exact⟨rfl,rfl⟩
set_option maxHeartbeats 400000 in
theorem hex1_any (x y:Int)(w:World)(hx:-2≤x)(hx':x≤2)(hy:-2≤y)(hy':y≤2):Calls Tryz.prog 123 #[.int .i64 x,.int .i64 y] w fun e w'=>e=.returned (.bool (inHex x y))∧w=w':=by
 have h1:-4≤x*y∧x*y≤4:=by
  obtain rfl | rfl | rfl | rfl | rfl:x = -2∨x = -1∨x=0∨x=1∨x=2:=by omega
  all_goals omega
 obtain⟨h1,h2⟩:=h1;go_enter Tryz.func123,Tryz.ntmps123;go_wp2;go_ret;exact⟨rfl,rfl⟩
set_option maxHeartbeats 400000 in
theorem neum1_any (r:Nat)(hr:r≤2)(a:Addr)(x y:Int)(w:World)(hc:w.cell? a=some (.int .i64 r))(hx:-2≤x)(hx':x≤2)(hy:-2≤y)(hy':y≤2) :
  Calls Tryz.prog 122 #[.int .i64 x,.int .i64 y,.pointer (some a)] w fun e w'=>e=.returned (.bool (inDia r x y))∧w=w':=by
 go_enter Tryz.func122,Tryz.ntmps122;go_wp2;all_goals go_ret
 all_goals exact⟨ret_bool (decide_eq_decide.2 (by omega)),rfl⟩
set_option maxHeartbeats 400000 in
theorem moore_any (r:Nat)(hr:r≤2)(w:World) :
  Calls Tryz.prog 96 #[.int .i64 r] w (RetPts (mooreL r) w):=by
 have hE:=enters Tryz.func121 (by kernel_rfl) rfl;have hC:=hid (collect_any r hr 121 #[] inAll w hE (fun x y w' _ _ _ _ _=>moore1_any x y w'));clear hE;go_enter Tryz.func96,Tryz.ntmps96;go_wp2_with fail;refine hC.out.mono ?_;rintro e w' ⟨A,c,rfl,hp,hnew,hb⟩;go_wp2;go_ret;exact⟨A,c,rfl,hp,hnew,hb⟩
set_option maxHeartbeats 400000 in
theorem hex_any (w:World) :
  Calls Tryz.prog 98 #[] w (RetPts hexL w):=by
 have hE:=enters Tryz.func123 (by kernel_rfl) rfl;have hC:=hid (collect_any 1 (by omega) 123 #[] inHex w hE (fun x y w' h1 h2 h3 h4 _=>hex1_any x y w' h1 h2 h3 h4));clear hE;go_enter Tryz.func98,Tryz.ntmps98;go_wp2_with fail;refine hC.out.mono ?_;rintro e w' ⟨A,c,rfl,hp,hnew,hb⟩;go_wp2;go_ret;exact⟨A,c,rfl,hp,hnew,hb⟩
set_option maxHeartbeats 400000 in
theorem neum_any (r:Nat)(hr:r≤2)(w:World) :
  Calls Tryz.prog 97 #[.int .i64 r] w (RetPts (neumL r) w):=by
 have hE:=enters Tryz.func122 (by kernel_rfl) rfl;have hc0:(w.alloc (.cells #[.int .i64 r] 3)).cell? ⟨w.heap.size,0,none⟩=some (.int .i64 r):=cell_of_row _ _ _ _ _ _ (heap_alloc_new w _);have hC:=hid (collect_any r hr 122 #[.pointer (some ⟨w.heap.size,0,none⟩)] (inDia r) (w.alloc (.cells #[.int .i64 r] 3)) hE
  (fun x y w' h1 h2 h3 h4 h5=>neum1_any r hr _ x y w' ((h5.cell (by simp)).trans hc0) h1 h2 h3 h4))
 clear hE hc0;go_enter Tryz.func97,Tryz.ntmps97;go_wp2_with fail;refine hC.out.mono ?_;rintro e w' ⟨A,c,rfl,hp,hnew,hb⟩;have hb':=(((Below.refl w.heap.size w).alloc (Nat.le_refl _) (.cells #[.int .i64 r] 3)).trans (hb.mono (by simp)))
 clear hb;go_wp2;go_ret;exact⟨A,c,rfl,hp,hnew.mono (by simp),hb'⟩

set_option maxHeartbeats 400000 in
theorem abs_any (x:Int)(w:World)(h1:-1000000≤x)(h2:x≤1000000):Calls Tryz.prog 67 #[.int .i64 x] w fun e w'=>e=.returned (.int .i64 x.natAbs)∧w'=w:=by
 go_enter Tryz.func67,Tryz.ntmps67;go_wp2;all_goals go_ret
 all_goals exact⟨ret_int (by omega),rfl⟩

set_option maxHeartbeats 400000 in
theorem rmoore_any (r:Nat)(hr:r≤2)(w:World) :
  Calls Tryz.prog 66 #[.int .i64 r] w (RetPts (mooreL r) w):=by
 go_enter Tryz.func66,Tryz.ntmps66;go_wp2;go_loopw [3,4] (fun v y wr=>∃ j:Nat,j≤2*r+1∧y=.int .i64 ((j:Int) - r)∧OwnP 43 wr w.heap.size v (gridOf r inAll j)∧Below w.heap.size w wr) (fun _ y _=>(r+1 - intOf y).toNat)
 case atStart=>exact⟨0,by omega,by go_num,OwnP.nil _ _ _,Below.refl _ _⟩
 case round=>
  obtain⟨j,hj,rfl,hown,hb⟩:=hrel;by_cases hlt:j < 2*r+1
  ·have hdec:decide (((j:Int) - r)≤(r:Int))=true:=decide_eq_true (by omega);go_wp2;obtain⟨wo,rfl⟩:∃ wo:World,wo=wr:=⟨_,rfl⟩
   go_loopw [3,5] (fun v x wr=>∃ i:Nat,i≤2*r+1∧x=.int .i64 ((i:Int) - r)∧OwnP 43 wr w.heap.size v (gridOf r inAll j ++ rowOf r inAll ((j:Int) - r) i)∧Below w.heap.size w wr) (fun _ x _=>(r+1 - intOf x).toNat)
   case atStart=>exact⟨0,by omega,by go_num,by simpa [rowOf] using hown,hb⟩
   case round=>
    obtain⟨i,hi,rfl,hown2,hb2⟩:=hrel;clear hown;by_cases hlt2:i < 2*r+1
    ·have hlen:=gridOf_len r inAll j (by omega);have hlen2:=rowOf_len r inAll ((j:Int) - r) i;have hlen3:j*(2*r+1)≤5*5:=Nat.mul_le_mul (by omega) (by omega);have hlen4:(gridOf r inAll j ++ rowOf r inAll ((j:Int) - r) i).length < 1000000000000:=by
      rw[List.length_append];omega
     clear hlen hlen2 hlen3;have HP:=rowOf_yes (p:=inAll) (y:=(j:Int) - r) hlt2 rfl;have HP2:=hid HP;clear HP;go_wp2_with (at_builtin;refine wpList_pushP rfl _ _ _ rfl w.heap.size 43 Tryz.underlying22 Tryz.infoPt _ _ rfl hown2 _ _ rfl hlen4 hb2.size ?_);intro v' w1 hown3 hb3;have hb4:=hb2.trans hb3;go_wp2;go_roundw
     case rel=>exact⟨i+1,by omega,by go_num,by rw[HP2.out];exact hown3,hb4⟩
     case measure=>simp[intOf];omega
    ·obtain rfl:i=2*r+1:=by omega
     have HG:=hid (gridOf_succ (p:=inAll) hlt);go_wp2;go_roundw
     case rel=>exact⟨j+1,by omega,by go_num,by rw[HG.out];exact hown2,hb2⟩
     case measure=>simp[intOf];omega
  ·obtain rfl:j=2*r+1:=by omega
   obtain⟨A,c,hv,hp,hnew⟩:=hown.pts;subst hv;go_wp2;go_ret;exact⟨A,c,rfl,hp,hnew,hb⟩
theorem neum_eq:∀ r:Nat,r≤2→(mooreL r).filter (fun p=>inDia r p.1 p.2)=neumL r:=by decide
theorem moore_len:∀ r:Nat,r≤2→(mooreL r).length≤25:=by decide
theorem moore_rng:∀ r:Nat,r≤2→∀ p ∈ mooreL r,-2≤p.1∧p.1≤2∧-2≤p.2∧p.2≤2:=by decide
set_option maxHeartbeats 400000 in
theorem rneum_any (r:Nat)(hr:r≤2)(w:World) :
  Calls Tryz.prog 26 #[.int .i64 r] w (RetPts (neumL r) w):=by
 rw[← neum_eq r hr];have hM:=hid (rmoore_any r hr w);have hlen:=moore_len r hr;have hrng:=hid (moore_rng r hr);go_enter Tryz.func26,Tryz.ntmps26;go_wp2_with fail;refine hM.out.mono ?_;rintro e w1 ⟨A,c,rfl,hp,hnew,hb⟩;clear hM;go_wp2;go_loopw [4,5] (fun v i wr=>∃ k:Nat,k≤(mooreL r).length∧i=.int .i64 k∧OwnP 43 wr w1.heap.size v (((mooreL r).take k).filter (fun p=>inDia r p.1 p.2))∧Below w1.heap.size w1 wr) (fun _ i _=>(mooreL r).length - (intOf i).toNat)
 case atStart=>exact⟨0,by omega,rfl,OwnP.nil _ _ _,Below.refl _ _⟩
 case round=>
  obtain⟨k,hk,rfl,hown,hbr⟩:=hrel;have hpr:=hp.ext hbr;by_cases hlt:k < (mooreL r).length
  ·obtain⟨b1,o1,rfl,hbb,hc,hc'⟩:=hpr.at_ hlt;have hg:=hrng.out _ (List.getElem_mem hlt);obtain⟨g1,g2,g3,g4⟩:=hg;have hta:=hid (List.take_succ_eq_append_getElem hlt);go_wp2;go_quiet ((go_at_call 67;exact Calls.quiet_of_same (abs_any _ _ (by omega) (by omega))))
   have hl2:(((mooreL r).take k).filter (fun p=>inDia r p.1 p.2)).length < 1000000000000:=by
    have:=List.length_filter_le (fun p:Int × Int=>inDia r p.1 p.2) ((mooreL r).take k);have:=List.length_take_le k (mooreL r);omega
   by_cases hin:(((mooreL r)[k].1.natAbs:Int)+((mooreL r)[k].2.natAbs:Int))≤(r:Int)
   ·have hf:((mooreL r).take (k+1)).filter (fun p=>inDia r p.1 p.2)=((mooreL r).take k).filter (fun p=>inDia r p.1 p.2) ++ [((mooreL r)[k].1,(mooreL r)[k].2)]:=by
     rw[hta.out,List.filter_append];have:inDia r (mooreL r)[k].1 (mooreL r)[k].2=true:=decide_eq_true (by omega);simp[this]
    have HF:=hid hf;clear hf;go_wp2_with (at_builtin;refine wpList_pushP rfl _ _ _ rfl w1.heap.size 43 Tryz.underlying22 Tryz.infoPt _ _ rfl (hown.drewN _) _ _ rfl hl2 hbr.size ?_);intro v' w2 hown2 hb2;have hb3:=(below_drewN hbr nq).trans hb2;go_wp2;go_roundw
    case rel=>exact⟨k+1,by omega,by go_num,by rw[HF.out];exact hown2,hb3⟩
    case measure=>simp[intOf];omega
   ·have hf:((mooreL r).take (k+1)).filter (fun p=>inDia r p.1 p.2)=((mooreL r).take k).filter (fun p=>inDia r p.1 p.2):=by
     rw[hta.out,List.filter_append];have:inDia r (mooreL r)[k].1 (mooreL r)[k].2=false:=decide_eq_false (by omega);simp[this]
    have HF:=hid hf;clear hf;go_wp2;go_roundw
    case rel=>exact⟨k+1,by omega,by go_num,by rw[HF.out];exact hown.drewN _,below_drewN hbr nq⟩
    case measure=>simp[intOf];omega
  ·obtain rfl:k=(mooreL r).length:=by omega
   rw[List.take_length] at hown;obtain⟨A2,c2,hv,hp2,hnew2⟩:=hown.pts;subst hv;have hb2:=hb.trans (hbr.mono hb.size);go_wp2;go_ret;exact⟨A2,c2,rfl,hp2,hnew2.mono hb.size,hb2⟩
end Go.Proofs.YtcmbdhopmncmnaaGreatDoor
namespace Go.Proofs.YtcmbdhopmncmnaaGreatDoor
set_option linter.unusedSimpArgs false
open Go.RowKit Go.Maps
set_option maxRecDepth 100000
set_option linter.unusedVariables false

theorem Tryz.infoRow:(Tryz.prog.info? 48).map (fun i=>(i.zero,i.size,i.bytes))=some (some (.agg #[.slice none 0 0,.int .i64 0]),2,32):=by kernel_rfl
theorem Tryz.infoInts15:(Tryz.prog.info? 30).map (fun i=>(i.zero,i.size,i.bytes))=some (some (.slice none 0 0),1,24):=by kernel_rfl
theorem wpList_pushV {P:Program}{wr:World}{ops:Array Oper}{rest:List Oper}{o:Oper}{a:Act}{Q:Exit→Act→World→Prop}(hgd:o.guard=none)(s x:Operand)(t:TypeId)
  (ho:o.op=.call { callee:=.builtin .append,args:=#[s,x],argTypes:=#[t,t] })
  (base:Nat) (T I:TypeId) (hTI:I≠T) (ht:P.underlying t=some (.slice T)) (hi:(P.info? T).map (fun i=>(i.zero,i.size,i.bytes))=some (some (.slice none 0 0),1,24))
  (v:Value) (hs:List Vh) (hse:a.eval s=v) (hown:OwnV T I wr base v hs)
  (A:Option Addr) (c:Nat) (zs:List Int) (hI:OwnI I wr base (.slice A zs.length c) zs) (hx:a.eval x=.slice (some ⟨wr.heap.size,0,none⟩) 1 1)
  (hn:hs.length < 1000000000000) (hbase:base≤wr.heap.size)
  (h:∀ v' w',OwnV T I w' base v' (hs ++ [⟨A,c,zs⟩])→Kept (fun g=>v.ownBlock=some g) wr w'→(v'.ownBlock=v.ownBlock∨∃ g,v'.ownBlock=some g∧wr.heap.size≤g)→wpList P ops Q rest (a.put o.dst v') w') :
  wpList P ops Q (o :: rest) a (wr.alloc (.cells #[.slice A zs.length c] T)):=by
 obtain⟨i0,hi0,hz0,hz1,hz2⟩:=info_parts hi;refine wpList_append_own_at _ hgd s x t ho base T i0 _ 1 24 ht hi0 hz0 hz1 hz2 rfl (by decide) v hs.length _ hse (hown.1.alloc _) ⟨wr.heap.size,0,none⟩ 1 1 [.slice A zs.length c] hx (by simp) ?_ (by simp[Value.oneCell']) (by unfold maxLen;omega) (by omega) (by simp;omega) ?_
 ·intro j u hu;rw[addr_add];have:(wr.alloc (.cells #[.slice A zs.length c] T)).cell? ⟨wr.heap.size,0+j,none⟩=#[Value.slice A zs.length c][0+j]?:=cell_of_row _ _ _ _ _ _ (heap_alloc_new wr _);rw[this];simpa using hu
 ·intro v' w' hown' hg _ hat;have hk:Kept (fun g=>v.ownBlock=some g) wr w':=((Kept.refl _ wr).alloc _).grown hg fun g hg=>Or.inl hg;refine h v' w' ⟨?_,fun y hy=>?_⟩ hk ?_
  ·rw[List.length_append,List.flatMap_append];exact hown'
  ·have hy1:OwnI I wr base y.val y.zs:=by
    rcases List.mem_append.1 hy with hy | hy
    ·exact hown.2 y hy
    ·rw[List.mem_singleton] at hy;subst hy;exact hI
   exact hk.own hy1 fun g hg hv=>own_ne hy1 hown.1 hTI hg hv
  ·rcases hat with hat | hat
   ·exact .inl hat
   ·exact .inr ⟨_,hat,by simp⟩
end Go.Proofs.YtcmbdhopmncmnaaGreatDoor
namespace Go.Proofs.YtcmbdhopmncmnaaGreatDoor
open Lib(hid)
open Go.RowKit
set_option maxRecDepth 100000
set_option linter.unusedVariables false
set_option linter.unusedSimpArgs false
theorem any_take15 {α:Type}{p:α→Bool}{l:List α}{i:Nat}(hi:i < l.length)(h:(l.take i).any p=false)(h2:p l[i]=false):(l.take (i+1)).any p=false:=by
 rw[List.take_succ_eq_append_getElem hi,List.any_append,h];simp[h2]
def few11 (t:TabL):Bool:=!(decide (30 < t.hood.length) || decide (50 < t.vars.length) || decide (30 < t.rows.length)) && !(t.vars.any fun l=>decide (30 < l.length)) && !(t.rows.any fun r=>decide (30 < r.1.length))
set_option maxHeartbeats 8000000 in
theorem few11_any (hA:Option Addr)(hc:Nat)(vA:Option Addr)(vc:Nat)(rA:Option Addr)(rc:Nat)(t:TabH)(w:World)(hT:TabR w hA vA rA t) :
  Calls Tryz.prog 8 #[tabV hA hc vA vc rA rc t] w fun e w'=>e=.returned (.bool (few11 t.tab))∧Below w.heap.size w w':=by
 obtain⟨w0,hw0⟩:∃ w0,w0=w.alloc (.cells #[.int .i64 t.st,.int .i64 t.sym,.slice hA t.hood.length hc,.slice vA t.vs.length vc,.slice rA t.rs.length rc] 26):=⟨_,rfl⟩
 have hb0:Below w.heap.size w w0:=by rw[hw0];exact below_new _ _
 have p0:Blk w0 w.heap.size 26 #[.int .i64 t.st,.int .i64 t.sym,.slice hA t.hood.length hc,.slice vA t.vs.length vc,.slice rA t.rs.length rc]:=by rw[hw0];exact Blk.new _ _ _
 have HTR:=hid (hT.ext hb0);have HB0:=hid hb0;have HP:=hid p0;have HW0:=hid hw0;have hh9:t.hood.length≤9223372036854775807:=hT.hood.le;have hv9:t.vs.length≤9223372036854775807:=hT.vars.le;have hr9:t.rs.length≤9223372036854775807:=hT.rows.le;obtain⟨res,hres⟩:∃ res,res=few11 t.tab:=⟨_,rfl⟩
 rw[← hres];unfold few11 TabH.tab at hres;dsimp only at hres;rw[List.length_map,List.length_map,List.any_map,List.any_map] at hres;have HRES:=hid hres;have x2:=p0.cell_ 2 (.slice hA t.hood.length hc) rfl;have x3:=p0.cell_ 3 (.slice vA t.vs.length vc) rfl;have x4:=p0.cell_ 4 (.slice rA t.rs.length rc) rfl;unfold tabV;clear hb0 p0 hw0 hT hres;cases k1:decide (30 < t.hood.length) with
 | true=>
  have q1:decide ((30:Int) < (t.hood.length:Int))=true:=by have:=of_decide_eq_true k1;exact decide_eq_true (by omega)
  have HE:Hid (res=false):=hid (by rw[HRES.out,k1];simp);clear k1;go_enter Tryz.func8,Tryz.ntmps8;go_upto_region 1 with fail
  rw[← HW0.out];go_wp2;go_ret;exact⟨by first | (rw[HE.out];done) | (rw[HE.out];rfl),HB0.out⟩
 | false=>
  have q1:decide ((30:Int) < (t.hood.length:Int))=false:=by have:=of_decide_eq_false k1;exact decide_eq_false (by omega)
  cases k2:decide (50 < t.vs.length) with
  | true=>
   have q2:decide ((50:Int) < (t.vs.length:Int))=true:=by have:=of_decide_eq_true k2;exact decide_eq_true (by omega)
   have HE:Hid (res=false):=hid (by rw[HRES.out,k2];simp);clear k1 k2;go_enter Tryz.func8,Tryz.ntmps8;go_upto_region 1 with fail
   rw[← HW0.out];go_wp2;go_ret;exact⟨by first | (rw[HE.out];done) | (rw[HE.out];rfl),HB0.out⟩
  | false=>
   have q2:decide ((50:Int) < (t.vs.length:Int))=false:=by have:=of_decide_eq_false k2;exact decide_eq_false (by omega)
   cases k3:decide (30 < t.rs.length) with
   | true=>
    have q3:decide ((30:Int) < (t.rs.length:Int))=true:=by have:=of_decide_eq_true k3;exact decide_eq_true (by omega)
    have HE:Hid (res=false):=hid (by rw[HRES.out,k3];simp);clear k1 k2 k3;go_enter Tryz.func8,Tryz.ntmps8;go_upto_region 1 with fail
    rw[← HW0.out];go_wp2;go_ret;exact⟨by first | (rw[HE.out];done) | (rw[HE.out];rfl),HB0.out⟩
   | false=>
    have q3:decide ((30:Int) < (t.rs.length:Int))=false:=by have:=of_decide_eq_false k3;exact decide_eq_false (by omega)
    have HRES2:Hid (res=(!(t.vs.any ((fun l=>decide (30 < l.length)) ∘ Vh.zs)) && !(t.rs.any ((fun r=>decide (30 < r.1.length)) ∘ Rh.rw_)))):=hid (by rw[HRES.out,k1,k2,k3];simp);clear k1 k2 k3;go_enter Tryz.func8,Tryz.ntmps8;go_upto_region 1 with fail
    rw[← HW0.out];go_wp2;clear q1 q2 q3;go_loopw [24] (fun iv wr=>∃ i:Nat,i≤t.vs.length∧iv=.int .i64 i∧w0=wr∧Hid ((t.vs.take i).any ((fun l=>decide (30 < l.length)) ∘ Vh.zs)=false)) (fun iv _=>t.vs.length - (intOf iv).toNat)
    case atStart=>exact⟨0,Nat.zero_le _,rfl,rfl,hid rfl⟩
    case round=>
     obtain⟨i,hi,rfl,rfl,HN⟩:=hrel;by_cases hil:i < t.vs.length
     ·obtain⟨b,o,rfl,-,k0,kz⟩:=HTR.out.vars.at_ hil;obtain⟨vh,hvh⟩:∃ v,v=t.vs[i]:=⟨_,rfl⟩
      rw[← hvh] at k0;have hany:decide (30 < vh.zs.length)=true→t.vs.any ((fun l=>decide (30 < l.length)) ∘ Vh.zs)=true:=fun h=>List.any_eq_true.2 ⟨t.vs[i],List.getElem_mem hil,by rw[← hvh];exact h⟩;have hnon:decide (30 < vh.zs.length)=false→(t.vs.take (i+1)).any ((fun l=>decide (30 < l.length)) ∘ Vh.zs)=false:=fun h=>any_take15 hil HN.out (by rw[← hvh];exact h);have HANY:=hid hany;have HNON:=hid hnon;clear hvh kz hany hnon;have hwi:wrap64 ((i:Int)+1)=(i:Int)+1:=by unfold wrap64;omega
      have HI:=hid hil;have HWI:=hid hwi;cases hb:decide (30 < vh.zs.length) with
      | true=>
       have q4:decide ((30:Int) < (vh.zs.length:Int))=true:=by have:=of_decide_eq_true hb;exact decide_eq_true (by omega)
       have HE:Hid (res=false):=hid (by
        have:=HANY.out hb;rw[HRES2.out,this];rfl)
       clear hi hb;go_wp2;go_ret;exact⟨by first | (rw[HE.out];done) | (rw[HE.out];rfl),HB0.out⟩
      | false=>
       have q4:decide ((30:Int) < (vh.zs.length:Int))=false:=by have:=of_decide_eq_false hb;exact decide_eq_false (by omega)
       have HN2:Hid ((t.vs.take (i+1)).any ((fun l=>decide (30 < l.length)) ∘ Vh.zs)=false):=hid (HNON.out hb);clear hi hb;go_wp2;go_roundw
       case rel=>exact⟨i+1,HI.out,(by first | rfl | (rw[HWI.out];rfl)),(by first | trivial | rfl),HN2⟩
       case measure=>(try rw[HWI.out]);exact meas_step HI.out
     ·obtain rfl:i=t.vs.length:=Nat.le_antisymm hi (Nat.le_of_not_lt hil);have HRES3:Hid (res = !(t.rs.any ((fun r=>decide (30 < r.1.length)) ∘ Rh.rw_))):=hid (by
       have h:=HN.out;rw[List.take_length] at h;rw[HRES2.out,h];rfl)
      clear hi hil HN;go_wp2;go_loopw [38] (fun iv wr=>∃ i:Nat,i≤t.rs.length∧iv=.int .i64 i∧w0=wr∧Hid ((t.rs.take i).any ((fun r=>decide (30 < r.1.length)) ∘ Rh.rw_)=false)) (fun iv _=>t.rs.length - (intOf iv).toNat)
      case atStart=>exact⟨0,Nat.zero_le _,rfl,rfl,hid rfl⟩
      case round=>
       obtain⟨i,hi,rfl,rfl,HN⟩:=hrel;by_cases hil:i < t.rs.length
       ·obtain⟨b,o,rfl,-,k0,-,kz⟩:=HTR.out.rows.at_ hil;obtain⟨vh,hvh⟩:∃ v,v=t.rs[i]:=⟨_,rfl⟩
        rw[← hvh] at k0;have hany:decide (30 < vh.zs.length)=true→t.rs.any ((fun r=>decide (30 < r.1.length)) ∘ Rh.rw_)=true:=fun h=>List.any_eq_true.2 ⟨t.rs[i],List.getElem_mem hil,by rw[← hvh];exact h⟩;have hnon:decide (30 < vh.zs.length)=false→(t.rs.take (i+1)).any ((fun r=>decide (30 < r.1.length)) ∘ Rh.rw_)=false:=fun h=>any_take15 hil HN.out (by rw[← hvh];exact h);have HANY:=hid hany;have HNON:=hid hnon;clear hvh kz hany hnon;have hwi:wrap64 ((i:Int)+1)=(i:Int)+1:=by unfold wrap64;omega
        have HI:=hid hil;have HWI:=hid hwi;cases hb:decide (30 < vh.zs.length) with
        | true=>
         have q4:decide ((30:Int) < (vh.zs.length:Int))=true:=by have:=of_decide_eq_true hb;exact decide_eq_true (by omega)
         have HE:Hid (res=false):=hid (by
          have:=HANY.out hb;rw[HRES3.out,this];rfl)
         clear hi hb;go_wp2;go_ret;exact⟨by first | (rw[HE.out];done) | (rw[HE.out];rfl),HB0.out⟩
        | false=>
         have q4:decide ((30:Int) < (vh.zs.length:Int))=false:=by have:=of_decide_eq_false hb;exact decide_eq_false (by omega)
         have HN2:Hid ((t.rs.take (i+1)).any ((fun r=>decide (30 < r.1.length)) ∘ Rh.rw_)=false):=hid (HNON.out hb);clear hi hb;go_wp2;go_roundw
         case rel=>exact⟨i+1,HI.out,(by first | rfl | (rw[HWI.out];rfl)),(by first | trivial | rfl),HN2⟩
         case measure=>(try rw[HWI.out]);exact meas_step HI.out
       ·obtain rfl:i=t.rs.length:=Nat.le_antisymm hi (Nat.le_of_not_lt hil);have HE:Hid (res=true):=hid (by
         have h:=HN.out;rw[List.take_length] at h;rw[HRES3.out,h];rfl)
        clear hi hil HN;go_wp2;go_ret;exact⟨by first | (rw[HE.out];done) | (rw[HE.out];rfl),HB0.out⟩
end Go.Proofs.YtcmbdhopmncmnaaGreatDoor
namespace Go.Proofs.YtcmbdhopmncmnaaGreatDoor
open Go.RowKit
set_option maxRecDepth 100000
set_option linter.unusedVariables false
set_option linter.unusedSimpArgs false
def lineL:List (Int × Int):=[(-1,0),(0,0),(1,0)]
end Go.Proofs.YtcmbdhopmncmnaaGreatDoor
namespace Go.Proofs.YtcmbdhopmncmnaaGreatDoor
open Go.Lib
set_option linter.unusedVariables false
set_option linter.unusedSimpArgs false
def sepB (c:UInt8):Bool:=c == 32 || c == 9
def sepR (r:Nat):Bool:=r == 32 || r == 9
def fieldsB (cur:List UInt8):List UInt8→List (List UInt8)
 | []=>if cur=[] then [] else [cur]
 | c :: r=>if sepB c=true then (if cur=[] then fieldsB [] r else cur :: fieldsB [] r) else fieldsB (cur ++ [c]) r
theorem fieldsB_app:∀ (xs cur r:List UInt8),(∀ x ∈ xs,sepB x=false)→fieldsB cur (xs ++ r)=fieldsB (cur ++ xs) r
 | [],cur,r,_=>by rw[List.nil_append,List.append_nil]
 | x :: xs,cur,r,h=>by
  rw[List.cons_append];show (if sepB x=true then _ else fieldsB (cur ++ [x]) (xs ++ r))=_;rw[if_neg (by rw[h x (by simp)];simp),fieldsB_app xs _ r (fun y hy=>h y (by simp[hy])),List.append_assoc];rfl
theorem decN_high {n b0 b1 b2 b3:Nat}(h:128≤b0):128≤(decodeN n b0 b1 b2 b3).1∧(2≤(decodeN n b0 b1 b2 b3).2→128≤b1)∧(3≤(decodeN n b0 b1 b2 b3).2→128≤b2)∧(4≤(decodeN n b0 b1 b2 b3).2→128≤b3)∧(decodeN n b0 b1 b2 b3).2≤4:=by
 unfold decodeN;rw[if_neg (by omega)]
 repeat' split
 all_goals (simp only;omega)
theorem get_list (s:ByteArray){i:Nat}(h:i < s.size):s.data.toList[i]?=some (s.get! i):=by
 have h2:i < s.data.size:=h;have:s.get! i=s.data[i]!:=rfl;rw[this,getElem!_pos s.data i h2,Array.getElem?_toList,Array.getElem?_eq_getElem h2]
theorem sepB_big {b:UInt8}(h:128≤b.toNat):sepB b=false:=by
 unfold sepB;rw[Bool.or_eq_false_iff];constructor
 ·rw[beq_eq_false_iff_ne];rintro rfl;exact absurd h (by decide)
 ·rw[beq_eq_false_iff_ne];rintro rfl;exact absurd h (by decide)
theorem sep_small (b:UInt8):sepR b.toNat=sepB b:=by
 unfold sepR sepB
 congr 1
 ·rw[Bool.eq_iff_iff,beq_iff_eq,beq_iff_eq];exact⟨fun h=>UInt8.toNat_inj.1 h,fun h=>by rw[h];rfl⟩
 ·rw[Bool.eq_iff_iff,beq_iff_eq,beq_iff_eq];exact⟨fun h=>UInt8.toNat_inj.1 h,fun h=>by rw[h];rfl⟩
theorem rune_step (s:ByteArray){pos:Nat}(h:pos < s.size):pos+(Utf8.decode s pos).2≤s.size∧
  ((sepR (Utf8.decode s pos).1=true∧(Utf8.decode s pos).2=1∧∃ c,s.data.toList[pos]?=some c∧sepB c=true)∨
   (sepR (Utf8.decode s pos).1=false∧∀ x ∈ (s.data.toList.drop pos).take (Utf8.decode s pos).2,sepB x=false)):=by
 have hwn:pos+(Utf8.decode s pos).2≤s.size:=by
  have:=decodeN_le_n' (s.size - pos) (s.get! pos).toNat (s.get! (pos+1)).toNat (s.get! (pos+2)).toNat (s.get! (pos+3)).toNat (by omega);rw[← decode_at] at this;omega
 refine⟨hwn,?_⟩;have hg:=get_list s h;by_cases hb:(s.get! pos).toNat < 128
 ·have he:Utf8.decode s pos=((s.get! pos).toNat,1):=by
   rw[decode_at];unfold decodeN;rw[if_pos hb]
  rw[he];dsimp only;rw[sep_small];cases hs:sepB (s.get! pos) with
  | true=>exact .inl ⟨rfl,rfl,_,hg,hs⟩
  | false=>
   refine .inr ⟨rfl,fun x hx=>?_⟩;obtain⟨j,hj,e⟩:=List.mem_iff_getElem.1 hx;rw[List.length_take] at hj;obtain rfl:j=0:=by omega
   have e2:=List.getElem?_eq_getElem (l:=(s.data.toList.drop pos).take 1) (i:=0) (by rw[List.length_take];exact hj);rw[e,List.getElem?_take,if_pos (by decide),List.getElem?_drop,Nat.add_zero,hg] at e2;injection e2 with e2
   rw[← e2];exact hs
 ·have hd:=decN_high (n:=s.size - pos) (b0:=(s.get! pos).toNat) (b1:=(s.get! (pos+1)).toNat) (b2:=(s.get! (pos+2)).toNat) (b3:=(s.get! (pos+3)).toNat) (by omega);rw[← decode_at] at hd;obtain⟨h1,h2,h3,h4,h5⟩:=hd;refine .inr ⟨?_,fun x hx=>?_⟩
  ·unfold sepR;rw[Bool.or_eq_false_iff];exact⟨beq_false_of_ne (by omega),beq_false_of_ne (by omega)⟩
  ·obtain⟨j,hj,e⟩:=List.mem_iff_getElem.1 hx;have hj2:=hj;rw[List.length_take] at hj2;have e2:=List.getElem?_eq_getElem (l:=(s.data.toList.drop pos).take (Utf8.decode s pos).2) (i:=j) hj;rw[e,List.getElem?_take,if_pos (by omega),List.getElem?_drop,get_list s (by omega)] at e2;injection e2 with e2
   rw[← e2];apply sepB_big;obtain rfl | rfl | rfl | rfl:j=0∨j=1∨j=2∨j=3:=by omega
   ·rw[Nat.add_zero];omega
   ·exact h2 (by omega)
   ·exact h3 (by omega)
   ·exact h4 (by omega)
theorem fields_spans (s:ByteArray):∀ (f pos:Nat)(st:Option Nat)(acc:List (Nat × Nat)),s.size≤pos+f→pos≤s.size→(∀ a,st=some a→a < pos)→
  acc.map (fun p=>pieceU s.data.toList p.1 p.2) ++ fieldsB (openPiece s.data.toList st pos) (s.data.toList.drop pos)=(closeSpans s (spansFromP sepR s f pos st acc)).map (fun p=>pieceU s.data.toList p.1 p.2)
 | f,pos,st,acc,h,hp,hst=>by
  by_cases hlt:pos < s.size
  ·obtain⟨f,rfl⟩:∃ g,f=g+1:=⟨f - 1,by omega⟩
   have hw:=width_pos s pos;obtain⟨hwn,hk⟩:=rune_step s hlt;have hsp:s.data.toList.drop pos=(s.data.toList.drop pos).take (Utf8.decode s pos).2 ++ s.data.toList.drop (pos+(Utf8.decode s pos).2):=by
    rw[← List.drop_drop,List.take_append_drop]
   rcases hk with ⟨k1,k2,c,k3,k4⟩ | ⟨k1,k2⟩
   ·have hd:s.data.toList.drop pos=c :: s.data.toList.drop (pos+1):=by
     obtain⟨hl,e⟩:=List.getElem?_eq_some_iff.1 k3;rw[List.drop_eq_getElem_cons hl,e]
    simp only[spansFromP,if_pos hlt,if_pos k1,k2];rw[hd];show _ ++ (if sepB c=true then _ else _)=_;rw[if_pos k4];cases st with
    | none=>
     have ih:=fields_spans s f (pos+1) none acc (by omega) (by omega) (fun a h=>by cases h);simpa [openPiece] using ih
    | some a=>
     have hpn:=pieceU_ne s.data.toList a pos (hst a rfl) (by rw[← size_eq];omega);have ih:=fields_spans s f (pos+1) none (acc ++ [(a,pos)]) (by omega) (by omega) (fun a h=>by cases h);simpa [openPiece,hpn] using ih
   ·simp only[spansFromP,if_pos hlt,if_neg (show ¬ sepR (Utf8.decode s pos).1=true by rw[k1];simp)];rw[hsp,fieldsB_app _ _ _ k2];cases st with
    | none=>
     have ih:=fields_spans s f (pos+(Utf8.decode s pos).2) (some pos) acc (by omega) hwn (fun a h=>by cases h;omega);have e:([]:List UInt8) ++ (s.data.toList.drop pos).take (Utf8.decode s pos).2=pieceU s.data.toList pos (pos+(Utf8.decode s pos).2):=by
      unfold pieceU;rw[List.nil_append,Nat.add_sub_cancel_left]
     simp only[openPiece] at ih ⊢;rw[e];exact ih
    | some a=>
     have ih:=fields_spans s f (pos+(Utf8.decode s pos).2) (some a) acc (by omega) hwn (fun b h=>by cases h;have:=hst a rfl;omega);simp only[openPiece] at ih ⊢;rw[pieceU_grow _ _ _ _ (Nat.le_of_lt (hst a rfl))];exact ih
  ·obtain rfl:pos=s.size:=by omega
   have hd:s.data.toList.drop s.size=[]:=List.drop_eq_nil_of_le (by rw[← size_eq];exact Nat.le_refl _);rw[hd,spansFromP_end _ s _ _ _ _ hlt];cases st with
   | none=>simp[closeSpans,openPiece,fieldsB]
   | some a=>
    have:=pieceU_ne s.data.toList a s.size (hst a rfl) (by rw[← size_eq];exact Nat.le_refl _);simp[closeSpans,openPiece,fieldsB,this]
termination_by f=>f
theorem fields_bytes (s:ByteArray):(goFieldsP sepR s).map (fun x=>x.data.toList)=fieldsB [] s.data.toList:=by
 have h:=fields_spans s s.size 0 none [] (by omega) (by omega) (fun a h=>by cases h);simp only[List.map_nil,List.nil_append,openPiece,List.drop_zero] at h;rw[h];unfold goFieldsP spansOfP;rw[List.map_map];refine List.map_congr_left (fun p _=>?_);show (s.extract p.1 p.2).data.toList=_;rw[extract_data];unfold pieceU;rfl
end Go.Proofs.YtcmbdhopmncmnaaGreatDoor
namespace Go.Proofs.YtcmbdhopmncmnaaGreatDoor
set_option linter.unusedVariables false
set_option linter.unusedSimpArgs false
abbrev Wd:=List UInt8
def uncom (l:List UInt8):List UInt8:=l.takeWhile (fun c=>c != 35)
def wordsL (l:List UInt8):List Wd:=fieldsB [] (uncom l)
def dig11 (c:UInt8):Bool:=decide (48≤c.toNat) && decide (c.toNat≤57)
def val11 (l:List UInt8):Int:=l.foldl (fun n c=>10*n+((c.toNat:Int) - 48)) 0
def numW (w:Wd):Int:=if w.length=0∨9 < w.length∨(1 < w.length∧w.headD 0=48)∨w.all dig11=false then -1 else val11 w
def alpha11 (c:UInt8):Bool:=(decide (97≤c.toNat) && decide (c.toNat≤122)) || (decide (65≤c.toNat) && decide (c.toNat≤90))
def varW:Wd:=[118,97,114]
def nameW (w:Wd):Bool:=decide (1≤w.length) && decide (w.length≤20) && decide (w≠varW) && !dig11 (w.headD 0) && w.all fun c=>alpha11 c || dig11 c
def placeW (w:Wd):Nat→List Wd→Option Nat
 | _,[]=>none
 | k,x :: l=>if x=w then some k else placeW w (k+1) l
structure PSt where
 head:Nat
 t:TabL
 names:List Wd
def PSt.zero:PSt:=⟨0,⟨0,0,[],[],[]⟩,[]⟩
def elemW (s:PSt)(w:Wd):Int × Int:=
 if 0≤numW w then (if s.t.st≤numW w then (0,5) else (numW w,0)) else if nameW w=false then (0,15) else match placeW w 0 s.names with
 | none=>(0,7)
 | some v=>(-1 - (v:Int),0)
def elemsW (s:PSt):List Wd→List Int × Int
 | []=>([],0)
 | w :: r=>if (elemW s w).2≠0 then ([],(elemW s w).2) else if (elemsW s r).2≠0 then ([],(elemsW s r).2) else ((elemW s w).1 :: (elemsW s r).1,0)
def arrowW:Wd:=[45,62]
def rowW (s:PSt)(w:List Wd):PSt × Int:=
 if w.length≠s.t.hood.length+2∨w.getD s.t.hood.length []≠arrowW then (s,15) else
 if (elemsW s (w.take s.t.hood.length ++ w.drop (s.t.hood.length+1))).2≠0 then (s,(elemsW s (w.take s.t.hood.length ++ w.drop (s.t.hood.length+1))).2) else
 if (elemsW s (w.take s.t.hood.length ++ w.drop (s.t.hood.length+1))).1.getD s.t.hood.length 0 < 0∧(elemsW s (w.take s.t.hood.length ++ w.drop (s.t.hood.length+1))).1.getD s.t.hood.length 0 ∉ (elemsW s (w.take s.t.hood.length ++ w.drop (s.t.hood.length+1))).1.take s.t.hood.length then (s,2) else
 if 400≤s.t.rows.length then (s,6) else
 (⟨s.head,⟨s.t.st,s.t.sym,s.t.hood,s.t.vars,s.t.rows ++ [((elemsW s (w.take s.t.hood.length ++ w.drop (s.t.hood.length+1))).1.take s.t.hood.length,(elemsW s (w.take s.t.hood.length ++ w.drop (s.t.hood.length+1))).1.getD s.t.hood.length 0)]⟩,s.names⟩,0)
def ascW:List Int→Bool
 | x :: y :: l=>decide (x < y) && ascW (y :: l)
 | _=>true
def vblW (s:PSt)(w:List Wd):PSt × Int:=
 if 0 < s.t.rows.length then (s,9) else
 if w.length < 3∨nameW (w.getD 1 [])=false then (s,15) else
 if ((w.drop 2).map numW).any (fun n=>decide (n < 0))=true then (s,15) else
 if (placeW (w.getD 1 []) 0 s.names).isSome=true then (s,8) else
 if ((w.drop 2).map numW).any (fun n=>decide (s.t.st≤n))=true then (s,5) else
 if ascW ((w.drop 2).map numW)=false then (s,9) else
 if 40≤s.t.vars.length then (s,6) else
 (⟨s.head,⟨s.t.st,s.t.sym,s.t.hood,s.t.vars ++ [(w.drop 2).map numW],s.t.rows⟩,s.names ++ [w.getD 1 []]⟩,0)
def mooreP:List (Int × Int):=[(-1,-1),(0,-1),(1,-1),(-1,0),(0,0),(1,0),(-1,1),(0,1),(1,1)]
def neumP:List (Int × Int):=[(0,-1),(-1,0),(0,0),(1,0),(0,1)]
def hexP:List (Int × Int):=[(-1,-1),(0,-1),(-1,0),(0,0),(1,0),(0,1),(1,1)]
def hoodsW:List Wd:=[[109,111,111,114,101],[110,101,117,109,97,110,110],[104,101,120],[108,105,110,101]]
def line11:List (Int × Int):=[(-1,0),(0,0),(1,0)]
def hoodsP:List (List (Int × Int)):=[mooreP,neumP,hexP,line11]
def symsW:List Wd:=[[110,111,110,101],[114,111,116,97,116,101],[114,101,102,108,101,99,116],[112,101,114,109,117,116,101]]
def headsW:List Wd:=[[115,116,97,116,101,115],[104,111,111,100],[115,121,109,109,101,116,114,121]]
def headW (s:PSt)(w:List Wd):PSt × Int:=
 if w.length≠2∨w.getD 0 []≠headsW.getD s.head [] then (s,15) else
 if s.head=0 then (if numW (w.getD 1 []) < 0 then (s,15) else if numW (w.getD 1 []) < 2∨8 < numW (w.getD 1 []) then (s,5) else (⟨1,⟨numW (w.getD 1 []),s.t.sym,s.t.hood,s.t.vars,s.t.rows⟩,s.names⟩,0)) else
 if s.head=1 then (match placeW (w.getD 1 []) 0 hoodsW with
  | none=>(s,7)
  | some k=>(⟨2,⟨s.t.st,s.t.sym,hoodsP.getD k [],s.t.vars,s.t.rows⟩,s.names⟩,0)) else
 match placeW (w.getD 1 []) 0 symsW with
 | none=>(s,7)
 | some k=>if permP s.t.hood (k:Int)=false then (s,2) else (⟨3,⟨s.t.st,(k:Int),s.t.hood,s.t.vars,s.t.rows⟩,s.names⟩,0)
def stepW (s:PSt)(w:List Wd):PSt × Int:=
 if s.head < 3 then headW s w else if w.getD 0 []=varW then ((⟨s.head+1,(vblW s w).1.t,(vblW s w).1.names⟩:PSt),(vblW s w).2) else ((⟨s.head+1,(rowW s w).1.t,(rowW s w).1.names⟩:PSt),(rowW s w).2)
def zero11:TabL:=⟨0,0,[],[],[]⟩
def readW (s:PSt):Nat→List (List UInt8)→TabL × Int × Int
 | _,[]=>if s.head < 3 then (zero11,0,4) else (s.t,0,0)
 | i,l :: r=>if wordsL l=[] then readW s (i+1) r else if (stepW s (wordsL l)).2≠0 then (zero11,(i:Int)+1,(stepW s (wordsL l)).2) else readW (stepW s (wordsL l)).1 (i+1) r
def lines11:List UInt8→List (List UInt8)
 | []=>[[]]
 | c :: r=>if c=10 then [] :: lines11 r else match lines11 r with
  | x :: l=>(c :: x) :: l
  | []=>[[c]]
def parse11 (l:List UInt8):TabL × Int × Int:=if 65536 < l.length then (zero11,0,6) else readW PSt.zero 0 (lines11 l)
def placeH (h:List (Int × Int)):Nat→List (List (Int × Int))→Option Nat
 | _,[]=>none
 | k,x :: l=>if x=h then some k else placeH h (k+1) l
def elT (e:Int):Wd:=if e < 0 then 118 :: Lib.decDigits (-1 - e).toNat else Lib.decDigits e.toNat
def rowT11 (r:Rw):List UInt8:=(r.1.flatMap fun e=>elT e ++ [32]) ++ ([45,62,32] ++ elT r.2) ++ [10]
def varT11 (v:Nat)(l:List Int):List UInt8:=varW ++ (32 :: 118 :: Lib.decDigits v) ++ (l.flatMap fun s=>32 :: Lib.decDigits s.toNat) ++ [10]
def varsT11:Nat→List (List Int)→List UInt8
 | _,[]=>[]
 | v,l :: r=>varT11 v l ++ varsT11 (v+1) r
def head11 (t:TabL)(k:Nat):List UInt8:=headsW.getD 0 [] ++ 32 :: Lib.decDigits t.st.toNat ++ [10] ++ (headsW.getD 1 [] ++ 32 :: hoodsW.getD k [] ++ [10]) ++ (headsW.getD 2 [] ++ 32 :: symsW.getD t.sym.toNat [] ++ [10])
def text11 (t:TabL):List UInt8:=
 if rightTab t=false then [] else match placeH t.hood 0 hoodsP with
 | none=>[]
 | some k=>head11 t k ++ varsT11 0 t.vars ++ t.rows.flatMap rowT11
end Go.Proofs.YtcmbdhopmncmnaaGreatDoor
