/-
  texts Ref07 Asc Tot Right Dig8 Parse8: parts of the proof; conditions stand with each theorem.
-/
import Derived.Test.YtcfelnhmifkelaaGreatDoorUG9
import Derived.Test.YtcfelnhmifkelaaGreatDoorUG0
import Derived.Test.YtcfelnhmifkelaaGreatDoorUShelf
import Derived.Test.YtcfelnhmifkelaaGreatDoorUG1
namespace Go.Proofs.YtcfelnhmifkelaaGreatDoor
open Lib(hid)
set_option linter.unusedSimpArgs false
open Go.RowKit
set_option maxRecDepth 100000
set_option linter.unusedVariables false

set_option maxHeartbeats 400000 in
theorem abs_any (x:Int)(w:World)(h1:-1000000≤x)(h2:x≤1000000):Calls Tryz.prog 203 #[.int .i64 x] w fun e w'=>e=.returned (.int .i64 x.natAbs)∧w'=w:=by
 go_enter Tryz.func203,Tryz.ntmps203;go_wp2;all_goals go_ret
 all_goals exact⟨ret_int (by omega),rfl⟩

set_option maxHeartbeats 400000 in
theorem rmoore_any (r:Nat)(hr:r≤2)(w:World) :
  Calls Tryz.prog 168 #[.int .i64 r] w (RetPts (mooreL r) w):=by
 go_enter Tryz.func168,Tryz.ntmps168;go_wp2;go_loopw [3,4] (fun v y wr=>∃ j:Nat,j≤2*r+1∧y=.int .i64 ((j:Int) - r)∧OwnP 117 wr w.heap.size v (gridOf r inAll j)∧Below w.heap.size w wr) (fun _ y _=>(r+1 - intOf y).toNat)
 case atStart=>exact⟨0,by omega,by go_num,OwnP.nil _ _ _,Below.refl _ _⟩
 case round=>
  obtain⟨j,hj,rfl,hown,hb⟩:=hrel;by_cases hlt:j < 2*r+1
  ·have hdec:decide (((j:Int) - r)≤(r:Int))=true:=decide_eq_true (by omega);go_wp2;obtain⟨wo,rfl⟩:∃ wo:World,wo=wr:=⟨_,rfl⟩
   go_loopw [3,5] (fun v x wr=>∃ i:Nat,i≤2*r+1∧x=.int .i64 ((i:Int) - r)∧OwnP 117 wr w.heap.size v (gridOf r inAll j ++ rowOf r inAll ((j:Int) - r) i)∧Below w.heap.size w wr) (fun _ x _=>(r+1 - intOf x).toNat)
   case atStart=>exact⟨0,by omega,by go_num,by simpa [rowOf] using hown,hb⟩
   case round=>
    obtain⟨i,hi,rfl,hown2,hb2⟩:=hrel;clear hown;by_cases hlt2:i < 2*r+1
    ·have hlen:=gridOf_len r inAll j (by omega);have hlen2:=rowOf_len r inAll ((j:Int) - r) i;have hlen3:j*(2*r+1)≤5*5:=Nat.mul_le_mul (by omega) (by omega);have hlen4:(gridOf r inAll j ++ rowOf r inAll ((j:Int) - r) i).length < 4294967296:=by
      rw[List.length_append];omega
     clear hlen hlen2 hlen3;have HP:=rowOf_yes (p:=inAll) (y:=(j:Int) - r) hlt2 rfl;have HP2:=hid HP;clear HP;go_wp2_with (at_builtin;refine wpList_pushP rfl _ _ _ rfl w.heap.size 117 Tryz.underlying141 Tryz.infoPt _ _ rfl hown2 _ _ rfl hlen4 hb2.size ?_);intro v' w1 hown3 hb3;have hb4:=hb2.trans hb3;go_wp2;go_roundw
     case rel=>exact⟨i+1,by omega,by go_num,by rw[HP2.out];exact hown3,hb4⟩
     case measure=>simp[intOf];omega
    ·obtain rfl:i=2*r+1:=by omega
     have HG:=hid (gridOf_succ (p:=inAll) hlt);go_wp2;go_roundw
     case rel=>exact⟨j+1,by omega,by go_num,by rw[HG.out];exact hown2,hb2⟩
     case measure=>simp[intOf];omega
  ·obtain rfl:j=2*r+1:=by omega
   obtain⟨A,c,hv,hp,hnew⟩:=hown.pts;subst hv;go_wp2;go_ret;exact⟨A,c,rfl,hp,hnew,hb⟩
theorem neum_eq:∀ r:Nat,r≤2→(mooreL r).filter (fun p=>inDia r p.1 p.2)=neumL r:=by decide
theorem moore_len:∀ r:Nat,r≤2→(mooreL r).length≤25:=by decide
theorem moore_rng:∀ r:Nat,r≤2→∀ p ∈ mooreL r,-2≤p.1∧p.1≤2∧-2≤p.2∧p.2≤2:=by decide
set_option maxHeartbeats 400000 in
theorem rneum_any (r:Nat)(hr:r≤2)(w:World) :
  Calls Tryz.prog 169 #[.int .i64 r] w (RetPts (neumL r) w):=by
 rw[← neum_eq r hr];have hM:=hid (rmoore_any r hr w);have hlen:=moore_len r hr;have hrng:=hid (moore_rng r hr);go_enter Tryz.func169,Tryz.ntmps169;go_wp2_with fail;refine hM.out.mono ?_;rintro e w1 ⟨A,c,rfl,hp,hnew,hb⟩;clear hM;go_wp2;go_loopw [4,5] (fun v i wr=>∃ k:Nat,k≤(mooreL r).length∧i=.int .i64 k∧OwnP 117 wr w1.heap.size v (((mooreL r).take k).filter (fun p=>inDia r p.1 p.2))∧Below w1.heap.size w1 wr) (fun _ i _=>(mooreL r).length - (intOf i).toNat)
 case atStart=>exact⟨0,by omega,rfl,OwnP.nil _ _ _,Below.refl _ _⟩
 case round=>
  obtain⟨k,hk,rfl,hown,hbr⟩:=hrel;have hpr:=hp.ext hbr;by_cases hlt:k < (mooreL r).length
  ·obtain⟨b1,o1,rfl,hbb,hc,hc'⟩:=hpr.at_ hlt;have hg:=hrng.out _ (List.getElem_mem hlt);obtain⟨g1,g2,g3,g4⟩:=hg;have hta:=hid (List.take_succ_eq_append_getElem hlt);go_wp2;go_quiet ((go_at_call 203;exact Calls.quiet_of_same (abs_any _ _ (by omega) (by omega))))
   have hl2:(((mooreL r).take k).filter (fun p=>inDia r p.1 p.2)).length < 4294967296:=by
    have:=List.length_filter_le (fun p:Int × Int=>inDia r p.1 p.2) ((mooreL r).take k);have:=List.length_take_le k (mooreL r);omega
   by_cases hin:(((mooreL r)[k].1.natAbs:Int)+((mooreL r)[k].2.natAbs:Int))≤(r:Int)
   ·have hf:((mooreL r).take (k+1)).filter (fun p=>inDia r p.1 p.2)=((mooreL r).take k).filter (fun p=>inDia r p.1 p.2) ++ [((mooreL r)[k].1,(mooreL r)[k].2)]:=by
     rw[hta.out,List.filter_append];have:inDia r (mooreL r)[k].1 (mooreL r)[k].2=true:=decide_eq_true (by omega);simp[this]
    have HF:=hid hf;clear hf;go_wp2_with (at_builtin;refine wpList_pushP rfl _ _ _ rfl w1.heap.size 117 Tryz.underlying141 Tryz.infoPt _ _ rfl (hown.drewN _) _ _ rfl hl2 hbr.size ?_);intro v' w2 hown2 hb2;have hb3:=(below_drewN hbr nq).trans hb2;go_wp2;go_roundw
    case rel=>exact⟨k+1,by omega,by go_num,by rw[HF.out];exact hown2,hb3⟩
    case measure=>simp[intOf];omega
   ·have hf:((mooreL r).take (k+1)).filter (fun p=>inDia r p.1 p.2)=((mooreL r).take k).filter (fun p=>inDia r p.1 p.2):=by
     rw[hta.out,List.filter_append];have:inDia r (mooreL r)[k].1 (mooreL r)[k].2=false:=decide_eq_false (by omega);simp[this]
    have HF:=hid hf;clear hf;go_wp2;go_roundw
    case rel=>exact⟨k+1,by omega,by go_num,by rw[HF.out];exact hown.drewN _,below_drewN hbr nq⟩
    case measure=>simp[intOf];omega
  ·obtain rfl:k=(mooreL r).length:=by omega
   rw[List.take_length] at hown;obtain⟨A2,c2,hv,hp2,hnew2⟩:=hown.pts;subst hv;have hb2:=hb.trans (hbr.mono hb.size);go_wp2;go_ret;exact⟨A2,c2,rfl,hp2,hnew2.mono hb.size,hb2⟩
theorem hex_eq:hexL=[(-1,-1),(0,-1),(-1,0),(0,0),(1,0),(0,1),(1,1)]:=by decide
set_option maxHeartbeats 400000 in
theorem rhex_any (w:World) :
  Calls Tryz.prog 170 #[] w (RetPts hexL w):=by
 go_enter Tryz.func170,Tryz.ntmps170;go_wp2;go_ret;refine⟨_,_,rfl,?_,(by intro ad e;injection e with e;subst e;exact Nat.le_refl _),(Below.refl _ _).alloc (Nat.le_refl _) _⟩;refine⟨⟨by decide,fun _=>⟨_,rfl,by simp,fun j u hj=>?_⟩⟩,by decide⟩;rw[addr_add,cell_of_row _ _ _ _ _ _ (heap_alloc_new w _)];rw[hex_eq] at hj;simpa [ptCells] using hj

def asc (last n:Int):List Int→Bool
 | []=>true
 | k :: l=>decide (last < k) && decide (k≤n) && asc k n l
theorem asc_drop {last n:Int}{xs:List Int}{k:Nat}(h:k < xs.length):asc last n (xs.drop k)=(decide (last < xs[k]) && decide (xs[k]≤n) && asc xs[k] n (xs.drop (k+1))):=by
 rw[List.drop_eq_getElem_cons h];rfl
set_option maxHeartbeats 400000 in
theorem ascends_any (A:Option Addr)(xs:List Int)(c:Nat)(n:Int)(w:World)(ha:Ints w A xs) :
  Calls Tryz.prog 196 #[.slice A xs.length c,.int .i64 n] w fun e w'=>e=.returned (.bool (asc (-1) n xs))∧w'=w:=by
 have hn:=ha.le;go_enter Tryz.func196,Tryz.ntmps196;go_wp2
 go_loop [5,10] (fun l i=>∃ (k:Nat) (last:Int),k≤xs.length∧i=.int .i64 k∧l=.int .i64 last∧Hid (asc (-1) n xs=asc last n (xs.drop k))) (fun _ i=>xs.length - (intOf i).toNat)
 case atStart=>exact⟨0,-1,Nat.zero_le _,rfl,rfl,hid rfl⟩
 case round=>
  obtain⟨k,last,hk,rfl,rfl,HT⟩:=hrel;by_cases hlt:k < xs.length
  ·obtain⟨b1,o1,rfl,-,hc⟩:=ha.at_ hlt;have hd:=asc_drop (last:=last) (n:=n) hlt;rw[← HT.out] at hd;have HD:=hid hd;clear hd HT;by_cases h1:xs[k]≤last
   ·have hno:asc (-1) n xs=false:=by rw[HD.out,decide_eq_false (by omega)];rfl
    have HN:=hid hno;clear hno;go_wp2;go_ret;exact⟨ret_bool HN.out.symm,rfl⟩
   ·by_cases h2:n < xs[k]
    ·have hno:asc (-1) n xs=false:=by rw[HD.out,decide_eq_false (p:=xs[k]≤n) (by omega)];simp
     have HN:=hid hno;clear hno;go_wp2;go_ret;exact⟨ret_bool HN.out.symm,rfl⟩
    ·have hyes:asc (-1) n xs=asc xs[k] n (xs.drop (k+1)):=by rw[HD.out,decide_eq_true (p:=last < xs[k]) (by omega),decide_eq_true (p:=xs[k]≤n) (by omega)];rfl
     have HY:=hid hyes;clear hyes;go_wp2
     go_round
     case rel=>exact⟨k+1,_,by omega,by go_num,rfl,HY⟩
     case measure=>simp[intOf];omega
  ·obtain rfl:k=xs.length:=by omega
   have hyes:asc (-1) n xs=true:=by rw[HT.out,List.drop_length];rfl
   have HY:=hid hyes;clear hyes;go_wp2;go_ret;exact⟨ret_bool HY.out.symm,rfl⟩

def prevOf (xs:List Int):Nat→Int
 | 0=>-1
 | k+1=>xs.getD k (-1)
set_option maxHeartbeats 800000 in
theorem numbers_any (A:Option Addr)(xs:List Int)(c:Nat)(n:Int)(w:World)(ha:Ints w A xs) :
  Calls Tryz.prog 171 #[.slice A xs.length c,.int .i64 n] w fun e w'=>e=.returned (.bool (asc (-1) n xs))∧Qt w w':=by
 have hn:=ha.le;go_enter Tryz.func171,Tryz.ntmps171;go_wp2;go_loopw [5] (fun i wr=>∃ (k q:Nat),k≤xs.length∧i=.int .i64 k∧wr=w.drewN q∧Hid (asc (-1) n xs=asc (prevOf xs k) n (xs.drop k)∧-1≤prevOf xs k)) (fun i _=>xs.length - (intOf i).toNat)
 case atStart=>exact⟨0,0,Nat.zero_le _,rfl,rfl,hid ⟨rfl,by simp[prevOf]⟩⟩
 case round=>
  obtain⟨k,q,hk,rfl,rfl,HT⟩:=hrel;by_cases hlt:k < xs.length
  ·obtain⟨b1,o1,rfl,-,hc⟩:=ha.at_ hlt;have hd:=asc_drop (last:=prevOf xs k) (n:=n) hlt;rw[← HT.out.1] at hd;have HD:=hid hd;clear hd;by_cases h1:xs[k] < 0
   ·have d1:decide (xs[k] < 0)=true:=decide_eq_true h1;have hno:asc (-1) n xs=false:=by
     rw[HD.out,decide_eq_false]
     ·rfl
     ·have:=HT.out.2;omega
    have HN:=hid hno;clear hno;go_wp2;go_quiet (fail)
    go_wp2;go_ret;exact⟨ret_bool HN.out.symm,(Qt.drewN _ _).step _⟩
   ·have hnext:prevOf xs (k+1)=xs[k]:=by simp[prevOf,List.getElem?_eq_getElem hlt]
    have d1:decide (xs[k] < 0)=false:=decide_eq_false h1;by_cases h2:n < xs[k]
    ·have hno:asc (-1) n xs=false:=by rw[HD.out,decide_eq_false (p:=xs[k]≤n) (by omega)];simp
     have HN:=hid hno;have d2:decide (n < xs[k])=true:=decide_eq_true h2;clear hno hnext;go_wp2;go_quiet (fail)
     go_wp2;go_ret;exact⟨ret_bool HN.out.symm,(Qt.drewN _ _).step _⟩
    ·have d2:decide (n < xs[k])=false:=decide_eq_false h2;by_cases h3:0 < k
     ·have d3:decide ((0:Int) < (k:Int))=true:=decide_eq_true (by omega);have hlt':k - 1 < xs.length:=by omega
      obtain⟨b2,o2,he,-,hc2⟩:=ha.at_ hlt';have hprev:prevOf xs k=xs[k - 1]:=by
       obtain⟨m,rfl⟩:∃ m,k=m+1:=⟨k - 1,by omega⟩
       show xs.getD m (-1)=xs[m];rw[List.getD_eq_getElem?_getD,List.getElem?_eq_getElem (by omega)];rfl
      rw[hprev] at HD;clear hprev;obtain⟨rfl,rfl⟩:b1=b2∧o1=o2:=by injection he with he;injection he with h1 h2;exact⟨h1,h2⟩
      clear he;have hidx:((k:Int) - 1).toNat=k - 1:=by omega
      by_cases h4:xs[k]≤xs[k - 1]
      ·have d4:decide (xs[k]≤xs[k - 1])=true:=decide_eq_true h4;have hno:asc (-1) n xs=false:=by rw[HD.out,decide_eq_false (p:=xs[k - 1] < xs[k]) (by omega)];simp
       have HN:=hid hno;clear hno hnext;go_wp2;go_quiet (fail)
       go_wp2;go_ret;exact⟨ret_bool HN.out.symm,(Qt.drewN _ _).step _⟩
      ·have d4:decide (xs[k]≤xs[k - 1])=false:=decide_eq_false h4;have hyes:asc (-1) n xs=asc (prevOf xs (k+1)) n (xs.drop (k+1))∧-1≤prevOf xs (k+1):=by
        rw[hnext,HD.out,decide_eq_true (p:=xs[k - 1] < xs[k]) (by omega),decide_eq_true (p:=xs[k]≤n) (by omega)];exact⟨rfl,by omega⟩
       have HY:=hid hyes;clear hyes hnext;go_wp2;go_quiet (fail)
       go_wp2;go_roundw
       case rel=>exact⟨k+1,_,by omega,by go_num,rfl,HY⟩
       case measure=>simp[intOf];omega
     ·have d3:decide ((0:Int) < (k:Int))=false:=decide_eq_false (by omega);have d3':decide (0 < k)=false:=decide_eq_false h3;have hyes:asc (-1) n xs=asc (prevOf xs (k+1)) n (xs.drop (k+1))∧-1≤prevOf xs (k+1):=by
       obtain rfl:k=0:=by omega
       rw[hnext,HD.out,decide_eq_true (p:=prevOf xs 0 < xs[0]) (by show (-1:Int) < xs[0];omega),decide_eq_true (p:=xs[0]≤n) (by omega)];exact⟨rfl,by omega⟩
      have HY:=hid hyes;clear hyes hnext h3;go_wp2;go_quiet (fail)
      go_wp2;go_roundw
      case rel=>exact⟨k+1,_,by omega,by go_num,rfl,HY⟩
      case measure=>simp[intOf];omega
  ·obtain rfl:k=xs.length:=by omega
   have hyes:asc (-1) n xs=true:=by rw[HT.out.1,List.drop_length];rfl
   have HY:=hid hyes;clear hyes;go_wp2;go_ret;exact⟨ret_bool HY.out.symm,Qt.drewN _ _⟩


structure TotL where
 hood:List (Int × Int)
 states:Int
 birth:List Int
 survive:List Int
 deriving DecidableEq

def totV (A:Option Addr)(a:Nat)(B:Option Addr)(b:Nat)(C:Option Addr)(c:Nat)(t:TotL):Value:=
 .agg #[.slice A t.hood.length a,.int .i64 t.states,.slice B t.birth.length b,.slice C t.survive.length c]
structure TotR (w:World)(A B C:Option Addr)(t:TotL):Prop where
 hood:Pts w A t.hood
 birth:Ints w B t.birth
 survive:Ints w C t.survive
theorem TotR.ext {w w':World}{A B C:Option Addr}{t:TotL}(h:TotR w A B C t)(hb:Below w.heap.size w w'):TotR w' A B C t:=
 ⟨h.hood.ext hb,h.birth.ext hb,h.survive.ext hb⟩
def knownB (ps:List (Int × Int)):Bool:=decide (ps=mooreL 1) || decide (ps=neumL 1) || decide (ps=hexL)
def letterS (ps:List (Int × Int)):ByteArray:=if ps=mooreL 1 then ⟨#[]⟩ else if ps=neumL 1 then ⟨#[86]⟩ else if ps=hexL then ⟨#[72]⟩ else ⟨#[]⟩
def rightT (t:TotL):Bool:=knownB t.hood && decide (2≤t.states) && decide (t.states≤8) && asc (-1) ((t.hood.length:Int) - 1) t.birth && asc (-1) ((t.hood.length:Int) - 1) t.survive
theorem moore_one (w:World):Calls Tryz.prog 151 #[.int .i64 1] w (RetPts (mooreL 1) w):=moore_any 1 (by omega) w
theorem neum_one (w:World):Calls Tryz.prog 153 #[.int .i64 1] w (RetPts (neumL 1) w):=neum_any 1 (by omega) w
theorem rmoore_one (w:World):Calls Tryz.prog 168 #[.int .i64 1] w (RetPts (mooreL 1) w):=rmoore_any 1 (by omega) w
theorem rneum_one (w:World):Calls Tryz.prog 169 #[.int .i64 1] w (RetPts (neumL 1) w):=rneum_any 1 (by omega) w
set_option maxHeartbeats 400000 in
theorem hsame_any (A B:Option Addr)(xs ys:List (Int × Int)) (c d:Nat)(w:World)(ha:Pts w A xs)(hb:Pts w B ys) :
  Calls Tryz.prog 211 #[.slice A xs.length c,.slice B ys.length d] w fun e w'=>e=.returned (.bool (decide (xs=ys)))∧Qt w w':=by
 have HE:=hid (equalPts A B xs ys c d w ha hb);go_enter Tryz.func211,Tryz.ntmps211;go_wp2_with fail;refine HE.out.mono ?_;rintro e w' ⟨rfl,hq⟩;clear HE;go_wp2;go_ret;exact⟨rfl,hq⟩
set_option maxHeartbeats 800000 in
theorem letter_anyT (A:Option Addr)(ps:List (Int × Int)) (c:Nat)(w:World)(ha:Pts w A ps) :
  Calls Tryz.prog 197 #[.slice A ps.length c] w fun e w'=>e=.returned (.tuple #[.string (letterS ps),.bool (knownB ps)])∧Below w.heap.size w w':=by
 by_cases h1:ps=mooreL 1
 ·have e1:letterS ps=⟨#[]⟩:=by unfold letterS;rw[if_pos h1]
  have e2:knownB ps=true:=by unfold knownB;rw[decide_eq_true h1];rfl
  rw[e1,e2];have d1:decide (ps=mooreL 1)=true:=decide_eq_true h1;clear e1 e2 h1;go_enter Tryz.func197,Tryz.ntmps197;go_wp2_with fail;refine (moore_one _).mono ?_;rintro e w1 ⟨A1,c1,rfl,hp1,-,hb1⟩;go_wp2_with fail;refine (hsame_any _ _ _ _ _ _ _ (ha.ext hb1) hp1).mono ?_;rintro e w2 ⟨rfl,hq⟩;go_wp2;go_ret2;exact⟨rfl,hb1.trans (hq.below _)⟩
 ·have d1:decide (ps=mooreL 1)=false:=decide_eq_false h1;by_cases h2:ps=neumL 1
  ·have e1:letterS ps=⟨#[86]⟩:=by unfold letterS;rw[if_neg h1,if_pos h2]
   have e2:knownB ps=true:=by unfold knownB;rw[d1,decide_eq_true h2];rfl
   rw[e1,e2];have d2:decide (ps=neumL 1)=true:=decide_eq_true h2;clear e1 e2 h1 h2;go_enter Tryz.func197,Tryz.ntmps197;go_wp2_with fail;refine (moore_one _).mono ?_;rintro e w1 ⟨A1,c1,rfl,hp1,-,hb1⟩;go_wp2_with fail;refine (hsame_any _ _ _ _ _ _ _ (ha.ext hb1) hp1).mono ?_;rintro e w2 ⟨rfl,hq⟩;have hb2:=hb1.trans (hq.below _);go_wp2_with fail;refine (neum_one _).mono ?_;rintro e w3 ⟨A3,c3,rfl,hp3,-,hb3⟩;have hb4:=hb2.trans (hb3.mono hb2.size);go_wp2_with fail;refine (hsame_any _ _ _ _ _ _ _ (ha.ext hb4) hp3).mono ?_;rintro e w4 ⟨rfl,hq4⟩;go_wp2;go_ret2;exact⟨rfl,hb4.trans (hq4.below _)⟩
  ·have d2:decide (ps=neumL 1)=false:=decide_eq_false h2;have e1:letterS ps=if ps=hexL then ⟨#[72]⟩ else ⟨#[]⟩:=by unfold letterS;rw[if_neg h1,if_neg h2]
   have e2:knownB ps=decide (ps=hexL):=by unfold knownB;rw[d1,d2];rfl
   rw[e1,e2];clear e1 e2 h1 h2;by_cases h3:ps=hexL
   ·rw[if_pos h3];have d3:decide (ps=hexL)=true:=decide_eq_true h3;rw[d3];clear h3;go_enter Tryz.func197,Tryz.ntmps197;go_wp2_with fail;refine (moore_one _).mono ?_;rintro e w1 ⟨A1,c1,rfl,hp1,-,hb1⟩;go_wp2_with fail;refine (hsame_any _ _ _ _ _ _ _ (ha.ext hb1) hp1).mono ?_;rintro e w2 ⟨rfl,hq⟩;have hb2:=hb1.trans (hq.below _);go_wp2_with fail;refine (neum_one _).mono ?_;rintro e w3 ⟨A3,c3,rfl,hp3,-,hb3⟩;have hb4:=hb2.trans (hb3.mono hb2.size);go_wp2_with fail;refine (hsame_any _ _ _ _ _ _ _ (ha.ext hb4) hp3).mono ?_;rintro e w4 ⟨rfl,hq4⟩;have hb5:=hb4.trans (hq4.below _);go_wp2_with fail;refine (hex_any _).mono ?_;rintro e w5 ⟨A5,c5,rfl,hp5,-,hb5'⟩;have hb6:=hb5.trans (hb5'.mono hb5.size);go_wp2_with fail;refine (hsame_any _ _ _ _ _ _ _ (ha.ext hb6) hp5).mono ?_;rintro e w6 ⟨rfl,hq6⟩;go_wp2;go_ret2;exact⟨rfl,hb6.trans (hq6.below _)⟩
   ·rw[if_neg h3];have d3:decide (ps=hexL)=false:=decide_eq_false h3;rw[d3];clear h3;go_enter Tryz.func197,Tryz.ntmps197;go_wp2_with fail;refine (moore_one _).mono ?_;rintro e w1 ⟨A1,c1,rfl,hp1,-,hb1⟩;go_wp2_with fail;refine (hsame_any _ _ _ _ _ _ _ (ha.ext hb1) hp1).mono ?_;rintro e w2 ⟨rfl,hq⟩;have hb2:=hb1.trans (hq.below _);go_wp2_with fail;refine (neum_one _).mono ?_;rintro e w3 ⟨A3,c3,rfl,hp3,-,hb3⟩;have hb4:=hb2.trans (hb3.mono hb2.size);go_wp2_with fail;refine (hsame_any _ _ _ _ _ _ _ (ha.ext hb4) hp3).mono ?_;rintro e w4 ⟨rfl,hq4⟩;have hb5:=hb4.trans (hq4.below _);go_wp2_with fail;refine (hex_any _).mono ?_;rintro e w5 ⟨A5,c5,rfl,hp5,-,hb5'⟩;have hb6:=hb5.trans (hb5'.mono hb5.size);go_wp2_with fail;refine (hsame_any _ _ _ _ _ _ _ (ha.ext hb6) hp5).mono ?_;rintro e w6 ⟨rfl,hq6⟩;go_wp2;go_ret2;exact⟨rfl,hb6.trans (hq6.below _)⟩

set_option maxHeartbeats 800000 in
theorem right_anyT (A B C:Option Addr)(a b c:Nat)(t:TotL)(w:World)(ht:TotR w A B C t) :
  Calls Tryz.prog 156 #[totV A a B b C c t] w fun e w'=>e=.returned (.bool (rightT t))∧Below w.heap.size w w':=by
 unfold rightT totV;have hb0:=(Below.refl w.heap.size w).alloc (Nat.le_refl _) (.cells #[.slice A t.hood.length a,.int .i64 t.states,.slice B t.birth.length b,.slice C t.survive.length c] 144);have HL:=hid (letter_anyT A t.hood a _ (ht.hood.ext hb0));have hn:=ht.hood.le;go_enter Tryz.func156,Tryz.ntmps156;go_wp2_with fail;refine HL.out.mono ?_;rintro e w1 ⟨rfl,hb1⟩;have hb2:=hb0.trans (hb1.mono hb0.size);have c0:=box_cell hb1 0 _ rfl;have c1:=box_cell hb1 1 _ rfl;have c2:=box_cell hb1 2 _ rfl;have c3:=box_cell hb1 3 _ rfl;have r2:=ascends_any B t.birth b ((t.hood.length:Int) - 1) w1 (ht.birth.ext hb2);have r3:=ascends_any C t.survive c ((t.hood.length:Int) - 1) w1 (ht.survive.ext hb2);have R:=hid (And.intro r2 r3);clear r2 r3 HL hb0 hb1;cases k1:knownB t.hood
 ·go_wp2;go_ret;exact⟨ret_bool (by rw[k1];rfl),hb2⟩
 cases k2:decide (2≤t.states)
 ·go_wp2;go_ret;exact⟨ret_bool (by rw[k1,k2];rfl),hb2⟩
 cases k3:decide (t.states≤8)
 ·go_wp2;go_ret;exact⟨ret_bool (by rw[k1,k2,k3];rfl),hb2⟩
 go_wp2_with fail;refine R.out.1.mono ?_;rintro e w' ⟨rfl,rfl⟩;cases k4:asc (-1) ((t.hood.length:Int) - 1) t.birth
 ·go_wp2;go_ret;exact⟨ret_bool (by rw[k1,k2,k3,k4];rfl),hb2⟩
 go_wp2_with fail;refine R.out.2.mono ?_;rintro e w' ⟨rfl,rfl⟩;go_wp2;go_ret;exact⟨ret_bool (by rw[k1,k2,k3,k4];simp),hb2⟩

def isDig8 (c:UInt8):Bool:=decide (48≤(c.toNat:Int)) && decide ((c.toNat:Int)≤57)
def digOf8 (c:UInt8):Int:=(c.toNat:Int) - 48
def digL (l:List UInt8):List Int × Bool:=if l.all isDig8 then (l.map digOf8,asc (-1) 9 (l.map digOf8)) else ([],false)
theorem digL_take_bad {l:List UInt8}{k:Nat}(hk:k < l.length)(hb:isDig8 l[k]=false):digL l=([],false):=by
 unfold digL;rw[if_neg];intro h;rw[List.all_eq_true] at h;have:=h _ (List.getElem_mem hk);rw[hb] at this;cases this
theorem all_take_succ {l:List UInt8}{k:Nat}(hk:k < l.length)(h:(l.take k).all isDig8=true) (hb:isDig8 l[k]=true):(l.take (k+1)).all isDig8=true:=by
 rw[List.take_succ_eq_append_getElem hk,List.all_append,h];simp[hb]
theorem map_take_succ {α β:Type} (f:α→β){l:List α}{k:Nat}(hk:k < l.length):(l.take (k+1)).map f=(l.take k).map f ++ [f l[k]]:=by
 rw[List.take_succ_eq_append_getElem hk,List.map_append];rfl
theorem bytes_conv8 (s:ByteArray)(w:World):∃ cap W,(convert 9 95 (.string s)).run Tryz.prog w=.ok (.slice (some ⟨w.heap.size,0,none⟩) s.data.toList.length cap) W∧Below w.heap.size w W∧w.heap.size < W.heap.size∧
  ∀ i (h:i < s.data.toList.length),W.cell? ⟨w.heap.size,i,none⟩=some (.int .u8 s.data.toList[i].toNat):=by
 have hr:=run_bytes_of_string (P:=Tryz.prog) w 9 95 5 s Tryz.underlying9 Tryz.underlying95 Tryz.underlying5;refine⟨_,_,hr,?_,?_,?_⟩
 ·exact ((Below.refl w.heap.size w).drew).alloc (Nat.le_refl _) _
 ·simp
 ·intro i h;have hl:i < s.size:=by simpa using h
  have hc:=cell_of_row (w.drew.alloc (.cells (bytesRow s (grownCap w s.size 0 5)) 5 ((bytesRow s (grownCap w s.size 0 5)).size,(bytesRow s (grownCap w s.size 0 5)).size+1))) w.heap.size i _ _ _ (heap_alloc_new w.drew _);rw[hc];unfold bytesRow;rw[Array.getElem?_append_left (by simpa using hl)];have hl2:i < s.data.size:=hl;rw[Array.getElem?_map,Array.getElem?_eq_getElem hl2]
  simp
set_option maxHeartbeats 400000 in
theorem digits_any8 (s:ByteArray)(w:World)(hs:s.data.toList.length≤2147483648) :
  Calls Tryz.prog 155 #[.string s] w (RetIntsB (digL s.data.toList).1 (digL s.data.toList).2 w):=by
 obtain⟨cap,W,hcv,hbW,hsz,hcells⟩:=bytes_conv8 s w;generalize s.data.toList=l at *;obtain⟨zs,hzs⟩:∃ zs,zs=l.map digOf8:=⟨_,rfl⟩
 have hzl:zs.length=l.length:=by rw[hzs,List.length_map]
 have hza:∀ k (h:k < l.length),zs.take (k+1)=zs.take k ++ [(l[k].toNat:Int) - 48]:=by
  intro k h;rw[hzs,← List.map_take,map_take_succ digOf8 h,List.map_take];rfl
 have HZ:=hid (And.intro hzs (And.intro hzl hza));have HC:=hid hcells;clear hcells hzs hzl hza;go_enter Tryz.func155,Tryz.ntmps155;go_wp2;go_loopw [4,10] (fun v i wr=>∃ k:Nat,k≤l.length∧i=.int .i64 k∧OwnI 3 wr W.heap.size v (zs.take k)∧Below W.heap.size W wr∧Hid ((l.take k).all isDig8=true)) (fun _ i _=>l.length - (intOf i).toNat)
 case atStart=>exact⟨0,Nat.zero_le _,rfl,OwnI.nil _ _ _,Below.refl _ _,hid rfl⟩
 case round=>
  obtain⟨k,hk,rfl,hown,hb,HT⟩:=hrel;have hbw:=hbW.trans (hb.mono hbW.size);by_cases hlt:k < l.length
  ·have hc:=(hb.cell (p:=⟨w.heap.size,k,none⟩) hsz).trans (HC.out k hlt);have hc0:(l[k].toNat:Int)≤255:=by have:=l[k].toNat_lt;omega
   cases hd:isDig8 l[k]
   ·have hbad:=hid (digL_take_bad hlt hd);by_cases h1:(l[k].toNat:Int) < 48
    ·clear hd;go_wp2;go_ret2;rw[hbad.out];exact⟨none,0,rfl,Ints.nil,NewA.none_ _,hbw⟩
    ·have h2:(57:Int) < l[k].toNat:=by
      unfold isDig8 at hd;rw[decide_eq_true (by omega)] at hd;simpa using hd
     clear hd;go_wp2;go_ret2;rw[hbad.out];exact⟨none,0,rfl,Ints.nil,NewA.none_ _,hbw⟩
   ·have hall:=hid (all_take_succ hlt HT.out hd);have hmap:=hid (HZ.out.2.2 k hlt);obtain⟨h1,h2⟩:48≤(l[k].toNat:Int)∧(l[k].toNat:Int)≤57:=by simpa [isDig8] using hd
    have hlen:(zs.take k).length < 4294967296:=by rw[List.length_take];omega
    clear hd;go_wp2_with (at_builtin;refine wpList_pushI rfl _ _ _ rfl W.heap.size 3 Tryz.underlying142 Tryz.infoInt _ _ rfl hown _ rfl hlen hb.size ?_);intro v' w1 hown2 hb2;have hb3:=hb.trans hb2;go_wp2;go_roundw
    case rel=>exact⟨k+1,by omega,by go_num,by rw[hmap.out];exact hown2,hb3,hall⟩
    case measure=>simp[intOf];omega
  ·obtain rfl:k=l.length:=by omega
   have hfin:digL l=(zs,asc (-1) 9 zs):=by
    have:=HT.out;rw[List.take_length] at this;unfold digL;rw[if_pos this,HZ.out.1]
   rw[← HZ.out.2.1,List.take_length] at hown;have HF:=hid hfin;clear hfin;obtain⟨A,c,hv,hi,hnew⟩:=hown.ints;subst hv;have R:=hid (ascends_any A zs c 9 wr hi);go_wp2_with fail;refine R.out.mono ?_;rintro e w' ⟨rfl,rfl⟩;go_wp2;go_ret2;rw[HF.out];exact⟨A,c,rfl,hi,hnew.mono hbW.size,hbw⟩

def zeroT:TotL:=⟨[],0,[],[]⟩
def tailV8 (l:List UInt8):Bool:=Lib.hasSuffix l [86]
def tailH8 (l:List UInt8):Bool:=Lib.hasSuffix l [72]
def cutV8 (l:List UInt8):List UInt8:=Lib.trimSuffix l [86]
def cutH8 (l:List UInt8):List UInt8:=Lib.trimSuffix l [72]
def hoodP8 (l:List UInt8):List UInt8 × List (Int × Int):=if tailV8 l then (cutV8 l,neumL 1) else if tailH8 l then (cutH8 l,hexL) else (l,mooreL 1)
def endP (b s:List Int × Bool)(h:List (Int × Int)):TotL × Int:=
 if b.2 then if s.2 then if rightT ⟨h,2,b.1,s.1⟩ then (⟨h,2,b.1,s.1⟩,0) else (zeroT,5) else (zeroT,15) else (zeroT,15)
def startB8 (l:List UInt8):Bool:=Lib.hasPrefix l [66]
def restB8 (l:List UInt8):List UInt8:=Lib.trimPrefix l [66]
def cut3 (l:List UInt8):List UInt8 × List UInt8 × Bool:=Lib.cut l [47,83]
def parseL8 (l:List UInt8):TotL × Int:=
 if startB8 l then
  if (cut3 (restB8 l)).2.2 then
   endP (digL (cut3 (restB8 l)).1) (digL (hoodP8 (cut3 (restB8 l)).2.1).1) (hoodP8 (cut3 (restB8 l)).2.1).2
  else (zeroT,15)
 else (zeroT,15)
theorem trimPrefix_len8 (l p:List UInt8):(Lib.trimPrefix l p).length≤l.length:=by
 unfold Lib.trimPrefix;split <;> simp
theorem trimSuffix_len8 (l p:List UInt8):(Lib.trimSuffix l p).length≤l.length:=by
 unfold Lib.trimSuffix;split <;> simp <;> omega
theorem cut_len8 (l p:List UInt8):(Lib.cut l p).1.length≤l.length∧(Lib.cut l p).2.1.length≤l.length:=by
 unfold Lib.cut;split <;> simp <;> omega
def RetTot8 (r:TotL × Int)(w:World)(e:Ending)(w':World):Prop:=
 ∃ A a B b C c,e=.returned (.tuple #[totV A a B b C c r.1,.int .i64 r.2])∧TotR w' A B C r.1∧Below w.heap.size w w'
def Glob8 (w:World):Prop:=∃ m,w.cell? ⟨0,0,none⟩=some (.int .i64 m)
theorem Glob8.ext {w w':World}(h:Glob8 w)(hb:Below w.heap.size w w'):Glob8 w':=by
 obtain⟨m,hm⟩:=h;exact⟨m,by rw[hb.cell (World.block_lt_of_cell? _ _ hm)];exact hm⟩
theorem TotR.set48 {w:World}{A B C:Option Addr}{t:TotL}{b:Nat}(h:TotR w A B C t)(ha:NewA (b+1) A) (hb:NewA (b+1) B) (hc:NewA (b+1) C) (v0 v1 v2 v3:Value) :
  TotR ((((w.setCell ⟨b,0,none⟩ v0).setCell ⟨b,1,none⟩ v1).setCell ⟨b,2,none⟩ v2).setCell ⟨b,3,none⟩ v3) A B C t:=
 ⟨(((h.hood.set_new ha (by simp) _).set_new ha (by simp) _).set_new ha (by simp) _).set_new ha (by simp) _,
  (((h.birth.set_new hb (by simp) _).set_new hb (by simp) _).set_new hb (by simp) _).set_new hb (by simp) _,
  (((h.survive.set_new hc (by simp) _).set_new hc (by simp) _).set_new hc (by simp) _).set_new hc (by simp) _⟩
theorem TotR.zero (w:World):TotR w none none none zeroT:=⟨Pts.nil,Ints.nil,Ints.nil⟩
theorem cutB_any8 (s:ByteArray)(w:World):Calls Tryz.prog 136 #[.string s,.string ⟨#[66]⟩] w fun e w'=>e=.returned (.tuple #[.string ⟨(restB8 s.data.toList).toArray⟩,.bool (startB8 s.data.toList)])∧w=w':=
 (Tryz.strings_CutPrefix s ⟨#[66]⟩ w).mono fun e w' h=>⟨h.1,h.2.symm⟩
theorem cutS_any8 (l:List UInt8)(w:World)(hg:Glob8 w)(hl:l.length < 4294967281):Calls Tryz.prog 33 #[.string ⟨l.toArray⟩,.string ⟨#[47,83]⟩] w fun e w'=>e=.returned (.tuple #[.string ⟨(cut3 l).1.toArray⟩,.string ⟨(cut3 l).2.1.toArray⟩,.bool (cut3 l).2.2])∧Qt w w':=by
 obtain⟨m,hm⟩:=hg;exact Tryz.strings_Cut ⟨l.toArray⟩ ⟨#[47,83]⟩ m w (by simpa [ByteArray.size] using hl) hm
theorem cutV_any8 (l:List UInt8)(w:World)(hl:l.length < 4294967281):Calls Tryz.prog 152 #[.string ⟨l.toArray⟩,.string ⟨#[86]⟩] w fun e w'=>e=.returned (.tuple #[.string ⟨(cutV8 l).toArray⟩,.bool (tailV8 l)])∧w=w':=
 (Tryz.strings_CutSuffix ⟨l.toArray⟩ ⟨#[86]⟩ w (by simp[ByteArray.size];omega)).mono fun e w' h=>⟨h.1,h.2.symm⟩
theorem cutH_any8 (l:List UInt8)(w:World)(hl:l.length < 4294967281):Calls Tryz.prog 152 #[.string ⟨l.toArray⟩,.string ⟨#[72]⟩] w fun e w'=>e=.returned (.tuple #[.string ⟨(cutH8 l).toArray⟩,.bool (tailH8 l)])∧w=w':=
 (Tryz.strings_CutSuffix ⟨l.toArray⟩ ⟨#[72]⟩ w (by simp[ByteArray.size];omega)).mono fun e w' h=>⟨h.1,h.2.symm⟩
theorem digitsL_any (l:List UInt8)(w:World)(hl:l.length < 4294967281)(h2:l.length≤2147483648):Calls Tryz.prog 155 #[.string ⟨l.toArray⟩] w (RetIntsB (digL l).1 (digL l).2 w):=digits_any8 ⟨l.toArray⟩ w h2

set_option maxHeartbeats 1000000 in
theorem parse_any8 (s:ByteArray)(w:World)(hg:Glob8 w)(hs:s.data.toList.length≤2147483648) :
  Calls Tryz.prog 120 #[.string s] w (RetTot8 (parseL8 s.data.toList) w):=by
 have hO:=(Below.refl w.heap.size w).alloc (Nat.le_refl _) (.cells #[.slice none 0 0,.int .i64 0,.slice none 0 0,.slice none 0 0] 144);have hg0:=hg.ext hO;have C1:=cutB_any8 s;have hR:(restB8 s.data.toList).length≤s.data.toList.length:=trimPrefix_len8 _ _;unfold parseL8;generalize s.data.toList=L at *;generalize restB8 L=R at *;have C2:=cutS_any8 R;have hc1:(cut3 R).1.length≤R.length:=(cut_len8 _ _).1;have hc2:(cut3 R).2.1.length≤R.length:=(cut_len8 _ _).2;generalize cut3 R=c3 at *;obtain⟨bd,sv,p2⟩:=c3;dsimp only at *;cases k1:startB8 L
 ·rw[k1] at C1;have H:=hid (And.intro C1 C2);clear C1 C2;go_enter Tryz.func120,Tryz.ntmps120;go_wp2_with fail;refine (H.out.1 _).mono ?_;rintro e w1 ⟨rfl,rfl⟩;go_wp2_with fail;refine (H.out.2 _ hg0 (by omega)).mono ?_;rintro e w1 ⟨rfl,q1,rfl⟩;have hO1:=below_drewN hO q1;go_wp2;refine bodyPost_ret (v:=.tuple #[.agg #[.slice none 0 0,.int .i64 0,.slice none 0 0,.slice none 0 0],.int .i64 15]) (by simp[results,Tryz.results120,go_sem]) rfl ?_;exact⟨none,0,none,0,none,0,rfl,TotR.zero _,below_set4 hO1 (Nat.le_refl _) _ _ _ _⟩
 rw[k1] at C1;have H:=hid (And.intro C1 C2);clear C1 C2;cases p2
 ·go_enter Tryz.func120,Tryz.ntmps120;go_wp2_with fail;refine (H.out.1 _).mono ?_;rintro e w1 ⟨rfl,rfl⟩;go_wp2_with fail;refine (H.out.2 _ hg0 (by omega)).mono ?_;rintro e w1 ⟨rfl,q1,rfl⟩;have hO1:=below_drewN hO q1;go_wp2;refine bodyPost_ret (v:=.tuple #[.agg #[.slice none 0 0,.int .i64 0,.slice none 0 0,.slice none 0 0],.int .i64 15]) (by simp[results,Tryz.results120,go_sem]) rfl ?_;exact⟨none,0,none,0,none,0,rfl,TotR.zero _,below_set4 hO1 (Nat.le_refl _) _ _ _ _⟩
 simp only[if_true];unfold hoodP8;have C4:=fun w=>digitsL_any bd w (by omega) (by omega);have C3:=cutV_any8 sv;generalize digL bd=db at *;obtain⟨bs,ok1⟩:=db;cases k2:tailV8 sv
 ·rw[k2] at C3;have C6:=cutH_any8 sv;simp only[if_false,Bool.false_eq_true];cases k3:tailH8 sv
  ·rw[k3] at C6;simp only[if_false,Bool.false_eq_true];have C5:=fun w=>digitsL_any sv w (by omega) (by omega);generalize digL sv=ds at *;obtain⟨ss,ok2⟩:=ds;dsimp only at *;have H2:=hid (And.intro C3 (And.intro C4 (And.intro C5 C6)));clear C3 C4 C5 C6;go_enter Tryz.func120,Tryz.ntmps120;go_wp2_with fail;refine (H.out.1 _).mono ?_;rintro e w1 ⟨rfl,rfl⟩;go_wp2_with fail;refine (H.out.2 _ hg0 (by omega)).mono ?_;rintro e w1 ⟨rfl,q1,rfl⟩;have hO1:=below_drewN hO q1;have br0:Blk ((w.alloc (.cells #[.slice none 0 0,.int .i64 0,.slice none 0 0,.slice none 0 0] 144)).drewN q1) w.heap.size 144 #[.slice none 0 0,.int .i64 0,.slice none 0 0,.slice none 0 0]:=(Blk.new w 144 #[.slice none 0 0,.int .i64 0,.slice none 0 0,.slice none 0 0]).drewN q1;go_wp2_with fail;refine (moore_one _).mono ?_;rintro e w1 ⟨A1,a1,rfl,hp1,hn1,hb1⟩;have hO2:=hO1.trans (hb1.mono hO1.size);have br1:=br0.below hb1 br0.lt;have hlt1:=br1.lt;have hn1':NewA (w.heap.size+1) A1:=hn1.mono (by simp);clear br0 hn1;have bt1:Blk (w1.alloc (.cells #[.slice A1 (mooreL 1).length a1,.int .i64 2,.slice none 0 0,.slice none 0 0] 144)) w1.heap.size 144 #[.slice A1 (mooreL 1).length a1,.int .i64 2,.slice none 0 0,.slice none 0 0]:=Blk.new _ _ _;have br2:=br1.alloc (.cells #[.slice A1 (mooreL 1).length a1,.int .i64 2,.slice none 0 0,.slice none 0 0] 144);have hO3:=hO2.alloc hO2.size (.cells #[.slice A1 (mooreL 1).length a1,.int .i64 2,.slice none 0 0,.slice none 0 0] 144);have hp1':=hp1.ext ((Below.refl _ _).alloc (Nat.le_refl _) (.cells #[.slice A1 (mooreL 1).length a1,.int .i64 2,.slice none 0 0,.slice none 0 0] 144));go_wp2_with fail;refine (H2.out.1 _ (by omega)).mono ?_;rintro e w2 ⟨rfl,rfl⟩;have hfar:∀ (W:World) (i:Nat) (u:Value),Pts W A1 (mooreL 1)→Pts (W.setCell ⟨w1.heap.size,i,none⟩ u) A1 (mooreL 1):=fun W i u h=>h.set_old hp1 (by simp) u;go_wp2_with fail;refine (H2.out.2.2.2 _ (by omega)).mono ?_;rintro e w2 ⟨rfl,rfl⟩;have hnh:=hn1';have bt3:=bt1;have br4:=br2;have hO5:=hO3;have hph:=hp1';clear bt1 br1 br2 hO2 hO3 hn1' hp1' hp1 hb1 hO1;go_wp2_with fail;refine (H2.out.2.1 _).mono ?_;rintro e w3 ⟨A3,a3,rfl,hi3,hn3,hb3⟩;have bt4:=bt3.below hb3 bt3.lt;have br5:=br4.below hb3 br4.lt;have hO6:=hO5.trans (hb3.mono hO5.size);have hph4:=hph.ext hb3;have hn3t:NewA (w1.heap.size+1) A3:=hn3.mono (Nat.succ_le_of_lt bt3.lt);have hn3r:NewA (w.heap.size+1) A3:=hn3.mono (Nat.succ_le_of_lt br4.lt);have c2:=bt4.cell_ 2 _ rfl;have f2:=bt4.frozen 2;have bt5:Blk (w3.setCell ⟨w1.heap.size,2,none⟩ (.slice A3 bs.length a3)) w1.heap.size 144 #[.slice A1 (mooreL 1).length a1,.int .i64 2,.slice A3 bs.length a3,.slice none 0 0]:=bt4.set_ 2 _;have br6:=br5.far (p:=⟨w1.heap.size,2,none⟩) (by simp;omega) (.slice A3 bs.length a3);have hO7:=hO6.setCell (p:=⟨w1.heap.size,2,none⟩) (by simp;omega) (.slice A3 bs.length a3);have hph5:=hfar w3 2 (.slice A3 bs.length a3) hph4;have hi5:=hi3.set_new hn3t (p:=⟨w1.heap.size,2,none⟩) (by simp) (.slice A3 bs.length a3);clear bt3 br4 hO5 hph hb3 hi3 hph4 hO6 bt4 br5 hn3;go_wp2_with fail;refine (H2.out.2.2.1 _).mono ?_;rintro e w4 ⟨A4,a4,rfl,hi4,hn4,hb4⟩;have bt6:=bt5.below hb4 bt5.lt;have br7:=br6.below hb4 br6.lt;have hO8:=hO7.trans (hb4.mono hO7.size);have hph6:=hph5.ext hb4;have hi6:=hi5.ext hb4;have hn4t:NewA (w1.heap.size+1) A4:=hn4.mono (Nat.succ_le_of_lt bt5.lt);have hn4r:NewA (w.heap.size+1) A4:=hn4.mono (Nat.succ_le_of_lt br6.lt);have c3:=bt6.cell_ 3 _ rfl;have f3:=bt6.frozen 3;have bt7:Blk (w4.setCell ⟨w1.heap.size,3,none⟩ (.slice A4 ss.length a4)) w1.heap.size 144 #[.slice A1 (mooreL 1).length a1,.int .i64 2,.slice A3 bs.length a3,.slice A4 ss.length a4]:=bt6.set_ 3 _;have br8:=br7.far (p:=⟨w1.heap.size,3,none⟩) (by simp;omega) (.slice A4 ss.length a4)
   have hO9:=hO8.setCell (p:=⟨w1.heap.size,3,none⟩) (by simp;omega) (.slice A4 ss.length a4);have hph7:=hfar w4 3 (.slice A4 ss.length a4) hph6;have hi7:=hi6.set_new hn3t (p:=⟨w1.heap.size,3,none⟩) (by simp) (.slice A4 ss.length a4);have hj7:=hi4.set_new hn4t (p:=⟨w1.heap.size,3,none⟩) (by simp) (.slice A4 ss.length a4);have r0:=br7.cell_ 0 _ rfl;have r1:=br7.cell_ 1 _ rfl;have r2:=br7.cell_ 2 _ rfl;have r3:=br7.cell_ 3 _ rfl;have g0:=br7.frozen 0;have g1:=br7.frozen 1;have g2:=br7.frozen 2;have g3:=br7.frozen 3;have t0:=bt6.cell_ 0 _ rfl;have t1:=bt6.cell_ 1 _ rfl;have t2:=bt6.cell_ 2 _ rfl;have hO10:=hid hO9;have hT:=hid (TotR.mk hph7 hi7 hj7:TotR (w4.setCell ⟨w1.heap.size,3,none⟩ (.slice A4 ss.length a4)) A1 A3 A4 ⟨(mooreL 1),2,bs,ss⟩);have hne:¬ w1.heap.size=w.heap.size:=by omega
   clear bt5 br6 hO7 hph5 hb4 hi4 hph6 hO8 bt6 br7 hn4 hi5 hi6 c2 f2 hph7 hi7 hj7 hO9 hfar;cases ok1
   ·go_wp2;refine bodyPost_ret (v:=.tuple #[.agg #[.slice none 0 0,.int .i64 0,.slice none 0 0,.slice none 0 0],.int .i64 15]) (by simp[results,Tryz.results120,go_sem,r0,r1,r2,r3]) rfl ?_;rw[show endP (bs,false) (ss,ok2) (mooreL 1)=(zeroT,15) from rfl];exact⟨none,0,none,0,none,0,rfl,TotR.zero _,below_set4 hO10.out (Nat.le_refl _) _ _ _ _⟩
   cases ok2
   ·go_wp2;refine bodyPost_ret (v:=.tuple #[.agg #[.slice none 0 0,.int .i64 0,.slice none 0 0,.slice none 0 0],.int .i64 15]) (by simp[results,Tryz.results120,go_sem,r0,r1,r2,r3,hne]) rfl ?_;rw[show endP (bs,true) (ss,false) (mooreL 1)=(zeroT,15) from rfl];exact⟨none,0,none,0,none,0,rfl,TotR.zero _,below_set4 hO10.out (Nat.le_refl _) _ _ _ _⟩
   go_wp2_with fail;refine (right_anyT A1 A3 A4 a1 a3 a4 ⟨(mooreL 1),2,bs,ss⟩ _ hT.out).mono ?_;rintro e w5 ⟨rfl,hb5⟩;have br9:=br8.below hb5 br8.lt;have bt8:=bt7.below hb5 bt7.lt;have hO11:=hO10.out.trans (hb5.mono hO10.out.size);have r0:=br9.cell_ 0 _ rfl;have r1:=br9.cell_ 1 _ rfl;have r2:=br9.cell_ 2 _ rfl;have r3:=br9.cell_ 3 _ rfl;have g0:=br9.frozen 0;have g1:=br9.frozen 1;have g2:=br9.frozen 2;have g3:=br9.frozen 3;have t0:=bt8.cell_ 0 _ rfl;have t1:=bt8.cell_ 1 _ rfl;have t2:=bt8.cell_ 2 _ rfl;have t3:=bt8.cell_ 3 _ rfl;have hT2:=hid (hT.out.ext hb5);have hO12:=hid hO11;clear hO11 hb5 hT br8 bt7;cases k9:rightT ⟨(mooreL 1),2,bs,ss⟩
   ·go_wp2;refine bodyPost_ret (v:=.tuple #[.agg #[.slice none 0 0,.int .i64 0,.slice none 0 0,.slice none 0 0],.int .i64 5]) (by simp[results,Tryz.results120,go_sem,r0,r1,r2,r3]) rfl ?_;rw[show endP (bs,true) (ss,true) (mooreL 1)=(zeroT,5) from by simp only[endP,k9];rfl];exact⟨none,0,none,0,none,0,rfl,TotR.zero _,below_set4 hO12.out (Nat.le_refl _) _ _ _ _⟩
   ·go_wp2;refine bodyPost_ret (v:=.tuple #[.agg #[.slice A1 (mooreL 1).length a1,.int .i64 2,.slice A3 bs.length a3,.slice A4 ss.length a4],.int .i64 0]) (by simp[results,Tryz.results120,go_sem,r0,r1,r2,r3]) rfl ?_;rw[show endP (bs,true) (ss,true) (mooreL 1)=(⟨(mooreL 1),2,bs,ss⟩,0) from by simp only[endP,k9];rfl];exact⟨A1,a1,A3,a3,A4,a4,rfl,hT2.out.set48 hnh hn3r hn4r _ _ _ _,below_set4 hO12.out (Nat.le_refl _) _ _ _ _⟩
  ·rw[k3] at C6;simp only[if_true];have hcv:(cutH8 sv).length≤sv.length:=trimSuffix_len8 _ _;generalize cutH8 sv=sw at *;have C5:=fun w=>digitsL_any sw w (by omega) (by omega);generalize digL sw=ds at *;obtain⟨ss,ok2⟩:=ds;dsimp only at *;have H2:=hid (And.intro C3 (And.intro C4 (And.intro C5 C6)));clear C3 C4 C5 C6;go_enter Tryz.func120,Tryz.ntmps120;go_wp2_with fail;refine (H.out.1 _).mono ?_;rintro e w1 ⟨rfl,rfl⟩;go_wp2_with fail;refine (H.out.2 _ hg0 (by omega)).mono ?_;rintro e w1 ⟨rfl,q1,rfl⟩;have hO1:=below_drewN hO q1;have br0:Blk ((w.alloc (.cells #[.slice none 0 0,.int .i64 0,.slice none 0 0,.slice none 0 0] 144)).drewN q1) w.heap.size 144 #[.slice none 0 0,.int .i64 0,.slice none 0 0,.slice none 0 0]:=(Blk.new w 144 #[.slice none 0 0,.int .i64 0,.slice none 0 0,.slice none 0 0]).drewN q1;go_wp2_with fail;refine (moore_one _).mono ?_;rintro e w1 ⟨A1,a1,rfl,hp1,hn1,hb1⟩;have hO2:=hO1.trans (hb1.mono hO1.size);have br1:=br0.below hb1 br0.lt;have hlt1:=br1.lt;have hn1':NewA (w.heap.size+1) A1:=hn1.mono (by simp);clear br0 hn1;have bt1:Blk (w1.alloc (.cells #[.slice A1 (mooreL 1).length a1,.int .i64 2,.slice none 0 0,.slice none 0 0] 144)) w1.heap.size 144 #[.slice A1 (mooreL 1).length a1,.int .i64 2,.slice none 0 0,.slice none 0 0]:=Blk.new _ _ _;have br2:=br1.alloc (.cells #[.slice A1 (mooreL 1).length a1,.int .i64 2,.slice none 0 0,.slice none 0 0] 144);have hO3:=hO2.alloc hO2.size (.cells #[.slice A1 (mooreL 1).length a1,.int .i64 2,.slice none 0 0,.slice none 0 0] 144);have hp1':=hp1.ext ((Below.refl _ _).alloc (Nat.le_refl _) (.cells #[.slice A1 (mooreL 1).length a1,.int .i64 2,.slice none 0 0,.slice none 0 0] 144));go_wp2_with fail;refine (H2.out.1 _ (by omega)).mono ?_;rintro e w2 ⟨rfl,rfl⟩;go_wp2_with fail;refine (H2.out.2.2.2 _ (by omega)).mono ?_;rintro e w2 ⟨rfl,rfl⟩;go_wp2_with fail;refine (hex_any _).mono ?_;rintro e w2 ⟨A2,a2,rfl,hp2,hn2,hb2⟩;have bt2:=bt1.below hb2 bt1.lt;have br3:=br2.below hb2 br2.lt;have hO4:=hO3.trans (hb2.mono hO3.size);have c0:=bt2.cell_ 0 _ rfl;have f0:=bt2.frozen 0;have hn2t:NewA (w1.heap.size+1) A2:=hn2.mono (by simp);have hnh:NewA (w.heap.size+1) A2:=hn2.mono (by simp;omega);have bt3:Blk (w2.setCell ⟨w1.heap.size,0,none⟩ (.slice A2 hexL.length a2)) w1.heap.size 144 #[.slice A2 hexL.length a2,.int .i64 2,.slice none 0 0,.slice none 0 0]:=bt2.set_ 0 _;have br4:=br3.far (p:=⟨w1.heap.size,0,none⟩) (by simp;omega) (.slice A2 hexL.length a2);have hO5:=hO4.setCell (p:=⟨w1.heap.size,0,none⟩) (by simp;omega) (.slice A2 hexL.length a2);have hfar:∀ (W:World) (i:Nat) (u:Value),Pts W A2 hexL→Pts (W.setCell ⟨w1.heap.size,i,none⟩ u) A2 hexL:=fun W i u h=>h.set_new hn2t (by simp) u;have hph:=hfar w2 0 (.slice A2 hexL.length a2) hp2;clear bt1 br1 br2 hb2 hO2 hO3 hn1' hp1' hp1 hn2 hn2t hb1 hO1 hp2 hO4 bt2 br3;go_wp2_with fail;refine (H2.out.2.1 _).mono ?_;rintro e w3 ⟨A3,a3,rfl,hi3,hn3,hb3⟩;have bt4:=bt3.below hb3 bt3.lt;have br5:=br4.below hb3 br4.lt;have hO6:=hO5.trans (hb3.mono hO5.size);have hph4:=hph.ext hb3;have hn3t:NewA (w1.heap.size+1) A3:=hn3.mono (Nat.succ_le_of_lt bt3.lt);have hn3r:NewA (w.heap.size+1) A3:=hn3.mono (Nat.succ_le_of_lt br4.lt);have c2:=bt4.cell_ 2 _ rfl;have f2:=bt4.frozen 2;have bt5:Blk (w3.setCell ⟨w1.heap.size,2,none⟩ (.slice A3 bs.length a3)) w1.heap.size 144 #[.slice A2 hexL.length a2,.int .i64 2,.slice A3 bs.length a3,.slice none 0 0]:=bt4.set_ 2 _;have br6:=br5.far (p:=⟨w1.heap.size,2,none⟩) (by simp;omega) (.slice A3 bs.length a3);have hO7:=hO6.setCell (p:=⟨w1.heap.size,2,none⟩) (by simp;omega) (.slice A3 bs.length a3);have hph5:=hfar w3 2 (.slice A3 bs.length a3) hph4;have hi5:=hi3.set_new hn3t (p:=⟨w1.heap.size,2,none⟩) (by simp) (.slice A3 bs.length a3)
   clear bt3 br4 hO5 hph hb3 hi3 hph4 hO6 bt4 br5 hn3;go_wp2_with fail;refine (H2.out.2.2.1 _).mono ?_;rintro e w4 ⟨A4,a4,rfl,hi4,hn4,hb4⟩;have bt6:=bt5.below hb4 bt5.lt;have br7:=br6.below hb4 br6.lt;have hO8:=hO7.trans (hb4.mono hO7.size);have hph6:=hph5.ext hb4;have hi6:=hi5.ext hb4;have hn4t:NewA (w1.heap.size+1) A4:=hn4.mono (Nat.succ_le_of_lt bt5.lt);have hn4r:NewA (w.heap.size+1) A4:=hn4.mono (Nat.succ_le_of_lt br6.lt);have c3:=bt6.cell_ 3 _ rfl;have f3:=bt6.frozen 3;have bt7:Blk (w4.setCell ⟨w1.heap.size,3,none⟩ (.slice A4 ss.length a4)) w1.heap.size 144 #[.slice A2 hexL.length a2,.int .i64 2,.slice A3 bs.length a3,.slice A4 ss.length a4]:=bt6.set_ 3 _;have br8:=br7.far (p:=⟨w1.heap.size,3,none⟩) (by simp;omega) (.slice A4 ss.length a4);have hO9:=hO8.setCell (p:=⟨w1.heap.size,3,none⟩) (by simp;omega) (.slice A4 ss.length a4);have hph7:=hfar w4 3 (.slice A4 ss.length a4) hph6;have hi7:=hi6.set_new hn3t (p:=⟨w1.heap.size,3,none⟩) (by simp) (.slice A4 ss.length a4);have hj7:=hi4.set_new hn4t (p:=⟨w1.heap.size,3,none⟩) (by simp) (.slice A4 ss.length a4);have r0:=br7.cell_ 0 _ rfl;have r1:=br7.cell_ 1 _ rfl;have r2:=br7.cell_ 2 _ rfl;have r3:=br7.cell_ 3 _ rfl;have g0:=br7.frozen 0;have g1:=br7.frozen 1;have g2:=br7.frozen 2;have g3:=br7.frozen 3;have t0:=bt6.cell_ 0 _ rfl;have t1:=bt6.cell_ 1 _ rfl;have t2:=bt6.cell_ 2 _ rfl;have hO10:=hid hO9;have hT:=hid (TotR.mk hph7 hi7 hj7:TotR (w4.setCell ⟨w1.heap.size,3,none⟩ (.slice A4 ss.length a4)) A2 A3 A4 ⟨hexL,2,bs,ss⟩);have hne:¬ w1.heap.size=w.heap.size:=by omega
   clear bt5 br6 hO7 hph5 hb4 hi4 hph6 hO8 bt6 br7 hn4 hi5 hi6 c2 f2 hph7 hi7 hj7 hO9 hfar;cases ok1
   ·go_wp2;refine bodyPost_ret (v:=.tuple #[.agg #[.slice none 0 0,.int .i64 0,.slice none 0 0,.slice none 0 0],.int .i64 15]) (by simp[results,Tryz.results120,go_sem,r0,r1,r2,r3]) rfl ?_;rw[show endP (bs,false) (ss,ok2) hexL=(zeroT,15) from rfl];exact⟨none,0,none,0,none,0,rfl,TotR.zero _,below_set4 hO10.out (Nat.le_refl _) _ _ _ _⟩
   cases ok2
   ·go_wp2;refine bodyPost_ret (v:=.tuple #[.agg #[.slice none 0 0,.int .i64 0,.slice none 0 0,.slice none 0 0],.int .i64 15]) (by simp[results,Tryz.results120,go_sem,r0,r1,r2,r3,hne]) rfl ?_;rw[show endP (bs,true) (ss,false) hexL=(zeroT,15) from rfl];exact⟨none,0,none,0,none,0,rfl,TotR.zero _,below_set4 hO10.out (Nat.le_refl _) _ _ _ _⟩
   go_wp2_with fail;refine (right_anyT A2 A3 A4 a2 a3 a4 ⟨hexL,2,bs,ss⟩ _ hT.out).mono ?_;rintro e w5 ⟨rfl,hb5⟩;have br9:=br8.below hb5 br8.lt;have bt8:=bt7.below hb5 bt7.lt;have hO11:=hO10.out.trans (hb5.mono hO10.out.size);have r0:=br9.cell_ 0 _ rfl;have r1:=br9.cell_ 1 _ rfl;have r2:=br9.cell_ 2 _ rfl;have r3:=br9.cell_ 3 _ rfl;have g0:=br9.frozen 0;have g1:=br9.frozen 1;have g2:=br9.frozen 2;have g3:=br9.frozen 3;have t0:=bt8.cell_ 0 _ rfl;have t1:=bt8.cell_ 1 _ rfl;have t2:=bt8.cell_ 2 _ rfl;have t3:=bt8.cell_ 3 _ rfl;have hT2:=hid (hT.out.ext hb5);have hO12:=hid hO11;clear hO11 hb5 hT br8 bt7;cases k9:rightT ⟨hexL,2,bs,ss⟩
   ·go_wp2;refine bodyPost_ret (v:=.tuple #[.agg #[.slice none 0 0,.int .i64 0,.slice none 0 0,.slice none 0 0],.int .i64 5]) (by simp[results,Tryz.results120,go_sem,r0,r1,r2,r3]) rfl ?_;rw[show endP (bs,true) (ss,true) hexL=(zeroT,5) from by simp only[endP,k9];rfl];exact⟨none,0,none,0,none,0,rfl,TotR.zero _,below_set4 hO12.out (Nat.le_refl _) _ _ _ _⟩
   ·go_wp2;refine bodyPost_ret (v:=.tuple #[.agg #[.slice A2 hexL.length a2,.int .i64 2,.slice A3 bs.length a3,.slice A4 ss.length a4],.int .i64 0]) (by simp[results,Tryz.results120,go_sem,r0,r1,r2,r3]) rfl ?_;rw[show endP (bs,true) (ss,true) hexL=(⟨hexL,2,bs,ss⟩,0) from by simp only[endP,k9];rfl];exact⟨A2,a2,A3,a3,A4,a4,rfl,hT2.out.set48 hnh hn3r hn4r _ _ _ _,below_set4 hO12.out (Nat.le_refl _) _ _ _ _⟩
 ·rw[k2] at C3;have hcv:(cutV8 sv).length≤sv.length:=trimSuffix_len8 _ _;generalize cutV8 sv=sw at *;simp only[if_true];have C5:=fun w=>digitsL_any sw w (by omega) (by omega);generalize digL sw=ds at *;obtain⟨ss,ok2⟩:=ds;dsimp only at *;have H2:=hid (And.intro C3 (And.intro C4 C5));clear C3 C4 C5;go_enter Tryz.func120,Tryz.ntmps120;go_wp2_with fail;refine (H.out.1 _).mono ?_;rintro e w1 ⟨rfl,rfl⟩;go_wp2_with fail;refine (H.out.2 _ hg0 (by omega)).mono ?_;rintro e w1 ⟨rfl,q1,rfl⟩;have hO1:=below_drewN hO q1;have br0:Blk ((w.alloc (.cells #[.slice none 0 0,.int .i64 0,.slice none 0 0,.slice none 0 0] 144)).drewN q1) w.heap.size 144 #[.slice none 0 0,.int .i64 0,.slice none 0 0,.slice none 0 0]:=(Blk.new w 144 #[.slice none 0 0,.int .i64 0,.slice none 0 0,.slice none 0 0]).drewN q1;go_wp2_with fail;refine (moore_one _).mono ?_;rintro e w1 ⟨A1,a1,rfl,hp1,hn1,hb1⟩;have hO2:=hO1.trans (hb1.mono hO1.size);have br1:=br0.below hb1 br0.lt;have hlt1:=br1.lt;have hn1':NewA (w.heap.size+1) A1:=hn1.mono (by simp);clear br0 hn1;have bt1:Blk (w1.alloc (.cells #[.slice A1 (mooreL 1).length a1,.int .i64 2,.slice none 0 0,.slice none 0 0] 144)) w1.heap.size 144 #[.slice A1 (mooreL 1).length a1,.int .i64 2,.slice none 0 0,.slice none 0 0]:=Blk.new _ _ _;have br2:=br1.alloc (.cells #[.slice A1 (mooreL 1).length a1,.int .i64 2,.slice none 0 0,.slice none 0 0] 144);have hO3:=hO2.alloc hO2.size (.cells #[.slice A1 (mooreL 1).length a1,.int .i64 2,.slice none 0 0,.slice none 0 0] 144);have hp1':=hp1.ext ((Below.refl _ _).alloc (Nat.le_refl _) (.cells #[.slice A1 (mooreL 1).length a1,.int .i64 2,.slice none 0 0,.slice none 0 0] 144));go_wp2_with fail;refine (H2.out.1 _ (by omega)).mono ?_;rintro e w2 ⟨rfl,rfl⟩;go_wp2_with fail;refine (neum_one _).mono ?_;rintro e w2 ⟨A2,a2,rfl,hp2,hn2,hb2⟩;have bt2:=bt1.below hb2 bt1.lt;have br3:=br2.below hb2 br2.lt;have hO4:=hO3.trans (hb2.mono hO3.size);have c0:=bt2.cell_ 0 _ rfl;have f0:=bt2.frozen 0;have hn2t:NewA (w1.heap.size+1) A2:=hn2.mono (by simp);have hnh:NewA (w.heap.size+1) A2:=hn2.mono (by simp;omega);have bt3:Blk (w2.setCell ⟨w1.heap.size,0,none⟩ (.slice A2 (neumL 1).length a2)) w1.heap.size 144 #[.slice A2 (neumL 1).length a2,.int .i64 2,.slice none 0 0,.slice none 0 0]:=bt2.set_ 0 _;have br4:=br3.far (p:=⟨w1.heap.size,0,none⟩) (by simp;omega) (.slice A2 (neumL 1).length a2);have hO5:=hO4.setCell (p:=⟨w1.heap.size,0,none⟩) (by simp;omega) (.slice A2 (neumL 1).length a2);have hfar:∀ (W:World) (i:Nat) (u:Value),Pts W A2 (neumL 1)→Pts (W.setCell ⟨w1.heap.size,i,none⟩ u) A2 (neumL 1):=fun W i u h=>h.set_new hn2t (by simp) u;have hph:=hfar w2 0 (.slice A2 (neumL 1).length a2) hp2;clear bt1 br1 br2 hb2 hO2 hO3 hn1' hp1' hp1 hn2 hn2t hb1 hO1 hp2 hO4 bt2 br3;go_wp2_with fail;refine (H2.out.2.1 _).mono ?_;rintro e w3 ⟨A3,a3,rfl,hi3,hn3,hb3⟩;have bt4:=bt3.below hb3 bt3.lt;have br5:=br4.below hb3 br4.lt;have hO6:=hO5.trans (hb3.mono hO5.size);have hph4:=hph.ext hb3;have hn3t:NewA (w1.heap.size+1) A3:=hn3.mono (Nat.succ_le_of_lt bt3.lt);have hn3r:NewA (w.heap.size+1) A3:=hn3.mono (Nat.succ_le_of_lt br4.lt);have c2:=bt4.cell_ 2 _ rfl;have f2:=bt4.frozen 2;have bt5:Blk (w3.setCell ⟨w1.heap.size,2,none⟩ (.slice A3 bs.length a3)) w1.heap.size 144 #[.slice A2 (neumL 1).length a2,.int .i64 2,.slice A3 bs.length a3,.slice none 0 0]:=bt4.set_ 2 _;have br6:=br5.far (p:=⟨w1.heap.size,2,none⟩) (by simp;omega) (.slice A3 bs.length a3);have hO7:=hO6.setCell (p:=⟨w1.heap.size,2,none⟩) (by simp;omega) (.slice A3 bs.length a3);have hph5:=hfar w3 2 (.slice A3 bs.length a3) hph4;have hi5:=hi3.set_new hn3t (p:=⟨w1.heap.size,2,none⟩) (by simp) (.slice A3 bs.length a3);clear bt3 br4 hO5 hph hb3 hi3 hph4 hO6 bt4 br5 hn3;go_wp2_with fail
  refine (H2.out.2.2 _).mono ?_;rintro e w4 ⟨A4,a4,rfl,hi4,hn4,hb4⟩;have bt6:=bt5.below hb4 bt5.lt;have br7:=br6.below hb4 br6.lt;have hO8:=hO7.trans (hb4.mono hO7.size);have hph6:=hph5.ext hb4;have hi6:=hi5.ext hb4;have hn4t:NewA (w1.heap.size+1) A4:=hn4.mono (Nat.succ_le_of_lt bt5.lt);have hn4r:NewA (w.heap.size+1) A4:=hn4.mono (Nat.succ_le_of_lt br6.lt);have c3:=bt6.cell_ 3 _ rfl;have f3:=bt6.frozen 3;have bt7:Blk (w4.setCell ⟨w1.heap.size,3,none⟩ (.slice A4 ss.length a4)) w1.heap.size 144 #[.slice A2 (neumL 1).length a2,.int .i64 2,.slice A3 bs.length a3,.slice A4 ss.length a4]:=bt6.set_ 3 _;have br8:=br7.far (p:=⟨w1.heap.size,3,none⟩) (by simp;omega) (.slice A4 ss.length a4);have hO9:=hO8.setCell (p:=⟨w1.heap.size,3,none⟩) (by simp;omega) (.slice A4 ss.length a4);have hph7:=hfar w4 3 (.slice A4 ss.length a4) hph6;have hi7:=hi6.set_new hn3t (p:=⟨w1.heap.size,3,none⟩) (by simp) (.slice A4 ss.length a4);have hj7:=hi4.set_new hn4t (p:=⟨w1.heap.size,3,none⟩) (by simp) (.slice A4 ss.length a4);have r0:=br7.cell_ 0 _ rfl;have r1:=br7.cell_ 1 _ rfl;have r2:=br7.cell_ 2 _ rfl;have r3:=br7.cell_ 3 _ rfl;have g0:=br7.frozen 0;have g1:=br7.frozen 1;have g2:=br7.frozen 2;have g3:=br7.frozen 3;have t0:=bt6.cell_ 0 _ rfl;have t1:=bt6.cell_ 1 _ rfl;have t2:=bt6.cell_ 2 _ rfl;have hO10:=hid hO9;have hT:=hid (TotR.mk hph7 hi7 hj7:TotR (w4.setCell ⟨w1.heap.size,3,none⟩ (.slice A4 ss.length a4)) A2 A3 A4 ⟨(neumL 1),2,bs,ss⟩);have hne:¬ w1.heap.size=w.heap.size:=by omega
  clear bt5 br6 hO7 hph5 hb4 hi4 hph6 hO8 bt6 br7 hn4 hi5 hi6 c2 f2 hph7 hi7 hj7 hO9 hfar;cases ok1
  ·go_wp2;refine bodyPost_ret (v:=.tuple #[.agg #[.slice none 0 0,.int .i64 0,.slice none 0 0,.slice none 0 0],.int .i64 15]) (by simp[results,Tryz.results120,go_sem,r0,r1,r2,r3]) rfl ?_;rw[show endP (bs,false) (ss,ok2) (neumL 1)=(zeroT,15) from rfl];exact⟨none,0,none,0,none,0,rfl,TotR.zero _,below_set4 hO10.out (Nat.le_refl _) _ _ _ _⟩
  cases ok2
  ·go_wp2;refine bodyPost_ret (v:=.tuple #[.agg #[.slice none 0 0,.int .i64 0,.slice none 0 0,.slice none 0 0],.int .i64 15]) (by simp[results,Tryz.results120,go_sem,r0,r1,r2,r3,hne]) rfl ?_;rw[show endP (bs,true) (ss,false) (neumL 1)=(zeroT,15) from rfl];exact⟨none,0,none,0,none,0,rfl,TotR.zero _,below_set4 hO10.out (Nat.le_refl _) _ _ _ _⟩
  go_wp2_with fail;refine (right_anyT A2 A3 A4 a2 a3 a4 ⟨(neumL 1),2,bs,ss⟩ _ hT.out).mono ?_;rintro e w5 ⟨rfl,hb5⟩;have br9:=br8.below hb5 br8.lt;have bt8:=bt7.below hb5 bt7.lt;have hO11:=hO10.out.trans (hb5.mono hO10.out.size);have r0:=br9.cell_ 0 _ rfl;have r1:=br9.cell_ 1 _ rfl;have r2:=br9.cell_ 2 _ rfl;have r3:=br9.cell_ 3 _ rfl;have g0:=br9.frozen 0;have g1:=br9.frozen 1;have g2:=br9.frozen 2;have g3:=br9.frozen 3;have t0:=bt8.cell_ 0 _ rfl;have t1:=bt8.cell_ 1 _ rfl;have t2:=bt8.cell_ 2 _ rfl;have t3:=bt8.cell_ 3 _ rfl;have hT2:=hid (hT.out.ext hb5);have hO12:=hid hO11;clear hO11 hb5 hT br8 bt7;cases k9:rightT ⟨(neumL 1),2,bs,ss⟩
  ·go_wp2;refine bodyPost_ret (v:=.tuple #[.agg #[.slice none 0 0,.int .i64 0,.slice none 0 0,.slice none 0 0],.int .i64 5]) (by simp[results,Tryz.results120,go_sem,r0,r1,r2,r3]) rfl ?_;rw[show endP (bs,true) (ss,true) (neumL 1)=(zeroT,5) from by simp only[endP,k9];rfl];exact⟨none,0,none,0,none,0,rfl,TotR.zero _,below_set4 hO12.out (Nat.le_refl _) _ _ _ _⟩
  ·go_wp2;refine bodyPost_ret (v:=.tuple #[.agg #[.slice A2 (neumL 1).length a2,.int .i64 2,.slice A3 bs.length a3,.slice A4 ss.length a4],.int .i64 0]) (by simp[results,Tryz.results120,go_sem,r0,r1,r2,r3]) rfl ?_;rw[show endP (bs,true) (ss,true) (neumL 1)=(⟨(neumL 1),2,bs,ss⟩,0) from by simp only[endP,k9];rfl];exact⟨A2,a2,A3,a3,A4,a4,rfl,hT2.out.set48 hnh hn3r hn4r _ _ _ _,below_set4 hO12.out (Nat.le_refl _) _ _ _ _⟩
end Go.Proofs.YtcfelnhmifkelaaGreatDoor
