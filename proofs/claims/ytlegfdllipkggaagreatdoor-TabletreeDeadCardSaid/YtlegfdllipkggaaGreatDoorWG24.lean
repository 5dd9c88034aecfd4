/-
  texts RSmall15 RWith: parts of the proof; conditions stand with each theorem.
-/
import Derived.Test.YtlegfdllipkggaaGreatDoorWG14
import Derived.Test.YtlegfdllipkggaaGreatDoorWG6
import Derived.Test.YtlegfdllipkggaaGreatDoorWG5
namespace Go.Proofs.YtlegfdllipkggaaGreatDoor
open Lib(hid)
open Go.RowKit
set_option maxRecDepth 100000
set_option linter.unusedVariables false
set_option linter.unusedSimpArgs false
set_option maxHeartbeats 4000000 in
theorem rsmall15_any (hA:Option Addr)(hc:Nat)(vA:Option Addr)(vc:Nat)(rA:Option Addr)(rc:Nat)(t:TabH)(q:Nat)(w:World)(hq:t.st=(q:Int))(hq1:1≤q)(hq8:q≤8)(hl:t.hood.length≤1000000) :
  Calls Tryz.prog 15 #[tabV hA hc vA vc rA rc t] w fun e w'=>e=.returned (.bool (smallP q t.hood.length))∧Below w.heap.size w w':=by
 obtain⟨st,sym,hood,vs,rs⟩:=t;unfold tabV;dsimp only at hq hl ⊢;subst hq;obtain⟨L,hL⟩:∃ L,L=hood.length:=⟨_,rfl⟩
 rw[← hL] at hl ⊢;obtain⟨w0,hw0⟩:∃ w0,w0=w.alloc (.cells #[.int .i64 (q:Int),.int .i64 sym,.slice hA L hc,.slice vA vs.length vc,.slice rA rs.length rc] 26):=⟨_,rfl⟩
 have hb0:Below w.heap.size w w0:=by rw[hw0];exact below_new _ _
 have p0:Blk w0 w.heap.size 26 #[.int .i64 (q:Int),.int .i64 sym,.slice hA L hc,.slice vA vs.length vc,.slice rA rs.length rc]:=by rw[hw0];exact Blk.new _ _ _
 obtain⟨gT,hgT⟩:∃ g,g=w.heap.size:=⟨_,rfl⟩
 rw[← hgT] at p0;have c0:=p0.cell_ 0 (.int .i64 (q:Int)) rfl;have c2:=p0.cell_ 2 (.slice hA L hc) rfl;have HB0:=hid hb0;have HW0:=hid (And.intro hw0 hgT);have HQ:=hid (And.intro hq1 hq8);have hl9:L≤9223372036854775807:=by omega
 have HLL:=hid hl;clear hb0 p0 hw0 hgT hL hq1 hq8 hl;go_enter Tryz.func15,Tryz.ntmps15;go_upto_region 2 with fail
 rw[← HW0.out.1,← HW0.out.2];go_wp2;go_loopw [3,4] (fun nv iv wr=>∃ (k n:Nat),k≤L∧iv=.int .i64 k∧nv=.int .i64 n∧w0=wr∧Hid (n=q ^ k∧n≤65536)) (fun _ iv _=>L - (intOf iv).toNat)
 case atStart=>exact⟨0,1,Nat.zero_le _,rfl,rfl,rfl,hid ⟨by simp,by decide⟩⟩
 case round=>
  obtain⟨k,n,hk,rfl,rfl,rfl,HN⟩:=hrel;by_cases hkl:k < L
  ·have HK:=hid hkl;have hwk:wrap64 ((k:Int)+1)=(k:Int)+1:=by have:=HLL.out;unfold wrap64;omega
   have HWK:=hid hwk;obtain⟨m,hm⟩:∃ m,m=n*q:=⟨_,rfl⟩
   have hm8:m≤524288:=by rw[hm];exact Nat.le_trans (Nat.mul_le_mul HN.out.2 HQ.out.2) (by decide)
   have hmi:(n:Int)*(q:Int)=(m:Int):=by rw[hm,Int.natCast_mul]
   have hwm:wrap64 ((n:Int)*(q:Int))=(m:Int):=by rw[hmi];unfold wrap64;omega
   have HWM:=hid hwm;have HM:Hid (m=q ^ (k+1)):=hid (by rw[hm,HN.out.1,Nat.pow_succ]);clear hk hwk hm;by_cases hb:65536 < m
   ·have db:decide ((65536:Int) < (m:Int))=true:=decide_eq_true (by omega);have db':decide (65536 < m)=true:=decide_eq_true hb;have HF:Hid (smallP q L=false):=hid (decide_eq_false (by
     have h1:q ^ (k+1)≤q ^ L:=Nat.pow_le_pow_right HQ.out.1 HK.out;rw[← HM.out] at h1;omega))
    clear hb hm8 hmi;go_wp2;go_ret;exact⟨ret_bool HF.out.symm,HB0.out⟩
   ·have db:decide ((65536:Int) < (m:Int))=false:=decide_eq_false (by omega);have db':decide (65536 < m)=false:=decide_eq_false hb;have HN2:Hid (m=q ^ (k+1)∧m≤65536):=hid ⟨HM.out,by omega⟩;clear hb hm8 hmi;go_wp2;go_roundw
    case rel=>exact⟨k+1,m,HK.out,(by first | rfl | (rw[HWK.out];rfl)),(by first | rfl | (rw[HWM.out])),(by first | rfl | trivial),HN2⟩
    case measure=>(try rw[HWK.out]);exact meas_step HK.out
  ·obtain rfl:k=L:=Nat.le_antisymm hk (Nat.le_of_not_lt hkl);have HF:Hid (smallP q k=true):=hid (decide_eq_true (by rw[← HN.out.1];exact HN.out.2));clear hk hkl;go_wp2;go_ret;exact⟨ret_bool HF.out.symm,HB0.out⟩
set_option maxHeartbeats 8000000 in
theorem with_any (A:Option Addr)(c:Nat)(zs:List Int)(z:Int)(w:World)(hz:Ints w A zs)(hl:zs.length < 1000000000) :
  Calls Tryz.prog 55 #[.slice A zs.length c,.int .i64 z] w fun e w'=>∃ v,e=.returned v∧OwnIA w' w.heap.size v (zs ++ [z])∧Below w.heap.size w w':=by
 have HZ:=hid hz;have HL:=hid hl;clear hz hl;go_enter Tryz.func55,Tryz.ntmps55;go_wp2;go_loopw [5,6] (fun lv iv wr=>∃ (i:Nat),i≤zs.length∧iv=.int .i64 i∧Hid (OwnIA wr w.heap.size lv (zs.take i))∧Hid (Below w.heap.size w wr)) (fun _ iv _=>zs.length - (intOf iv).toNat)
 case atStart=>exact⟨0,Nat.zero_le _,rfl,hid (OwnI.nil _ _ _),hid (Below.refl _ _)⟩
 case round=>
  obtain⟨i,hi,rfl,HO,HB⟩:=hrel;by_cases hil:i < zs.length
  ·obtain⟨b1,o1,rfl,-,hc⟩:=(HZ.out.ext HB.out).at_ hil;obtain⟨y,hy⟩:∃ y,y=zs[i]:=⟨_,rfl⟩
   rw[← hy] at hc;have hwi:wrap64 ((i:Int)+1)=(i:Int)+1:=by have:=HL.out;unfold wrap64;omega
   have HI:=hid hil;have HY:=hid hy;have hown:=HO.out;have hln:(zs.take i).length < 1000000000000:=by rw[List.length_take];have:=HL.out;omega
   have hbs:=HB.out.size;clear hi hy;go_wp2_with (at_builtin;refine wpList_pushI rfl _ _ _ rfl w.heap.size 3 Tryz.underlying38 Tryz.infoInt _ _ rfl hown _ rfl hln hbs ?_);intro v' w7 ho' hb';have HO7:Hid (OwnIA w7 w.heap.size v' (zs.take (i+1))):=hid (by rw[List.take_add_one,List.getElem?_eq_getElem HI.out,← HY.out];exact ho');have HB7:=hid (HB.out.trans hb');clear ho' hb' hown hln hbs hc;go_wp2;go_roundw
   case rel=>exact⟨i+1,HI.out,(by first | rfl | (rw[hwi];rfl)),HO7,HB7⟩
   case measure=>(try rw[hwi]);exact meas_step HI.out
  ·obtain rfl:i=zs.length:=Nat.le_antisymm hi (Nat.le_of_not_lt hil);have hown:=HO.out;rw[List.take_length] at hown;have hln:zs.length < 1000000000000:=by have:=HL.out;omega
   have hbs:=HB.out.size;clear hi hil HO;go_wp2_with (at_builtin;refine wpList_pushI rfl _ _ _ rfl w.heap.size 3 Tryz.underlying38 Tryz.infoInt _ _ rfl hown _ rfl hln hbs ?_);intro v' w7 ho' hb';have HO7:=hid ho';have HB7:=hid (HB.out.trans hb');clear ho' hb' hown hln hbs;go_wp2;go_ret;exact⟨v',rfl,HO7.out,HB7.out⟩
end Go.Proofs.YtlegfdllipkggaaGreatDoor
