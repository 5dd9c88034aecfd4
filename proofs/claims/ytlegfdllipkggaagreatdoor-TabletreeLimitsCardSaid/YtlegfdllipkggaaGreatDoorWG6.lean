/-
  texts BldP Ctr RVal12 TabM TabP SameI WkM: parts of the proof; conditions stand with each theorem.
-/
import Derived.Test.YtlegfdllipkggaaGreatDoorWG3
import Derived.Test.YtlegfdllipkggaaGreatDoorWG5
import Derived.Test.YtlegfdllipkggaaGreatDoorWG4
import Derived.Test.YtlegfdllipkggaaGreatDoorWG1
namespace Go.Proofs.YtlegfdllipkggaaGreatDoor
set_option linter.unusedVariables false
set_option linter.unusedSimpArgs false

theorem val_growB {q:Nat}{A:List Nd}(hA:Lev q A (· < A.length))(ys:List Nd){L:Nat}{k:Int}(h0:0≤k)(h1:1≤L→k.toNat < A.length∧(ndAt A k.toNat).1=(L:Int)){ins:List Nat}(hl:ins.length=L)(hq:∀ t ∈ ins,t < q):val (A ++ ys) k ins=val A k ins:=by
 rcases Nat.eq_zero_or_pos L with hL | hL
 ·have:ins=[]:=List.eq_nil_of_length_eq_zero (by omega);subst this;rfl
 ·obtain⟨h2,h3⟩:=h1 hL;have:=(Eqv.app hA ys (ndAt A k.toNat).1.toNat k.toNat (by rw[h3];omega) h2).2 ins (by rw[ndAt_app_lt h2,h3,hl]) hq;rw[toNat_cast h0] at this;exact this
end Go.Proofs.YtlegfdllipkggaaGreatDoor
namespace Go.Proofs.YtlegfdllipkggaaGreatDoor
open Lib(hid)
set_option linter.unusedSimpArgs false
open Go.RowKit
set_option maxRecDepth 100000
set_option linter.unusedVariables false

def idxF {α:Type} [DecidableEq α] (p:α):Nat→List α→Int
 | _,[]=>-1
 | k,x :: l=>if x=p then (k:Int) else idxF p (k+1) l
theorem idxF_step {α:Type} [DecidableEq α] {p:α}{xs:List α}{k:Nat}(h:k < xs.length):idxF p k (xs.drop k)=if xs[k]=p then (k:Int) else idxF p (k+1) (xs.drop (k+1)):=by
 rw[List.drop_eq_getElem_cons h];rfl
theorem idxF_mem {α:Type} [DecidableEq α] {p:α}:∀ (xs:List α)(k:Nat),(0≤idxF p k xs ↔ p ∈ xs)
 | [],k=>by simp[idxF]
 | x :: l,k=>by
  unfold idxF;by_cases h:x=p
  ·rw[if_pos h];simp[h]
  ·rw[if_neg h,idxF_mem l (k+1)];simp[Ne.symm h]
set_option maxHeartbeats 800000 in
theorem iidx_any (A:Option Addr)(xs:List Int)(c:Nat)(n:Int)(w:World)(ha:Ints w A xs) :
  Calls Tryz.prog 67 #[.slice A xs.length c,.int .i64 n] w fun e w'=>e=.returned (.int .i64 (idxF n 0 xs))∧w'=w:=by
 have hn:=ha.le;go_enter Tryz.func67,Tryz.ntmps67;go_wp2
 go_loop [8] (fun i=>∃ k:Nat,k≤xs.length∧i=.int .i64 k∧Hid (idxF n 0 xs=idxF n k (xs.drop k))) (fun i=>xs.length - (intOf i).toNat)
 case atStart=>exact⟨0,Nat.zero_le _,rfl,hid rfl⟩
 case round=>
  obtain⟨k,hk,rfl,HT⟩:=hrel;by_cases hlt:k < xs.length
  ·obtain⟨b1,o1,rfl,-,hc⟩:=ha.at_ hlt;have hd:=idxF_step (p:=n) hlt;by_cases h1:xs[k]=n
   ·have HN:=hid (HT.out.trans (hd.trans (if_pos h1)));have d1:(n == xs[k])=true:=by simp[h1]
    clear hd h1 HT;go_wp2;go_ret;exact⟨ret_int HN.out.symm,rfl⟩
   ·have HN:=hid (HT.out.trans (hd.trans (if_neg h1)));have d1:(n == xs[k])=false:=by simp[Ne.symm h1]
    clear hd h1 HT;go_wp2
    go_round
    case rel=>exact⟨k+1,by omega,by go_num,HN⟩
    case measure=>simp[intOf];omega
  ·obtain rfl:k=xs.length:=by omega
   have hno:idxF n 0 xs = -1:=by rw[HT.out,List.drop_length];rfl
   have HN:=hid hno;clear hno HT;go_wp2;go_ret;exact⟨ret_int HN.out.symm,rfl⟩
set_option maxHeartbeats 800000 in
theorem contains_any (A:Option Addr)(xs:List Int)(c:Nat)(n:Int)(w:World)(ha:Ints w A xs) :
  Calls Tryz.prog 48 #[.slice A xs.length c,.int .i64 n] w fun e w'=>e=.returned (.bool (decide (n ∈ xs)))∧w'=w:=by
 have HI:=hid (iidx_any A xs c n w ha);have HM:=hid (idxF_mem (p:=n) xs 0);obtain⟨r,hr⟩:∃ r,r=idxF n 0 xs:=⟨_,rfl⟩
 rw[← hr] at HI HM;clear hr ha;go_enter Tryz.func48,Tryz.ntmps48;go_wp2_with fail;refine HI.out.mono ?_;rintro e w' ⟨rfl,rfl⟩;go_wp2;go_ret;exact⟨ret_bool (decide_eq_decide.2 HM.out),rfl⟩
set_option maxHeartbeats 800000 in
theorem pidx_any (A:Option Addr)(xs:List (Int × Int))(c:Nat)(a b:Int)(w:World)(ha:Pts w A xs) :
  Calls Tryz.prog 59 #[.slice A xs.length c,.agg #[.int .i64 a,.int .i64 b]] w fun e w'=>e=.returned (.int .i64 (idxF (a,b) 0 xs))∧Below w.heap.size w w':=by
 have hn:=ha.le;obtain⟨w0,hw0⟩:∃ w0,w0=w.alloc (.cells #[.int .i64 a,.int .i64 b] 56):=⟨_,rfl⟩
 have hb0:Below w.heap.size w w0:=by rw[hw0];exact below_new _ _
 have q0:Blk w0 w.heap.size 56 #[.int .i64 a,.int .i64 b]:=by rw[hw0];exact Blk.new _ _ _
 have d0:=q0.cell_ 0 (.int .i64 a) rfl;have d1:=q0.cell_ 1 (.int .i64 b) rfl;have hP:=ha.ext hb0;have HB0:=hid hb0;have HW0:=hid hw0;clear hb0 q0 hw0 ha;go_enter Tryz.func59,Tryz.ntmps59;go_upto_region 1 with fail
 rw[← HW0.out];go_wp2;go_loopw [8] (fun i wr=>∃ k q:Nat,k≤xs.length∧i=.int .i64 k∧wr=w0.drewN q∧Hid (idxF (a,b) 0 xs=idxF (a,b) k (xs.drop k))) (fun i _=>xs.length - (intOf i).toNat)
 case atStart=>exact⟨0,0,Nat.zero_le _,rfl,rfl,hid rfl⟩
 case round=>
  obtain⟨k,q,hk,rfl,rfl,HT⟩:=hrel;by_cases hlt:k < xs.length
  ·obtain⟨b1,o1,rfl,-,hc,hc'⟩:=hP.at_ hlt;have HD:=hid (HT.out.trans (idxF_step (p:=(a,b)) hlt));clear HT;have hst:=Tryz.stood_pt;have heg:=Tryz.guard_pt;have hnq:=eql_pt;go_wp2;go_quiet (fail)
   cases hpe:ptEq a b xs[k].1 xs[k].2 with
   | true=>
    have he:xs[k]=(a,b):=by
     unfold ptEq at hpe;simp at hpe;exact Prod.ext hpe.1.symm hpe.2.symm
    have HN:=hid (HD.out.trans (if_pos he));clear HD he;go_wp2;go_ret;exact⟨ret_int HN.out.symm,HB0.out.trans ((below_drewN (below_drewN (Below.refl _ _) _) _).mono HB0.out.size)⟩
   | false=>
    have he:¬ xs[k]=(a,b):=by
     unfold ptEq at hpe;intro e;rw[e] at hpe;simp at hpe
    have HN:=hid (HD.out.trans (if_neg he));clear HD he;go_wp2;go_roundw
    case rel=>exact⟨k+1,_,by omega,by go_num,rfl,HN⟩
    case measure=>simp[intOf];omega
  ·obtain rfl:k=xs.length:=by omega
   have hno:idxF (a,b) 0 xs = -1:=by rw[HT.out,List.drop_length];rfl
   have HN:=hid hno;clear hno HT;go_wp2;go_ret;exact⟨ret_int HN.out.symm,HB0.out.trans ((below_drewN (Below.refl _ _) _).mono HB0.out.size)⟩
set_option maxHeartbeats 800000 in
theorem ridx_any (A:Option Addr)(xs:List (Int × Int))(c:Nat)(a b:Int)(w:World)(ha:Pts w A xs) :
  Calls Tryz.prog 76 #[.slice A xs.length c,.agg #[.int .i64 a,.int .i64 b]] w fun e w'=>e=.returned (.int .i64 (idxF (a,b) 0 xs))∧Below w.heap.size w w':=by
 have hn:=ha.le;obtain⟨w0,hw0⟩:∃ w0,w0=w.alloc (.cells #[.int .i64 a,.int .i64 b] 56):=⟨_,rfl⟩
 have hb0:Below w.heap.size w w0:=by rw[hw0];exact below_new _ _
 have q0:Blk w0 w.heap.size 56 #[.int .i64 a,.int .i64 b]:=by rw[hw0];exact Blk.new _ _ _
 have d0:=q0.cell_ 0 (.int .i64 a) rfl;have d1:=q0.cell_ 1 (.int .i64 b) rfl;have hP:=ha.ext hb0;have HB0:=hid hb0;have HW0:=hid hw0;clear hb0 q0 hw0 ha;go_enter Tryz.func76,Tryz.ntmps76;go_upto_region 1 with fail
 rw[← HW0.out];go_wp2;go_loopw [5] (fun i wr=>∃ k q:Nat,k≤xs.length∧i=.int .i64 k∧wr=w0.drewN q∧Hid (idxF (a,b) 0 xs=idxF (a,b) k (xs.drop k))) (fun i _=>xs.length - (intOf i).toNat)
 case atStart=>exact⟨0,0,Nat.zero_le _,rfl,rfl,hid rfl⟩
 case round=>
  obtain⟨k,q,hk,rfl,rfl,HT⟩:=hrel;by_cases hlt:k < xs.length
  ·obtain⟨b1,o1,rfl,-,hc,hc'⟩:=hP.at_ hlt;have HD:=hid (HT.out.trans (idxF_step (p:=(a,b)) hlt));clear HT;have hst:=Tryz.stood_pt;have heg:=Tryz.guard_pt;have hnq:=eql_pt;go_wp2;go_quiet (fail)
   cases hpe:ptEq xs[k].1 xs[k].2 a b with
   | true=>
    have he:xs[k]=(a,b):=by
     unfold ptEq at hpe;simp at hpe;exact Prod.ext hpe.1 hpe.2
    have HN:=hid (HD.out.trans (if_pos he));clear HD he;go_wp2;go_ret;exact⟨ret_int HN.out.symm,HB0.out.trans ((below_drewN (below_drewN (Below.refl _ _) _) _).mono HB0.out.size)⟩
   | false=>
    have he:¬ xs[k]=(a,b):=by
     unfold ptEq at hpe;intro e;rw[e] at hpe;simp at hpe
    have HN:=hid (HD.out.trans (if_neg he));clear HD he;go_wp2;go_roundw
    case rel=>exact⟨k+1,_,by omega,by go_num,rfl,HN⟩
    case measure=>simp[intOf];omega
  ·obtain rfl:k=xs.length:=by omega
   have hno:idxF (a,b) 0 xs = -1:=by rw[HT.out,List.drop_length];rfl
   have HN:=hid hno;clear hno HT;go_wp2;go_ret;exact⟨ret_int HN.out.symm,HB0.out.trans ((below_drewN (Below.refl _ _) _).mono HB0.out.size)⟩
def ctrP (ps:List (Int × Int)):Int:=if hoodB ps=true then idxF (0,0) 0 ps else -1
set_option maxHeartbeats 800000 in
theorem centre_any (A:Option Addr)(ps:List (Int × Int))(c:Nat)(w:World)(ha:Pts w A ps) :
  Calls Tryz.prog 42 #[.slice A ps.length c] w fun e w'=>e=.returned (.int .i64 (ctrP ps))∧Below w.heap.size w w':=by
 have HH:=hid (hood_any A c ps w ha);have HX:=hid (fun W (hb:Below w.heap.size w W)=>pidx_any A ps c 0 0 W (ha.ext hb));have hn:=ha.le;cases hB:hoodB ps with
 | false=>
  have HE:Hid (ctrP ps = -1):=hid (by unfold ctrP;rw[hB];rfl);go_enter Tryz.func42,Tryz.ntmps42;go_wp2_with fail;refine HH.out.mono ?_;rintro e w1 ⟨rfl,hb1⟩;rw[hB];go_wp2;go_ret;exact⟨ret_int HE.out.symm,hb1⟩
 | true=>
  have HE:Hid (ctrP ps=idxF (0,0) 0 ps):=hid (by unfold ctrP;rw[hB];rfl);go_enter Tryz.func42,Tryz.ntmps42;go_wp2_with fail;refine HH.out.mono ?_;rintro e w1 ⟨rfl,hb1⟩;rw[hB];go_wp2_with fail;refine (HX.out w1 hb1).mono ?_;rintro e w2 ⟨rfl,hb2⟩;go_wp2;go_ret;exact⟨ret_int HE.out.symm,hb1.trans (hb2.mono hb1.size)⟩

set_option maxHeartbeats 4000000 in
theorem val12_any (st:Int)(A:Option Addr)(n c:Nat)(B:Option Addr)(d:Nat)(hs:List Hd)(Av:Option Addr)(cv:Nat)(ins:List Nat)(w:World)(hN:Nds w B hs)(hv:Ints w Av (ins.map fun (s:Nat)=>(s:Int)))
  (q:Nat) (hV:VNd q (hs.map Hd.nd)) (hp:0 < hs.length) (hroot:(ndAt (hs.map Hd.nd) (hs.length - 1)).1=(ins.length:Int)) (hq:∀ s ∈ ins,s < q) :
  Calls Tryz.prog 64 #[.agg #[.int .i64 st,.slice A n c,.slice B hs.length d],.slice Av ins.length cv] w fun e w'=>e=.returned (.int .i64 (val (hs.map Hd.nd) ((hs.length - 1:Nat):Int) ins))∧Below w.heap.size w w':=by
 obtain⟨w0,hw0⟩:∃ w0,w0=w.alloc (.cells #[.int .i64 st,.slice A n c,.slice B hs.length d] 31):=⟨_,rfl⟩
 have hb0:Below w.heap.size w w0:=by rw[hw0];exact below_new _ _
 have p0:Blk w0 w.heap.size 31 #[.int .i64 st,.slice A n c,.slice B hs.length d]:=by rw[hw0];exact Blk.new _ _ _
 have hlN:=hN.le;have hlI:=hv.le;rw[List.length_map] at hlI;obtain⟨N1,hN1⟩:∃ N1,N1=hs.length - 1:=⟨_,rfl⟩
 have hwN:wrap64 ((hs.length:Int) - 1)=(N1:Int):=by unfold wrap64;omega
 have HN1:Hid (N1 < hs.length):=hid (by omega);rw[← hN1] at hroot ⊢;obtain⟨r,hr⟩:∃ r,r=val (hs.map Hd.nd) (N1:Int) ins:=⟨_,rfl⟩
 rw[← hr];have HR:=hid hr;have HRT:=hid hroot;have HV:=hid hV;have HQ:=hid hq;have HB0:=hid hb0;have HP0:=hid p0;have HW0:=hid hw0;have HN:=hid (hN.ext hb0);have HI:=hid (hv.ext hb0);have HLI:=hid hlI;have c2:=p0.cell_ 2 (.slice B hs.length d) rfl;clear hb0 p0 hw0 hN hv hV hp hroot hq hr hN1 hlN hlI;go_enter Tryz.func64,Tryz.ntmps64;go_upto_region 1 with fail
 rw[← HW0.out];go_wp2;clear c2;go_loopw [5,6] (fun kv iv wr=>∃ (cur:Int) (i:Nat),kv=.int .i64 cur∧iv=.int .i64 i∧i≤ins.length∧Hid (Below w0.heap.size w0 wr)∧Hid (val (hs.map Hd.nd) cur (ins.drop i)=r)∧Hid (i < ins.length→0≤cur∧cur.toNat < hs.length∧(ndAt (hs.map Hd.nd) cur.toNat).1=((ins.length - i:Nat):Int))) (fun _ iv _=>ins.length - (intOf iv).toNat)
 case atStart=>exact⟨(N1:Int),0,(by first | rfl | (rw[hwN])),rfl,Nat.zero_le _,hid (Below.refl _ _),hid HR.out.symm,hid (fun _=>⟨Int.natCast_nonneg _,by rw[Int.toNat_natCast];exact HN1.out,by rw[Int.toNat_natCast];exact HRT.out⟩)⟩
 case round=>
  obtain⟨cur,i,rfl,rfl,hi,HBR,HVL,HC⟩:=hrel;clear hwN;have c2:=(HP0.out.below HBR.out HP0.out.lt).cell_ 2 (.slice B hs.length d) rfl;by_cases hil:i < ins.length
  ·have hwi:wrap64 ((i:Int)+1)=(i:Int)+1:=by have:=HLI.out;unfold wrap64;omega
   obtain⟨k0,k1,k2⟩:=HC.out hil;obtain⟨kn,hkn⟩:∃ kn:Nat,cur=kn:=⟨cur.toNat,(Int.toNat_of_nonneg k0).symm⟩
   subst hkn;rw[Int.toNat_natCast] at k1 k2;have hk1':kn < (hs.map Hd.nd).length:=by rw[List.length_map];exact k1
   obtain⟨b,o,e,-,g0,g1,gz⟩:=(HN.out.ext HBR.out).at_ k1;have hnd:=ndl_at hs k1;have hzl:=HV.out.lev.len kn hk1';have hkids:=HV.out.lev.kids kn hk1';obtain⟨x,hx⟩:∃ x,x=hs[kn]:=⟨_,rfl⟩
   rw[← hx] at g0 g1 gz hnd;obtain⟨lv,zA,zc,zs⟩:=x;dsimp only at g0 g1 gz;change ndAt (hs.map Hd.nd) kn=(lv,zs) at hnd;rw[hnd] at hzl hkids k2;dsimp only at hzl hkids k2;have hil2:i < (ins.map fun (s:Nat)=>(s:Int)).length:=by rw[List.length_map];exact hil
   obtain⟨b2,o2,e2,-,gi⟩:=(HI.out.ext HBR.out).at_ hil2;rw[List.getElem_map] at gi;have hsq:=HQ.out _ (List.getElem_mem hil);have hdrop:=List.drop_eq_getElem_cons hil;obtain⟨s,hs'⟩:∃ s,s=ins[i]:=⟨_,rfl⟩
   rw[← hs'] at gi hsq hdrop;have hsz:s < zs.length:=by rw[hzl];exact hsq
   obtain⟨b3,o3,e3,-,gk⟩:=gz.at_ hsz;have hgd:zs.getD s 0=zs[s]:=by rw[List.getD_eq_getElem?_getD,List.getElem?_eq_getElem hsz];rfl
   obtain⟨z,hz⟩:∃ z,z=zs[s]:=⟨_,rfl⟩
   have hzm:z ∈ zs:=by rw[hz];exact List.getElem_mem hsz
   rw[← hz] at gk hgd;have hv2:=HVL.out;rw[hdrop] at hv2;simp only[val,Int.toNat_natCast,hnd,hgd] at hv2;have HV2:=hid hv2;have HC2:Hid (i+1 < ins.length→0≤z∧z.toNat < hs.length∧(ndAt (hs.map Hd.nd) z.toNat).1=((ins.length - (i+1):Nat):Int)):=hid (fun h=>by
    obtain⟨m1,m2,m3⟩:=hkids (by omega) z hzm;rw[List.length_map] at m2;exact⟨m1,m2,by omega⟩)
   have HIL:=hid hil;have hsz2:=hsz;clear hx hs' hz hzm hkids hdrop hv2 k0 hgd hnd gz k2 hzl hsq hi;subst e e2 e3;go_upto_region 5 with fail
   go_quiet (fail)
   go_wp2;go_roundw
   case rel=>exact⟨z,i+1,rfl,(by first | rfl | (rw[hwi];rfl)),HIL.out,(by first | exact HBR | exact hid (HBR.out.drew) | exact hid (below_drewN HBR.out _)),HV2,HC2⟩
   case measure=>(try rw[hwi]);exact meas_step HIL.out
  ·have hie:i=ins.length:=Nat.le_antisymm hi (Nat.le_of_not_lt hil);have hv2:=HVL.out;rw[hie,List.drop_of_length_le (Nat.le_refl _)] at hv2;have HE:Hid (cur=r):=hid hv2;clear hie hv2 hi;go_wp2;go_ret;exact⟨ret_int (by rw[HE.out]),HB0.out.trans (HBR.out.mono HB0.out.size)⟩
end Go.Proofs.YtlegfdllipkggaaGreatDoor
namespace Go.Proofs.YtlegfdllipkggaaGreatDoor
open Go.RowKit
set_option maxRecDepth 100000
set_option linter.unusedVariables false
set_option linter.unusedSimpArgs false

abbrev Rw:=List Int × Int
structure Rh where
 A:Option Addr
 c:Nat
 zs:List Int
 out:Int
def Rh.val (h:Rh):Value:=.slice h.A h.zs.length h.c
def Rh.cells (h:Rh):List Value:=[.slice h.A h.zs.length h.c,.int .i64 h.out]
def Rh.rw_ (h:Rh):Rw:=(h.zs,h.out)
theorem rh2:∀ (hs:List Rh)(k:Nat)(hk:k < hs.length),(hs.flatMap Rh.cells)[2*k]?=some (.slice hs[k].A hs[k].zs.length hs[k].c)∧(hs.flatMap Rh.cells)[2*k+1]?=some (.int .i64 hs[k].out)
 | p :: ps,0,_=>by simp[Rh.cells]
 | p :: ps,k+1,hk=>by
  have h:=rh2 ps k (by simpa using hk);have e1:2*(k+1)=(2*k)+1+1:=by omega
  have e2:2*(k+1)+1=(2*k+1)+1+1:=by omega
  simp only[List.flatMap_cons,Rh.cells,List.cons_append,List.nil_append,e1,List.getElem?_cons_succ,List.getElem_cons_succ];exact h
theorem rh_len:∀ hs:List Rh,(hs.flatMap Rh.cells).length=hs.length*2
 | []=>rfl
 | p :: r=>by rw[List.flatMap_cons,List.length_append,rh_len r];simp[Rh.cells];omega
def Rws (w:World)(A:Option Addr)(hs:List Rh):Prop:=Reads w w.heap.size 2 A hs.length (hs.flatMap Rh.cells)∧hs.length≤9223372036854775807∧∀ h ∈ hs,Ints w h.A h.zs
section
variable {w w' : World} {A : Option Addr} {hs : List Rh}
theorem Rws.at_ {k:Nat}(h:Rws w A hs)(hk:k < hs.length):∃ b o,A=some ⟨b,o,none⟩∧b < w.heap.size∧w.cell? ⟨b,o+k*2,none⟩=some (.slice hs[k].A hs[k].zs.length hs[k].c)∧w.cell? ⟨b,o+k*2+1,none⟩=some (.int .i64 hs[k].out)∧Ints w hs[k].A hs[k].zs:=by
 obtain⟨ad,e,hb,hc⟩:=h.1.2 (by omega);obtain⟨f1,f2⟩:=rh2 hs k hk;obtain⟨f0,_⟩:=rh2 hs 0 (by omega);have h0:=hc _ _ f0;obtain⟨b,o,sp⟩:=ad;obtain rfl:=spot_none h0;refine⟨b,o,e,hb,?_,?_,h.2.2 _ (List.getElem_mem hk)⟩
 ·rw[Nat.mul_comm];have:=hc _ _ f1;rwa [addr_add] at this
 ·rw[Nat.mul_comm];have:=hc _ _ f2;rwa [addr_add] at this
theorem Rws.le (h:Rws w A hs):hs.length≤9223372036854775807:=h.2.1
theorem Rws.ext (h:Rws w A hs)(hb:Below w.heap.size w w'):Rws w' A hs:=⟨(Reads.below h.1 hb).more hb.size,h.2.1,fun x hx=>(h.2.2 x hx).ext hb⟩
theorem Rws.nil:Rws w A []:=⟨Reads.none_,by simp,fun _ h=>absurd h (by simp)⟩
end
def OwnR (T I:TypeId)(w:World)(base:Nat)(v:Value)(hs:List Rh):Prop:=w.ownsRow base T 2 v hs.length (hs.flatMap Rh.cells)∧∀ h ∈ hs,OwnI I w base h.val h.zs
section
variable {T I : TypeId} {w w' : World} {base : Nat} {v : Value} {hs : List Rh}
theorem OwnR.nil (T I:TypeId)(w:World)(base:Nat):OwnR T I w base (.slice none 0 0) []:=⟨World.ownsRow_nil _ _ _ _,fun _ h=>absurd h (by simp)⟩
theorem OwnR.rws (h:OwnR T I w base v hs):∃ A c,v=.slice A hs.length c∧Rws w A hs∧NewA base A:=by
 obtain⟨A,c,e,h1,h2⟩:=own_form h.1;exact⟨A,c,e,⟨h1.1,h1.2,fun x hx=>OwnI.reads (h.2 x hx)⟩,h2⟩
theorem OwnR.ext (h:OwnR T I w base v hs)(hb:Below w.heap.size w w'):OwnR T I w' base v hs:=⟨own_below h.1 hb,fun x hx=>(h.2 x hx).ext hb⟩
theorem OwnR.kept (h:OwnR T I w base v hs){S:Nat→Prop}(hk:Kept S w w')(hv:∀ g,v.ownBlock=some g→¬ S g)(hz:∀ x ∈ hs,∀ g,x.val.ownBlock=some g→¬ S g):OwnR T I w' base v hs:=
 ⟨hk.own h.1 hv,fun x hx=>hk.own (h.2 x hx) (hz x hx)⟩
end
structure Vh where
 A:Option Addr
 c:Nat
 zs:List Int
def Vh.val (h:Vh):Value:=.slice h.A h.zs.length h.c
def Vh.cells (h:Vh):List Value:=[.slice h.A h.zs.length h.c]
theorem vh1:∀ (hs:List Vh)(k:Nat)(hk:k < hs.length),(hs.flatMap Vh.cells)[k]?=some (.slice hs[k].A hs[k].zs.length hs[k].c)
 | p :: ps,0,_=>by simp[Vh.cells]
 | p :: ps,k+1,hk=>by
  have h:=vh1 ps k (by simpa using hk);simp only[List.flatMap_cons,Vh.cells,List.cons_append,List.nil_append,List.getElem?_cons_succ,List.getElem_cons_succ];exact h
theorem vh_len:∀ hs:List Vh,(hs.flatMap Vh.cells).length=hs.length*1
 | []=>rfl
 | p :: r=>by rw[List.flatMap_cons,List.length_append,vh_len r];simp[Vh.cells];omega
def Vrs (w:World)(A:Option Addr)(hs:List Vh):Prop:=Reads w w.heap.size 1 A hs.length (hs.flatMap Vh.cells)∧hs.length≤9223372036854775807∧∀ h ∈ hs,Ints w h.A h.zs
section
variable {w w' : World} {A : Option Addr} {hs : List Vh}
theorem Vrs.at_ {k:Nat}(h:Vrs w A hs)(hk:k < hs.length):∃ b o,A=some ⟨b,o,none⟩∧b < w.heap.size∧w.cell? ⟨b,o+k,none⟩=some (.slice hs[k].A hs[k].zs.length hs[k].c)∧Ints w hs[k].A hs[k].zs:=by
 obtain⟨ad,e,hb,hc⟩:=h.1.2 (by omega);have f1:=vh1 hs k hk;have f0:=vh1 hs 0 (by omega);have h0:=hc _ _ f0;obtain⟨b,o,sp⟩:=ad;obtain rfl:=spot_none h0;refine⟨b,o,e,hb,?_,h.2.2 _ (List.getElem_mem hk)⟩;have:=hc _ _ f1;rwa [addr_add] at this
theorem Vrs.le (h:Vrs w A hs):hs.length≤9223372036854775807:=h.2.1
theorem Vrs.ext (h:Vrs w A hs)(hb:Below w.heap.size w w'):Vrs w' A hs:=⟨(Reads.below h.1 hb).more hb.size,h.2.1,fun x hx=>(h.2.2 x hx).ext hb⟩
theorem Vrs.nil:Vrs w A []:=⟨Reads.none_,by simp,fun _ h=>absurd h (by simp)⟩
end
def OwnV (T I:TypeId)(w:World)(base:Nat)(v:Value)(hs:List Vh):Prop:=w.ownsRow base T 1 v hs.length (hs.flatMap Vh.cells)∧∀ h ∈ hs,OwnI I w base h.val h.zs
section
variable {T I : TypeId} {w w' : World} {base : Nat} {v : Value} {hs : List Vh}
theorem OwnV.nil (T I:TypeId)(w:World)(base:Nat):OwnV T I w base (.slice none 0 0) []:=⟨World.ownsRow_nil _ _ _ _,fun _ h=>absurd h (by simp)⟩
theorem OwnV.vrs (h:OwnV T I w base v hs):∃ A c,v=.slice A hs.length c∧Vrs w A hs∧NewA base A:=by
 obtain⟨A,c,e,h1,h2⟩:=own_form h.1;exact⟨A,c,e,⟨h1.1,h1.2,fun x hx=>OwnI.reads (h.2 x hx)⟩,h2⟩
theorem OwnV.ext (h:OwnV T I w base v hs)(hb:Below w.heap.size w w'):OwnV T I w' base v hs:=⟨own_below h.1 hb,fun x hx=>(h.2 x hx).ext hb⟩
theorem OwnV.kept (h:OwnV T I w base v hs){S:Nat→Prop}(hk:Kept S w w')(hv:∀ g,v.ownBlock=some g→¬ S g)(hz:∀ x ∈ hs,∀ g,x.val.ownBlock=some g→¬ S g):OwnV T I w' base v hs:=
 ⟨hk.own h.1 hv,fun x hx=>hk.own (h.2 x hx) (hz x hx)⟩
end
theorem OwnI.cut {I:TypeId}{w:World}{base g n c:Nat}{zs:List Int}(h:OwnI I w base (.slice (some ⟨g,0,none⟩) n c) zs)(hn:n=zs.length){m:Nat}(hm:m≤n):OwnI I w base (.slice (some ⟨g,0,none⟩) m c) (zs.take m):=by
 subst hn;obtain⟨h1,h2⟩:=h;have hl:(zs.take m).length=m:=by rw[List.length_take];exact Nat.min_eq_left hm
 unfold OwnI;rw[hl];refine⟨by rw[List.length_map,hl,Nat.mul_one],?_⟩;rcases h2 with ⟨e,-⟩ | ⟨g',cap,cur,e,h4,h5,h6,h7,h8,h9⟩
 ·cases e
 ·injection e with e1 e2 e3
  injection e1 with e1
  injection e1 with e1
  subst e1 e3;refine .inr ⟨g,c,cur,rfl,h4,h5,Nat.le_trans hm h6,h7,h8,?_⟩;have:=congrArg (List.take (m*1)) h9;rw[List.take_take,Nat.min_eq_left (by omega),← List.map_take,Nat.mul_one] at this;rw[Nat.mul_one];exact this
structure TabH where
 st:Int
 sym:Int
 hood:List (Int × Int)
 vs:List Vh
 rs:List Rh
structure TabL where
 st:Int
 sym:Int
 hood:List (Int × Int)
 vars:List (List Int)
 rows:List Rw
def TabH.tab (t:TabH):TabL:=⟨t.st,t.sym,t.hood,t.vs.map Vh.zs,t.rs.map Rh.rw_⟩
def tabV (hA:Option Addr)(hc:Nat)(vA:Option Addr)(vc:Nat)(rA:Option Addr)(rc:Nat)(t:TabH):Value:=
 .agg #[.int .i64 t.st,.int .i64 t.sym,.slice hA t.hood.length hc,.slice vA t.vs.length vc,.slice rA t.rs.length rc]
structure TabR (w:World)(hA vA rA:Option Addr)(t:TabH):Prop where
 hood:Pts w hA t.hood
 vars:Vrs w vA t.vs
 rows:Rws w rA t.rs
theorem TabR.ext {w w':World}{hA vA rA:Option Addr}{t:TabH}(h:TabR w hA vA rA t)(hb:Below w.heap.size w w'):TabR w' hA vA rA t:=⟨h.hood.ext hb,h.vars.ext hb,h.rows.ext hb⟩

def sameL (l:List Int):Bool:=l.all fun n=>decide (n=l.headD 0)
def skipR (c:Int)(ins:List Int)(out:Int):Bool:=if c < 0 then decide (out=0) else decide (ins.getD c.toNat 0=out)
def rowsT (ns:List Nd)(c:Int):Nat→List Int→Int→List Rw
 | 0,ins,k=>if skipR c ins k=true then [] else [(ins,k)]
 | L+1,ins,k=>if sameL (ndAt ns k.toNat).2=true then rowsT ns c L (ins ++ [-1 - (ins.length:Int)]) ((ndAt ns k.toNat).2.headD 0)
  else (List.range (ndAt ns k.toNat).2.length).flatMap fun (s:Nat)=>rowsT ns c L (ins ++ [(s:Int)]) ((ndAt ns k.toNat).2.getD s 0)
def rowsK (ns:List Nd)(c:Int)(L:Nat)(ins l:List Int)(j:Nat):List Rw:=(List.range j).flatMap fun (s:Nat)=>rowsT ns c L (ins ++ [(s:Int)]) (l.getD s 0)
theorem rowsK_step (ns:List Nd)(c:Int)(L:Nat)(ins l:List Int)(j:Nat):rowsK ns c L ins l (j+1)=rowsK ns c L ins l j ++ rowsT ns c L (ins ++ [(j:Int)]) (l.getD j 0):=by
 unfold rowsK;rw[List.range_succ,List.flatMap_append]
 simp
theorem rowsK_le (ns:List Nd)(c:Int)(L:Nat)(ins l:List Int){j m:Nat}(h:j≤m):(rowsK ns c L ins l j).length≤(rowsK ns c L ins l m).length:=by
 induction m with
 | zero=>
  obtain rfl:j=0:=by omega
  exact Nat.le_refl _
 | succ m ih=>
  rcases Nat.lt_or_ge m j with h1 | h1
  ·obtain rfl:j=m+1:=by omega
   exact Nat.le_refl _
  ·rw[rowsK_step,List.length_append];have:=ih h1;omega
theorem rowsT_all {ns:List Nd}{c:Int}{L:Nat}{ins:List Int}{k:Int}(h:sameL (ndAt ns k.toNat).2=true):rowsT ns c (L+1) ins k=rowsT ns c L (ins ++ [-1 - (ins.length:Int)]) ((ndAt ns k.toNat).2.headD 0):=by
 rw[rowsT,if_pos h]
theorem rowsT_each {ns:List Nd}{c:Int}{L:Nat}{ins:List Int}{k:Int}(h:sameL (ndAt ns k.toNat).2=false):rowsT ns c (L+1) ins k=rowsK ns c L ins (ndAt ns k.toNat).2 (ndAt ns k.toNat).2.length:=by
 rw[rowsT,if_neg (by rw[h];simp)];rfl
theorem sameL_no {l:List Int}{j:Nat}(hj:j < l.length)(h:¬ l[j]=l.headD 0):sameL l=false:=by
 unfold sameL;rw[List.all_eq_false];exact⟨l[j],List.getElem_mem hj,by simpa using h⟩
theorem sameL_yes {l:List Int}(h:∀ j (hj:j < l.length),l[j]=l.headD 0):sameL l=true:=by
 unfold sameL;rw[List.all_eq_true];intro n hn;obtain⟨j,hj,rfl⟩:=List.mem_iff_getElem.1 hn;simpa using h j hj
end Go.Proofs.YtlegfdllipkggaaGreatDoor
namespace Go.Proofs.YtlegfdllipkggaaGreatDoor
open Lib(hid)
open Go.RowKit
set_option maxRecDepth 100000
set_option linter.unusedVariables false
set_option linter.unusedSimpArgs false
set_option maxHeartbeats 4000000 in
theorem samei_any (A:Option Addr)(l:List Int)(c:Nat)(w:World)(ha:Ints w A l) :
  Calls Tryz.prog 62 #[.slice A l.length c] w fun e w'=>e=.returned (.bool (sameL l))∧w'=w:=by
 have hn:=ha.le;have HA:=hid ha;clear ha;go_enter Tryz.func62,Tryz.ntmps62;go_wp2;go_loopw [7] (fun iv wr=>∃ (j:Nat),j≤l.length∧iv=.int .i64 j∧wr=w∧Hid (∀ i (hi:i < l.length),i < j→l[i]=l.headD 0)) (fun iv _=>l.length - (intOf iv).toNat)
 case atStart=>exact⟨0,Nat.zero_le _,rfl,rfl,hid (fun i hi h=>by omega)⟩
 case round=>
  obtain⟨j,hj,rfl,rfl,HI⟩:=hrel;by_cases hjl:j < l.length
  ·have h0:0 < l.length:=by omega
   obtain⟨b,o,rfl,-,hc⟩:=HA.out.at_ hjl;obtain⟨b',o',e',-,hc0⟩:=HA.out.at_ h0;obtain⟨rfl,rfl⟩:b=b'∧o=o':=by injection e' with e';injection e' with h1 h2;exact⟨h1,h2⟩
   have hhd:l[0]=l.headD 0:=by
    cases l with
    | nil=>exact absurd h0 (by simp)
    | cons x r=>rfl
   obtain⟨x,hx⟩:∃ x,x=l[j]:=⟨_,rfl⟩
   obtain⟨y,hy⟩:∃ y,y=l.headD 0:=⟨_,rfl⟩
   rw[hhd,← hy,Nat.add_zero] at hc0;rw[← hx] at hc;have HX:=hid (And.intro hx hy);have HJ:=hid hjl;have hwj:wrap64 ((j:Int)+1)=(j:Int)+1:=by unfold wrap64;omega
   clear e' hhd hx hy;by_cases e:x=y
   ·have f1:(x == y)=true:=beq_iff_eq.2 e;have HE:=hid e;clear e;go_wp2;go_roundw
    case rel=>exact⟨j+1,HJ.out,(by first | rfl | (rw[hwj];rfl)),(by first | rfl | trivial),hid (fun i hi h=>by
     rcases Nat.lt_or_ge i j with h1 | h1
     ·exact HI.out i hi h1
     ·obtain rfl:i=j:=by omega
      rw[← HX.out.1,← HX.out.2];exact HE.out)⟩
    case measure=>(try rw[hwj]);exact meas_step HJ.out
   ·have f1:(x == y)=false:=beq_false_of_ne e;have HNO:Hid (sameL l=false):=hid (sameL_no HJ.out (by rw[← HX.out.1,← HX.out.2];exact e));clear e;go_wp2;go_ret;exact⟨ret_bool (by rw[HNO.out]),rfl⟩
  ·obtain rfl:j=l.length:=Nat.le_antisymm hj (Nat.le_of_not_lt hjl);have HY:Hid (sameL l=true):=hid (sameL_yes fun i hi=>HI.out i hi hi);clear hj hjl;go_wp2;go_ret;exact⟨ret_bool (by rw[HY.out]),rfl⟩
end Go.Proofs.YtlegfdllipkggaaGreatDoor
namespace Go.Proofs.YtlegfdllipkggaaGreatDoor
set_option linter.unusedSimpArgs false
open Go.RowKit Go.Maps
set_option maxRecDepth 100000
set_option linter.unusedVariables false

abbrev OwnRA (w:World)(base:Nat)(v:Value)(hs:List Rh):Prop:=OwnR 43 3 w base v hs
structure WkW (B p:Nat)(c0 c1 c2 c3:Value)(iv:Value)(ins:List Int)(rv:Value)(rs:List Rh)(w:World):Prop where
 blk:Blk w p 72 #[c0,c1,c2,c3,iv,rv]
 ir:OwnIA w B iv ins
 rr:OwnRA w B rv rs
 ap:∀ x ∈ rs,∀ g,iv.ownBlock=some g→x.val.ownBlock≠some g
 lo:B≤p
def TwkS (p:Nat)(iv rv:Value)(g:Nat):Prop:=g=p∨iv.ownBlock=some g∨rv.ownBlock=some g
structure Mv (p:Nat)(iv rv:Value)(w:World)(iv' rv':Value)(w':World):Prop where
 kept:Kept (TwkS p iv rv) w w'
 hi:∀ g,iv'.ownBlock=some g→iv.ownBlock=some g∨w.heap.size≤g
 hr:∀ g,rv'.ownBlock=some g→rv.ownBlock=some g∨w.heap.size≤g
section
variable {B p : Nat} {c0 c1 c2 c3 : Value} {iv iv1 iv2 : Value} {ins : List Int} {rv rv1 rv2 : Value} {rs : List Rh} {w w1 w2 : World}
theorem Mv.refl (p:Nat)(iv rv:Value)(w:World):Mv p iv rv w iv rv w:=⟨Kept.refl _ _,fun g h=>.inl h,fun g h=>.inl h⟩
theorem Mv.trans (h:Mv p iv rv w iv1 rv1 w1)(k:Mv p iv1 rv1 w1 iv2 rv2 w2):Mv p iv rv w iv2 rv2 w2:=by
 have hs:=h.kept.below.size;refine⟨⟨h.kept.below.trans k.kept.below,fun g hg hn=>?_⟩,fun g e=>?_,fun g e=>?_⟩
 ·refine (k.kept.block g (Nat.lt_of_lt_of_le hg hs) fun h2=>?_).trans (h.kept.block g hg hn);rcases h2 with h2 | h2 | h2
  ·exact hn (.inl h2)
  ·rcases h.hi g h2 with h3 | h3
   ·exact hn (.inr (.inl h3))
   ·omega
  ·rcases h.hr g h2 with h3 | h3
   ·exact hn (.inr (.inr h3))
   ·omega
 ·rcases k.hi g e with h3 | h3
  ·exact h.hi g h3
  ·exact .inr (by omega)
 ·rcases k.hr g e with h3 | h3
  ·exact h.hr g h3
  ·exact .inr (by omega)
theorem Mv.of_new (h:Below w.heap.size w w1):Mv p iv rv w iv rv w1:=⟨Kept.of_new _ h,fun g e=>.inl e,fun g e=>.inl e⟩
theorem WkW.ext (h:WkW B p c0 c1 c2 c3 iv ins rv rs w)(hb:Below w.heap.size w w1):WkW B p c0 c1 c2 c3 iv ins rv rs w1:=⟨h.blk.below hb h.blk.lt,h.ir.ext hb,h.rr.ext hb,h.ap,h.lo⟩
theorem WkW.lt_size (h:WkW B p c0 c1 c2 c3 iv ins rv rs w):B≤w.heap.size:=Nat.le_trans h.lo (Nat.le_of_lt h.blk.lt)
theorem WkW.below (h:WkW B p c0 c1 c2 c3 iv ins rv rs w)(m:Mv p iv rv w iv1 rv1 w1):Below B w w1:=m.kept.to_below h.lt_size fun g hg hs=>by
 rcases hs with hs | hs | hs
 ·have:=h.lo;omega
 ·have:=(own_lt' h.ir hs).2;omega
 ·have:=(own_lt' h.rr.1 hs).2;omega
theorem Mv.blk {g:Nat}{T:TypeId}{cs:Array Value}(m:Mv p iv rv w iv1 rv1 w1)(hb:Blk w g T cs)(h1:g≠p)(h2:iv.ownBlock≠some g)(h3:rv.ownBlock≠some g):Blk w1 g T cs:=
 m.kept.blk hb fun hs=>by
  rcases hs with hs | hs | hs
  ·exact h1 hs
  ·exact h2 hs
  ·exact h3 hs
theorem WkW.pushI (h:WkW B p c0 c1 c2 c3 iv ins rv rs w){z:Int}{iv':Value}(ho:OwnIA w1 B iv' (ins ++ [z]))(hk:Kept (fun g=>iv.ownBlock=some g) w w1)(hn:iv'.ownBlock=iv.ownBlock∨∃ g,iv'.ownBlock=some g∧w.heap.size≤g) :
  WkW B p c0 c1 c2 c3 iv' (ins ++ [z]) rv rs (w1.setCell ⟨p,4,none⟩ iv')∧Mv p iv rv w iv' rv (w1.setCell ⟨p,4,none⟩ iv'):=by
 have b1:=hk.blk h.blk (own_blk_ne' h.ir h.blk (by decide));have r1:OwnRA w1 B rv rs:=OwnR.kept h.rr hk (fun g e1 e2=>own_ne h.ir h.rr.1 (by decide) e2 e1) (fun x hx g e1 e2=>h.ap x hx g e2 e1);have k7:Kept (fun g=>g=p) w1 (w1.setCell ⟨p,4,none⟩ iv'):=(Kept.refl (fun g=>g=p) w1).setCell (p:=⟨p,4,none⟩) (Or.inl rfl) iv';refine⟨⟨b1.set_ 4 iv',k7.own ho (fun g e1 e2=>by subst e2;exact own_blk_ne' ho b1 (by decide) e1),OwnR.kept r1 k7 (fun g e1 e2=>by subst e2;exact own_blk_ne' r1.1 b1 (by decide) e1) (fun x hx g e1 e2=>by subst e2;exact own_blk_ne' (r1.2 x hx) b1 (by decide) e1),fun x hx g e1 e2=>?_,h.lo⟩,⟨?_,fun g e=>?_,fun g e=>.inl e⟩⟩
 ·rcases hn with hn | ⟨g',hg,hs⟩
  ·exact h.ap x hx g (by rw[← hn];exact e1) e2
  ·rw[hg] at e1;injection e1 with e1
   have:=(own_lt' (h.rr.2 x hx) e2).1;omega
 ·exact (hk.mono fun g _ e=>.inr (.inl e)).setCell (p:=⟨p,4,none⟩) (.inl (.inl rfl)) iv'
 ·rcases hn with hn | ⟨g',hg,hs⟩
  ·exact .inl (by rw[← hn];exact e)
  ·rw[hg] at e;injection e with e
   exact .inr (by omega)
theorem WkW.cutI {g n c:Nat}(h:WkW B p c0 c1 c2 c3 (.slice (some ⟨g,0,none⟩) n c) ins rv rs w)(hn:n=ins.length){m:Nat}(hm:m≤n) :
  WkW B p c0 c1 c2 c3 (.slice (some ⟨g,0,none⟩) m c) (ins.take m) rv rs (w.setCell ⟨p,4,none⟩ (.slice (some ⟨g,0,none⟩) m c))∧Mv p (.slice (some ⟨g,0,none⟩) n c) rv w (.slice (some ⟨g,0,none⟩) m c) rv (w.setCell ⟨p,4,none⟩ (.slice (some ⟨g,0,none⟩) m c)):=by
 have ho:=OwnI.cut h.ir hn hm;have k7:Kept (fun g=>g=p) w (w.setCell ⟨p,4,none⟩ (.slice (some ⟨g,0,none⟩) m c)):=(Kept.refl (fun g=>g=p) w).setCell (p:=⟨p,4,none⟩) (Or.inl rfl) _;refine⟨⟨h.blk.set_ 4 _,k7.own ho (fun g e1 e2=>by subst e2;exact own_blk_ne' ho h.blk (by decide) e1),OwnR.kept h.rr k7 (fun g e1 e2=>by subst e2;exact own_blk_ne' h.rr.1 h.blk (by decide) e1) (fun x hx g e1 e2=>by subst e2;exact own_blk_ne' (h.rr.2 x hx) h.blk (by decide) e1),h.ap,h.lo⟩,⟨k7.mono fun g _ e=>.inl e,fun g e=>.inl e,fun g e=>.inl e⟩⟩
theorem WkW.pushR (h:WkW B p c0 c1 c2 c3 iv ins rv rs w){x:Rh}{rv':Value}(hI:OwnIA w B x.val x.zs)(ho:OwnRA w1 B rv' (rs ++ [x]))(hk:Kept (fun g=>rv.ownBlock=some g) w w1)(hn:rv'.ownBlock=rv.ownBlock∨∃ g,rv'.ownBlock=some g∧w.heap.size≤g)
  (hx:∀ g,iv.ownBlock=some g→x.val.ownBlock≠some g) :
  WkW B p c0 c1 c2 c3 iv ins rv' (rs ++ [x]) (w1.setCell ⟨p,5,none⟩ rv')∧Mv p iv rv w iv rv' (w1.setCell ⟨p,5,none⟩ rv'):=by
 have b1:=hk.blk h.blk (own_blk_ne' h.rr.1 h.blk (by decide));have i1:=hk.own h.ir (fun g e1 e2=>own_ne h.ir h.rr.1 (by decide) e1 e2);have k7:Kept (fun g=>g=p) w1 (w1.setCell ⟨p,5,none⟩ rv'):=(Kept.refl (fun g=>g=p) w1).setCell (p:=⟨p,5,none⟩) (Or.inl rfl) rv';refine⟨⟨b1.set_ 5 rv',k7.own i1 (fun g e1 e2=>by subst e2;exact own_blk_ne' i1 b1 (by decide) e1),OwnR.kept ho k7 (fun g e1 e2=>by subst e2;exact own_blk_ne' ho.1 b1 (by decide) e1) (fun y hy g e1 e2=>by subst e2;exact own_blk_ne' (ho.2 y hy) b1 (by decide) e1),fun y hy g e1=>?_,h.lo⟩,⟨?_,fun g e=>.inl e,fun g e=>?_⟩⟩
 ·rcases List.mem_append.1 hy with hy | hy
  ·exact h.ap y hy g e1
  ·rw[List.mem_singleton.1 hy];exact hx g e1
 ·exact (hk.mono fun g _ e=>.inr (.inr e)).setCell (p:=⟨p,5,none⟩) (.inl (.inl rfl)) rv'
 ·rcases hn with hn | ⟨g',hg,hs⟩
  ·exact .inl (by rw[← hn];exact e)
  ·rw[hg] at e;injection e with e
   exact .inr (by omega)
end
def WkPost (B p:Nat)(c0 c1 c2 c3:Value)(ins:List Int)(tot:List Rw)(iv rv:Value)(w:World)(e:Ending)(w':World):Prop:=
 ∃ b iv' rv' rs',e=.returned (.bool b)∧WkW B p c0 c1 c2 c3 iv' ins rv' rs' w'∧(b=true→rs'.map Rh.rw_=tot∧tot.length≤400)∧(b=false→400 < tot.length)∧Mv p iv rv w iv' rv' w'
end Go.Proofs.YtlegfdllipkggaaGreatDoor
