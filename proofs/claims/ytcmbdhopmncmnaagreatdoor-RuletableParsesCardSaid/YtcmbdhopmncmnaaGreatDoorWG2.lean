/-
  texts App Syms Permit R04 Has Bind Plain: parts of the proof; conditions stand with each theorem.
-/
import Derived.Test.YtcmbdhopmncmnaaGreatDoorWG1
import Derived.Lib.QuietBelow
import Derived.Test.YtcmbdhopmncmnaaGreatDoorWG0
namespace Go.Proofs.YtcmbdhopmncmnaaGreatDoor
open Lib(hid)
open Go.RowKit
set_option maxRecDepth 100000
set_option linter.unusedVariables false
set_option linter.unusedSimpArgs false

theorem Tryz.sizePoint:(Tryz.prog.info? 43).map (·.size)=some 2:=by kernel_rfl
def matL:List Int:=[1,0,0,1,0,-1,1,0,-1,0,0,-1,0,1,-1,0,-1,0,0,1,0,-1,-1,0,1,0,0,-1,0,1,1,0]
def GMat (w:World):Prop:=1 < w.heap.size∧∀ i,i < 32→w.cell? ⟨1,i,none⟩=some (.int .i64 (matL.getD i 0))
theorem GMat.ext {w w':World}(h:GMat w)(hb:Below w.heap.size w w'):GMat w':=⟨Nat.lt_of_lt_of_le h.1 hb.size,fun i hi=>(hb.cell (p:=⟨1,i,none⟩) h.1).trans (h.2 i hi)⟩
def symJ (k:Int):Nat:=(k % 8).toNat
theorem symJ_lt (k:Int):symJ k < 8:=by unfold symJ;omega
def symP (k:Int)(p:Int × Int):Int × Int:=(matL.getD (symJ k*4) 0*p.1+matL.getD (symJ k*4+1) 0*p.2,matL.getD (symJ k*4+2) 0*p.1+matL.getD (symJ k*4+3) 0*p.2)
theorem and_seven (k:Int):bits .and .i64 k 7=((symJ k:Nat):Int):=by
 show IntKind.i64.wrap ((BitVec.ofInt 64 k &&& BitVec.ofInt 64 7).toNat:Int)=_;have h7:(BitVec.ofInt 64 (7:Int)).toNat=2 ^ 3 - 1:=by decide
 rw[BitVec.toNat_and,h7,Nat.and_two_pow_sub_one_eq_mod,BitVec.toNat_ofInt];have hj:=symJ_lt k;have e:(k % (((2:Nat) ^ 64:Nat):Int)).toNat % 2 ^ 3=symJ k:=by
  unfold symJ;omega
 rw[e];exact IntWalk.i64_in _ (by omega)
theorem mat_cases {j:Nat}(h:j < 32):matL.getD j 0=0∨matL.getD j 0=1∨matL.getD j 0 = -1:=by
 have:∀ j:Fin 32,matL.getD j.1 0=0∨matL.getD j.1 0=1∨matL.getD j.1 0 = -1:=by decide
 exact this ⟨j,h⟩
theorem mul_in {a x:Int}(h:a=0∨a=1∨a = -1)(hx:-4611686018427387904 < x∧x < 4611686018427387904):-4611686018427387904 < a*x∧a*x < 4611686018427387904:=by
 rcases h with h | h | h <;> subst h <;> omega
set_option maxHeartbeats 4000000 in
theorem apply_any (k x y:Int)(w:World)(hg:GMat w)(hx:-4611686018427387904 < x∧x < 4611686018427387904)(hy:-4611686018427387904 < y∧y < 4611686018427387904) :
  Calls Tryz.prog 23 #[.int .i64 k,.agg #[.int .i64 x,.int .i64 y]] w fun e w'=>e=.returned (.agg #[.int .i64 (symP k (x,y)).1,.int .i64 (symP k (x,y)).2])∧Below w.heap.size w w':=by
 have hj:=symJ_lt k;obtain⟨j,hje⟩:∃ j,j=symJ k:=⟨_,rfl⟩
 have hand:=and_seven k;have hsp:symP k (x,y)=(matL.getD (j*4) 0*x+matL.getD (j*4+1) 0*y,matL.getD (j*4+2) 0*x+matL.getD (j*4+3) 0*y):=by rw[hje];rfl
 rw[← hje] at hj hand;rw[hsp];have g0:=hg.2 (j*4) (by omega);have g1:=hg.2 (j*4+1) (by omega);have g2:=hg.2 (j*4+2) (by omega);have g3:=hg.2 (j*4+3) (by omega);have m0:=mat_cases (j:=j*4) (by omega);have m1:=mat_cases (j:=j*4+1) (by omega);have m2:=mat_cases (j:=j*4+2) (by omega);have m3:=mat_cases (j:=j*4+3) (by omega);generalize matL.getD (j*4) 0=a at *;generalize matL.getD (j*4+1) 0=b at *;generalize matL.getD (j*4+2) 0=c at *;generalize matL.getD (j*4+3) 0=d at *;have i0:=mul_in m0 hx;have i1:=mul_in m1 hy;have i2:=mul_in m2 hx;have i3:=mul_in m3 hy;have w0':wrap64 (a*x)=a*x:=by generalize a*x=t at *;unfold wrap64;omega
 have w1':wrap64 (b*y)=b*y:=by generalize b*y=t at *;unfold wrap64;omega
 have w2':wrap64 (c*x)=c*x:=by generalize c*x=t at *;unfold wrap64;omega
 have w3':wrap64 (d*y)=d*y:=by generalize d*y=t at *;unfold wrap64;omega
 have w4':wrap64 (a*x+b*y)=a*x+b*y:=by generalize a*x=t at *;generalize b*y=u at *;unfold wrap64;omega
 have w5':wrap64 (c*x+d*y)=c*x+d*y:=by generalize c*x=t at *;generalize d*y=u at *;unfold wrap64;omega
 obtain⟨v1,hv1⟩:∃ v1,v1=w.alloc (.cells #[.int .i64 x,.int .i64 y] 43):=⟨_,rfl⟩
 obtain⟨v2,hv2⟩:∃ v2,v2=v1.alloc (.cells #[.int .i64 0,.int .i64 0] 43):=⟨_,rfl⟩
 have b1:Below w.heap.size w v1:=by rw[hv1];exact below_new _ _
 have b2:Below v1.heap.size v1 v2:=by rw[hv2];exact below_new _ _
 have b12:Below w.heap.size w v2:=b1.trans (b2.mono b1.size);have z1:v1.heap.size=w.heap.size+1:=by rw[hv1];simp
 have p1:Blk v2 w.heap.size 43 #[.int .i64 x,.int .i64 y]:=by
  have:Blk v1 w.heap.size 43 #[.int .i64 x,.int .i64 y]:=by rw[hv1];exact Blk.new _ _ _
  exact this.below b2 this.lt
 have p2:Blk v2 (w.heap.size+1) 43 #[.int .i64 0,.int .i64 0]:=by rw[← z1,hv2];exact Blk.new _ _ _
 rw[hv1] at hv2;have h0:=(b12.cell (p:=⟨1,j*4,none⟩) hg.1).trans g0;have h1:=(b12.cell (p:=⟨1,j*4+1,none⟩) hg.1).trans g1;have h2:=(b12.cell (p:=⟨1,j*4+2,none⟩) hg.1).trans g2;have h3:=(b12.cell (p:=⟨1,j*4+3,none⟩) hg.1).trans g3;have HV:=hid hv2;have HB:=hid b12;have HP1:=hid p1;have HP2:=hid p2;clear hv1 hv2 b1 b2 b12 z1 p1 p2 g0 g1 g2 g3 m0 m1 m2 m3 i0 i1 i2 i3 hx hy hje hsp hg;go_enter Tryz.func23,Tryz.ntmps23;go_upto_region 1 with fail
 rw[← HV.out];go_upto_region 2 with fail
 obtain⟨v3,hv3⟩:∃ v3,v3=v2.alloc (.cells #[.int .i64 a,.int .i64 b,.int .i64 c,.int .i64 d] 89):=⟨_,rfl⟩
 have b3:Below v2.heap.size v2 v3:=by rw[hv3];exact below_new _ _
 have p3:Blk v3 v2.heap.size 89 #[.int .i64 a,.int .i64 b,.int .i64 c,.int .i64 d]:=by rw[hv3];exact Blk.new _ _ _
 have q1:=HP1.out.below b3 HP1.out.lt;have q2:=HP2.out.below b3 HP2.out.lt;have x0:=p3.cell_ 0 (.int .i64 a) rfl;have x1:=p3.cell_ 1 (.int .i64 b) rfl;have x2:=p3.cell_ 2 (.int .i64 c) rfl;have x3:=p3.cell_ 3 (.int .i64 d) rfl;have y0:=q1.cell_ 0 (.int .i64 x) rfl;have y1:=q1.cell_ 1 (.int .i64 y) rfl;have r0:=q2.cell_ 0 (.int .i64 0) rfl;have r1:=q2.cell_ 1 (.int .i64 0) rfl;have f0:=q2.frozen 0;have f1:=q2.frozen 1;have HQ2:=hid q2;have HB3:Hid (Below w.heap.size w v3):=hid (HB.out.trans (b3.mono HB.out.size));obtain⟨g3,hg3⟩:∃ g3,g3=v2.heap.size:=⟨_,rfl⟩
 rw[← hv3,← hg3];rw[← hg3] at x0 x1 x2 x3;clear hv3 b3 p3 q1 q2 h0 h1 h2 h3 hg3;go_wp2;have hq:Blk ((v3.setCell ⟨w.heap.size+1,0,none⟩ (.int .i64 (a*x+b*y))).setCell ⟨w.heap.size+1,1,none⟩ (.int .i64 (c*x+d*y))) (w.heap.size+1) 43 #[.int .i64 (a*x+b*y),.int .i64 (c*x+d*y)]:=(HQ2.out.set_ 0 (.int .i64 (a*x+b*y))).set_ 1 (.int .i64 (c*x+d*y));exact bodyPost_ret (results_cell_row Tryz.results23 _ _ (w.heap.size+1) 43 #[.int .i64 (a*x+b*y),.int .i64 (c*x+d*y)] (0,0) _ rfl hq Tryz.underlying43 rfl Tryz.sizePoint) rfl
  ⟨rfl,(HB3.out.setCell (p:=⟨w.heap.size+1,0,none⟩) (Nat.le_succ _) _).setCell (p:=⟨w.heap.size+1,1,none⟩) (Nat.le_succ _) _⟩
end Go.Proofs.YtcmbdhopmncmnaaGreatDoor
namespace Go.Proofs.YtcmbdhopmncmnaaGreatDoor
open Lib(hid)
open Go.RowKit Go.Sort
set_option maxRecDepth 100000
set_option linter.unusedVariables false
set_option linter.unusedSimpArgs false

theorem chainH_rng:∀ (ps:List (Int × Int))(q:Option (Int × Int)),chainH q ps=true→∀ p ∈ ps,-2≤p.1∧p.1≤2∧-2≤p.2∧p.2≤2
 | [],_,_,p,hp=>absurd hp (by simp)
 | x :: l,q,h,p,hp=>by
  unfold chainH okH rngB at h;simp only[Bool.and_eq_true,decide_eq_true_eq] at h;rcases List.mem_cons.1 hp with rfl | hp
  ·exact⟨h.1.1.1.1.1,h.1.1.1.1.2,h.1.1.1.2,h.1.1.2⟩
  ·exact chainH_rng l _ h.2 p hp
theorem hoodB_rng {ps:List (Int × Int)}(h:hoodB ps=true):∀ p ∈ ps,-2≤p.1∧p.1≤2∧-2≤p.2∧p.2≤2:=by
 unfold hoodB at h;simp only[Bool.and_eq_true] at h;exact chainH_rng ps none h.2
def outH (ps:List (Int × Int))(k:Int)(p:Int × Int):Bool:=!decide (symP k p ∈ ps)
def symsTo (ps:List (Int × Int))(n:Nat):List Int:=((List.range n).filter fun (k:Nat)=>!ps.any (outH ps (k:Int))).map fun (k:Nat)=>(k:Int)
def symsP (ps:List (Int × Int)):List Int:=if hoodB ps=true then symsTo ps 8 else []
theorem symsTo_len (ps:List (Int × Int))(n:Nat):(symsTo ps n).length≤n:=by
 unfold symsTo;rw[List.length_map];exact Nat.le_trans (List.length_filter_le _ _) (by simp)
theorem symsTo_yes {ps:List (Int × Int)}{n:Nat}(h:ps.any (outH ps (n:Int))=false):symsTo ps (n+1)=symsTo ps n ++ [(n:Int)]:=by
 unfold symsTo;rw[List.range_succ,List.filter_append,List.map_append];simp[h]
theorem symsTo_no {ps:List (Int × Int)}{n:Nat}(h:ps.any (outH ps (n:Int))=true):symsTo ps (n+1)=symsTo ps n:=by
 unfold symsTo;rw[List.range_succ,List.filter_append,List.map_append];simp[h]
set_option maxHeartbeats 800000 in
theorem pcontains_any (A:Option Addr)(xs:List (Int × Int))(c:Nat)(a b:Int)(w:World)(ha:Pts w A xs) :
  Calls Tryz.prog 108 #[.slice A xs.length c,.agg #[.int .i64 a,.int .i64 b]] w fun e w'=>e=.returned (.bool (decide ((a,b) ∈ xs)))∧Below w.heap.size w w':=by
 obtain⟨w0,hw0⟩:∃ w0,w0=w.alloc (.cells #[.int .i64 a,.int .i64 b] 43):=⟨_,rfl⟩
 have hb0:Below w.heap.size w w0:=by rw[hw0];exact below_new _ _
 have q0:Blk w0 w.heap.size 43 #[.int .i64 a,.int .i64 b]:=by rw[hw0];exact Blk.new _ _ _
 have d0:=q0.cell_ 0 (.int .i64 a) rfl;have d1:=q0.cell_ 1 (.int .i64 b) rfl;have HI:=hid (pidx_any A xs c a b w0 (ha.ext hb0));have HM:=hid (idxF_mem (p:=(a,b)) xs 0);obtain⟨r,hr⟩:∃ r,r=idxF (a,b) 0 xs:=⟨_,rfl⟩
 rw[← hr] at HI HM;have HB0:=hid hb0;have HW0:=hid hw0;clear hr ha hb0 q0 hw0;go_enter Tryz.func108,Tryz.ntmps108;go_upto_region 1 with fail
 rw[← HW0.out];go_wp2_with (go_at_call 83;refine HI.out.mono ?_;rintro e w' ⟨rfl,hb⟩;refine Hid.out ?_);refine hid ?_;go_wp2;go_ret;exact⟨ret_bool (decide_eq_decide.2 HM.out),HB0.out.trans (hb.mono HB0.out.size)⟩
set_option maxHeartbeats 4000000 in
theorem symc_any (gl gk:Nat)(A:Option Addr)(c:Nat)(ps:List (Int × Int))(k x y:Int)(w:World)(hl:Blk w gl 22 #[.slice A ps.length c])(hk:Blk w gk 3 #[.int .i64 k])(hp:Pts w A ps)(hG:GMat w)(hx:-2≤x∧x≤2)(hy:-2≤y∧y≤2) :
  Calls Tryz.prog 107 #[.agg #[.int .i64 x,.int .i64 y],.pointer (some ⟨gl,0,none⟩),.pointer (some ⟨gk,0,none⟩)] w fun e w'=>e=.returned (.bool (outH ps k (x,y)))∧Below w.heap.size w w':=by
 obtain⟨w0,hw0⟩:∃ w0,w0=w.alloc (.cells #[.int .i64 x,.int .i64 y] 43):=⟨_,rfl⟩
 have hb0:Below w.heap.size w w0:=by rw[hw0];exact below_new _ _
 have q0:Blk w0 w.heap.size 43 #[.int .i64 x,.int .i64 y]:=by rw[hw0];exact Blk.new _ _ _
 have l0:=hl.below hb0 hl.lt;have k0:=hk.below hb0 hk.lt;obtain⟨gP,hgP⟩:∃ g,g=w.heap.size:=⟨_,rfl⟩
 have HA:Hid (∀ d os,Calls Tryz.prog 23 #[.int .i64 k,.agg #[.int .i64 x,.int .i64 y]] (grow (redrawn w0 d) os) fun e w''=>e=.returned (.agg #[.int .i64 (symP k (x,y)).1,.int .i64 (symP k (x,y)).2])∧∃ p:Regrown,w''=grow (redrawn w0 p.d) p.os):=
  hid (fun d os=>Calls.regrown_of (apply_any k x y _ ((hG.ext hb0).ext (below_regrown w0 d os)) ⟨by omega,by omega⟩ ⟨by omega,by omega⟩))
 obtain⟨z,hz⟩:∃ z,z=symP k (x,y):=⟨_,rfl⟩
 have HC:Hid (∀ d os,Calls Tryz.prog 108 #[.slice A ps.length c,.agg #[.int .i64 z.1,.int .i64 z.2]] (grow (redrawn w0 d) os) fun e w''=>e=.returned (.bool (decide (z ∈ ps)))∧∃ p:Regrown,w''=grow (redrawn w0 p.d) p.os):=
  hid (fun d os=>Calls.regrown_of (pcontains_any A ps c z.1 z.2 _ ((hp.ext hb0).ext (below_regrown w0 d os))))
 have HO:Hid (outH ps k (x,y) = !decide (z ∈ ps)):=hid (by rw[hz];rfl);rw[← hz] at HA;obtain⟨s,hs⟩:∃ s,s=decide (z ∈ ps):=⟨_,rfl⟩
 rw[← hs] at HC HO;obtain⟨z1,z2⟩:=z;dsimp only at HA HC;have j0:=cell_regrown (q0.cell_ 0 (.int .i64 x) rfl);have j1:=cell_regrown (q0.cell_ 1 (.int .i64 y) rfl);have j2:=cell_regrown (l0.cell_ 0 (.slice A ps.length c) rfl);have j3:=cell_regrown (k0.cell_ 0 (.int .i64 k) rfl);rw[← hgP] at j0 j1;have HB0:=hid hb0;have HW0:=hid (And.intro hw0 hgP);clear hb0 q0 l0 k0 hz hs hw0 hgP hl hk hp hG hx hy;go_enter Tryz.func107,Tryz.ntmps107;go_upto_region 1 with fail
 rw[← HW0.out.1,← HW0.out.2];refine wp_region_quiet_below (by kernel_rfl) (by kernel_rfl) ?_;repeat (go_big_quiet_step (first | with_reducible exact HA.out _ _ | with_reducible exact HC.out _ _))
 refine wpQuiet_nil ?_;intro _ hw';obtain⟨⟨dq,osq⟩,hw''⟩:=hw';subst hw'';go_wp2;go_ret;exact⟨ret_bool HO.out.symm,HB0.out.trans ((below_regrown w0 dq osq).mono HB0.out.size)⟩
set_option maxHeartbeats 4000000 in
theorem ixP_any (gl gk:Nat)(A:Option Addr)(c:Nat)(ps:List (Int × Int))(k:Int)(w:World)(hl:Blk w gl 22 #[.slice A ps.length c])(hk:Blk w gk 3 #[.int .i64 k])(hp:Pts w A ps)(hG:GMat w)(hr:∀ p ∈ ps,-2≤p.1∧p.1≤2∧-2≤p.2∧p.2≤2) :
  Calls Tryz.prog 127 #[.slice A ps.length c,.func (.func 107) #[] #[.pointer (some ⟨gl,0,none⟩),.pointer (some ⟨gk,0,none⟩)]] w fun e w'=>e=.returned (.int .i64 (fI (outH ps k) ps 0))∧Below w.heap.size w w':=by
 have hn:=hp.le;have HZ:=hid hp;have HQ:=hid (And.intro hl (And.intro hk (And.intro hG hr)));have HN:=hid hn;clear hp hl hk hG hr;go_enter Tryz.func127,Tryz.ntmps127;go_wp2;go_loopw [8] (fun i wr=>∃ j:Nat,j≤ps.length∧i=.int .i64 j∧Hid (Below w.heap.size w wr)∧Hid (fI (outH ps k) ps 0=fI (outH ps k) (ps.drop j) j)) (fun i _=>ps.length - (intOf i).toNat)
 case atStart=>exact⟨0,Nat.zero_le _,rfl,hid (Below.refl _ _),hid (by simp)⟩
 case round=>
  obtain⟨j,hj,rfl,HB,HT⟩:=hrel;by_cases hlt:j < ps.length
  ·obtain⟨b1,o1,e1,-,hc,hc'⟩:=(HZ.out.ext HB.out).at_ hlt;have hw1:wrap64 ((j:Int)+1)=(j:Int)+1:=by have:=HN.out;unfold wrap64;omega
   have HS:=hid (fI_step (outH ps k) hlt);have hrr:=HQ.out.2.2.2 ps[j] (List.getElem_mem hlt);have hC:=symc_any gl gk A c ps k ps[j].1 ps[j].2 wr (HQ.out.1.below HB.out HQ.out.1.lt) (HQ.out.2.1.below HB.out HQ.out.2.1.lt) (HZ.out.ext HB.out) (HQ.out.2.2.1.ext HB.out) ⟨hrr.1,hrr.2.1⟩ ⟨hrr.2.2.1,hrr.2.2.2⟩;obtain⟨z,hz⟩:∃ z,z=ps[j]:=⟨_,rfl⟩
   rw[← hz] at hc hc' HS hC;have HLT:=hid hlt;subst e1;obtain⟨z1,z2⟩:=z;dsimp only at hc hc' hC;cases ho:outH ps k (z1,z2) with
   | true=>
    rw[ho] at hC;have HC:=hid hC;have HF:Hid (fI (outH ps k) ps 0=(j:Int)):=hid (by rw[HT.out,HS.out,ho];rfl);clear ho hC hz hj hrr;go_wp2_with (go_at_call 107;refine HC.out.mono ?_;rintro e w1 ⟨rfl,hb1⟩;refine Hid.out ?_);refine hid ?_;go_wp2;go_ret;exact⟨by rw[HF.out] <;> rfl,HB.out.trans (hb1.mono HB.out.size)⟩
   | false=>
    rw[ho] at hC;have HC:=hid hC;have HF:Hid (fI (outH ps k) ps 0=fI (outH ps k) (ps.drop (j+1)) (j+1)):=hid (by rw[HT.out,HS.out,ho];rfl);clear ho hC hz hj hrr;go_wp2_with (go_at_call 107;refine HC.out.mono ?_;rintro e w1 ⟨rfl,hb1⟩;refine Hid.out ?_);refine hid ?_;have HB1:=hid (HB.out.trans (hb1.mono HB.out.size));go_wp2;go_roundw
    case rel=>exact⟨j+1,HLT.out,(by first | rfl | (rw[hw1];rfl)),HB1,HF⟩
    case measure=>(try rw[hw1]);exact meas_step HLT.out
  ·have HF:Hid (fI (outH ps k) ps 0 = -1):=hid (by
    have h:=HT.out;rw[List.drop_of_length_le (by omega)] at h;exact h)
   go_wp2;go_ret;exact⟨by rw[HF.out] <;> rfl,HB.out⟩
set_option maxHeartbeats 1000000 in
theorem ctPf_any (gl gk:Nat)(A:Option Addr)(c:Nat)(ps:List (Int × Int))(k:Int)(w:World)(hl:Blk w gl 22 #[.slice A ps.length c])(hk:Blk w gk 3 #[.int .i64 k])(hp:Pts w A ps)(hG:GMat w)(hr:∀ p ∈ ps,-2≤p.1∧p.1≤2∧-2≤p.2∧p.2≤2) :
  Calls Tryz.prog 106 #[.slice A ps.length c,.func (.func 107) #[] #[.pointer (some ⟨gl,0,none⟩),.pointer (some ⟨gk,0,none⟩)]] w fun e w'=>e=.returned (.bool (ps.any (outH ps k)))∧Below w.heap.size w w':=by
 have HC:=hid (ixP_any gl gk A c ps k w hl hk hp hG hr);rw[← fI_any (outH ps k) ps 0];obtain⟨r,hr⟩:∃ r,r=fI (outH ps k) ps 0:=⟨_,rfl⟩
 rw[← hr] at HC ⊢;clear hr hl hk hp hG;go_enter Tryz.func106,Tryz.ntmps106;go_wp2_with (go_at_call 127;refine HC.out.mono ?_;rintro e w1 ⟨rfl,hb⟩;refine Hid.out ?_);refine hid ?_;go_wp2;go_ret;exact⟨rfl,hb⟩
set_option maxHeartbeats 4000000 in
theorem syms_any (A:Option Addr)(ps:List (Int × Int))(c:Nat)(w:World)(hp:Pts w A ps)(hG:GMat w) :
  Calls Tryz.prog 69 #[.slice A ps.length c] w fun e w'=>∃ v,e=.returned v∧OwnIA w' w.heap.size v (symsP ps)∧Below w.heap.size w w':=by
 obtain⟨w0,hw0⟩:∃ w0,w0=w.alloc (.cells #[.slice A ps.length c] 22):=⟨_,rfl⟩
 have hb0:Below w.heap.size w w0:=by rw[hw0];exact below_new _ _
 have q0:Blk w0 w.heap.size 22 #[.slice A ps.length c]:=by rw[hw0];exact Blk.new _ _ _
 obtain⟨gl,hgl⟩:∃ g,g=w.heap.size:=⟨_,rfl⟩
 rw[← hgl] at q0;have HCR:=hid (hood_any A c ps w0 (hp.ext hb0));have c0:=q0.cell_ 0 (.slice A ps.length c) rfl;have HB0:=hid hb0;have HP:=hid (hp.ext hb0);have HG:=hid (hG.ext hb0);have HQ:=hid q0;have HW0:=hid (And.intro hw0 hgl);clear hb0 q0 hp hG hw0 hgl;cases hB:hoodB ps with
 | false=>
  have HE:Hid (symsP ps=[]):=hid (by unfold symsP;rw[if_neg (by rw[hB];simp)]);rw[hB] at HCR;clear hB;go_enter Tryz.func69,Tryz.ntmps69;go_upto_region 1 with fail
  rw[← HW0.out.1,← HW0.out.2];go_wp2_with (go_at_call 27;refine HCR.out.mono ?_;rintro e w1 ⟨rfl,hb1⟩;refine Hid.out ?_);refine hid ?_;go_wp2;go_ret;exact⟨_,rfl,by rw[HE.out];exact OwnI.nil _ _ _,HB0.out.trans (hb1.mono HB0.out.size)⟩
 | true=>
  have HE:Hid (symsP ps=symsTo ps 8):=hid (by unfold symsP;rw[if_pos hB]);have HRN:=hid (hoodB_rng hB);rw[hB] at HCR;clear hB;go_enter Tryz.func69,Tryz.ntmps69;go_upto_region 1 with fail
  rw[← HW0.out.1,← HW0.out.2];go_wp2_with (go_at_call 27;refine HCR.out.mono ?_;rintro e w1 ⟨rfl,hb1⟩;refine Hid.out ?_);refine hid ?_;have HB1:=hid hb1;clear hb1 c0;go_wp2;go_loopw [3,8] (fun lv iv wr=>∃ i:Nat,i≤8∧iv=.int .i64 i∧Hid (OwnIA wr w0.heap.size lv (symsTo ps i))∧Hid (Below w0.heap.size w0 wr)) (fun _ iv _=>8 - (intOf iv).toNat)
  case atStart=>exact⟨0,Nat.zero_le _,rfl,hid (OwnI.nil _ _ _),HB1⟩
  case round=>
   obtain⟨i,hi,rfl,HO,HB⟩:=hrel;by_cases hil:i < 8
   ·obtain⟨wb,hwb⟩:∃ W,W=wr.alloc (.cells #[.int .i64 (i:Int)] 3):=⟨_,rfl⟩
    have hbb:Below wr.heap.size wr wb:=by rw[hwb];exact below_new _ _
    obtain⟨gk,hgk⟩:∃ g,g=wr.heap.size:=⟨_,rfl⟩
    have HK:Hid (Blk wb gk 3 #[.int .i64 (i:Int)]):=hid (by rw[hgk,hwb];exact Blk.new _ _ _);have HBB:=hid (HB.out.trans (hbb.mono HB.out.size));have HQB:=hid (HQ.out.below HBB.out HQ.out.lt);have HOB:=hid (HO.out.ext hbb);have hcall:=ctPf_any gl gk A c ps (i:Int) wb HQB.out HK.out (HP.out.ext HBB.out) (HG.out.ext HBB.out) HRN.out;have c1:=HQB.out.cell_ 0 (.slice A ps.length c) rfl;have HI:=hid hil;have hwi:wrap64 ((i:Int)+1)=(i:Int)+1:=by unfold wrap64;omega
    have HWB:=hid (And.intro hwb hgk);have hd8:decide ((i:Int) < 8)=true:=decide_eq_true (by omega);have HWI:=hid hwi;clear hwb hgk hbb hi hwi;go_upto_region 7 with fail
    rw[← HWB.out.1,← HWB.out.2];cases ho:ps.any (outH ps (i:Int)) with
    | true=>
     rw[ho] at hcall;have HCALL:=hid hcall;have HST:=hid (symsTo_no ho);clear hcall ho;go_wp2_with (go_at_call 106;refine HCALL.out.mono ?_;rintro e w2 ⟨rfl,hb2⟩;refine Hid.out ?_);refine hid ?_;have HO2:Hid (OwnIA w2 w0.heap.size _ (symsTo ps (i+1))):=hid (by rw[HST.out];exact HOB.out.ext hb2);have HB2:=hid (HBB.out.trans (hb2.mono HBB.out.size));clear hb2 c1;go_wp2;go_roundw
     case rel=>exact⟨i+1,HI.out,(by first | rfl | (rw[HWI.out];rfl)),HO2,HB2⟩
     case measure=>(try rw[HWI.out]);exact meas_step HI.out
    | false=>
     rw[ho] at hcall;have HCALL:=hid hcall;have HST:=hid (symsTo_yes ho);clear hcall ho;go_wp2_with (go_at_call 106;refine HCALL.out.mono ?_;rintro e w2 ⟨rfl,hb2⟩;refine Hid.out ?_);refine hid ?_;have hown:=HOB.out.ext hb2;have c2:=(HK.out.below hb2 HK.out.lt).cell_ 0 (.int .i64 (i:Int)) rfl;have HB2:=hid (HBB.out.trans (hb2.mono HBB.out.size));have hln:(symsTo ps i).length < 1000000000000:=by have:=symsTo_len ps i;have:=HI.out;omega
     have hbs:=HB2.out.size;clear hb2 c1;go_wp2_with (at_builtin;refine wpList_pushI rfl _ _ _ rfl w0.heap.size 3 Tryz.underlying30 Tryz.infoInt _ _ rfl hown _ rfl hln hbs ?_);intro v' w7 ho' hb';have HO7:Hid (OwnIA w7 w0.heap.size v' (symsTo ps (i+1))):=hid (by rw[HST.out];exact ho');have HB7:=hid (HB2.out.trans hb');clear ho' hb' hown hln hbs c2;go_wp2;go_roundw
     case rel=>exact⟨i+1,HI.out,(by first | rfl | (rw[HWI.out];rfl)),HO7,HB7⟩
     case measure=>(try rw[HWI.out]);exact meas_step HI.out
   ·obtain rfl:i=8:=Nat.le_antisymm hi (Nat.le_of_not_lt hil);have hd8:decide (((8:Nat):Int) < 8)=false:=by decide
    have HN0:Hid (w.heap.size≤w0.heap.size):=hid HB0.out.size;clear hi hil;go_wp2;go_ret;exact⟨_,rfl,by rw[HE.out];exact OwnI.down HO.out HN0.out,HB0.out.trans (HB.out.mono HB0.out.size)⟩
end Go.Proofs.YtcmbdhopmncmnaaGreatDoor
namespace Go.Proofs.YtcmbdhopmncmnaaGreatDoor
open Lib(hid)
open Go.RowKit
set_option maxRecDepth 100000
set_option linter.unusedVariables false
set_option linter.unusedSimpArgs false
def permP (ps:List (Int × Int))(sym:Int):Bool:=if sym=0 then true else if sym=1 then decide ((1:Int) ∈ symsP ps) else if sym=2 then ((symsP ps).length:Int) == 8 else if sym=3 then decide (ps.length≤9) else false
set_option maxHeartbeats 4000000 in
theorem permits_any (A:Option Addr)(ps:List (Int × Int))(c:Nat)(sym:Int)(w:World)(hp:Pts w A ps)(hG:GMat w) :
  Calls Tryz.prog 28 #[.slice A ps.length c,.int .i64 sym] w fun e w'=>e=.returned (.bool (permP ps sym))∧Below w.heap.size w w':=by
 have hcall:=syms_any A ps c w hp hG;obtain⟨l,hl⟩:∃ l,l=symsP ps:=⟨_,rfl⟩
 have hP:permP ps sym=if sym=0 then true else if sym=1 then decide ((1:Int) ∈ l) else if sym=2 then (l.length:Int) == 8 else if sym=3 then decide (ps.length≤9) else false:=by rw[hl];rfl
 obtain⟨r,hr⟩:∃ r,r=permP ps sym:=⟨_,rfl⟩
 rw[← hr];have HR:Hid (r=if sym=0 then true else if sym=1 then decide ((1:Int) ∈ l) else if sym=2 then (l.length:Int) == 8 else if sym=3 then decide (ps.length≤9) else false):=hid (hr.trans hP);have hl8:l.length≤8:=by
  rw[hl];unfold symsP
  split
  ·exact symsTo_len ps 8
  ·simp
 rw[← hl] at hcall;have HCALL:=hid hcall;have hn:=hp.le;clear hcall hl hP hp hG hr;go_enter Tryz.func28,Tryz.ntmps28;go_wp2_with (go_at_call 69;refine HCALL.out.mono ?_;rintro e w1 ⟨v,rfl,ho,hb⟩;refine Hid.out ?_);refine hid ?_;obtain⟨A5,c5,e5,hi5,-⟩:=ho.ints;subst e5;have HB:=hid hb;have HI:=hid hi5;have hl9:l.length≤9223372036854775807:=by omega
 clear ho hb hi5 HCALL hl8;by_cases h0:sym=0
 ·subst h0;go_wp2;go_ret;exact⟨ret_bool (by rw[HR.out];simp),HB.out⟩
 ·have d0:(sym == 0)=false:=beq_false_of_ne h0;by_cases h1:sym=1
  ·subst h1;have HC:=hid (contains_any A5 l c5 1 w1 HI.out);clear h0;go_wp2_with (go_at_call 30;refine HC.out.mono ?_;rintro e w2 ⟨rfl,rfl⟩;refine Hid.out ?_);refine hid ?_;go_wp2;go_ret;exact⟨ret_bool (by rw[HR.out];simp[*]),HB.out⟩
  ·have d1:(sym == 1)=false:=beq_false_of_ne h1;by_cases h2:sym=2
   ·subst h2;clear h0 h1;go_wp2;go_ret;exact⟨ret_bool (by rw[HR.out];simp[*]),HB.out⟩
   ·have d2:(sym == 2)=false:=beq_false_of_ne h2;by_cases h3:sym=3
    ·subst h3;clear h0 h1 h2;have hd:decide ((ps.length:Int)≤9)=decide (ps.length≤9):=decide_eq_decide.2 (by omega);have HD:=hid hd;clear hd;go_wp2;go_ret;exact⟨ret_bool (by rw[HR.out];simp[HD.out]),HB.out⟩
    ·have d3:(sym == 3)=false:=beq_false_of_ne h3;have H0:=hid (And.intro h0 (And.intro h1 (And.intro h2 h3)));clear h0 h1 h2 h3;go_wp2;go_ret;exact⟨ret_bool (by rw[HR.out];rw[if_neg H0.out.1,if_neg H0.out.2.1,if_neg H0.out.2.2.1,if_neg H0.out.2.2.2]),HB.out⟩

theorem tmod8 (k:Int):-8 < Int.tmod k 8∧Int.tmod k 8 < 8∧Int.tmod (Int.tmod k 8+8) 8=(symJ k:Int):=by
 have e:=Int.mul_tdiv_add_tmod k 8;have b1:=Int.tmod_lt_of_pos k (show (0:Int) < 8 by decide);have b2:=Int.lt_tmod_of_pos k (show (0:Int) < 8 by decide);generalize Int.tmod k 8=r at *;generalize Int.tdiv k 8=q at *;refine⟨b2,b1,?_⟩;rw[Int.tmod_eq_emod_of_nonneg (by omega)];unfold symJ;omega
theorem rmod_any (k:Int)(w:World):Calls Tryz.prog 128 #[.int .i64 k] w fun e w'=>e=.returned (.int .i64 (symJ k))∧w'=w:=by
 obtain⟨t1,t2,h3⟩:=tmod8 k;have h1:wrap64 (Int.tmod k 8)=Int.tmod k 8:=by generalize Int.tmod k 8=r at *;unfold wrap64;omega
 have h2:wrap64 (Int.tmod k 8+8)=Int.tmod k 8+8:=by generalize Int.tmod k 8=r at *;unfold wrap64;omega
 have h4:wrap64 (symJ k:Int)=(symJ k:Int):=by have:=symJ_lt k;unfold wrap64;omega
 have HH:=hid (And.intro h2 h3);clear t1 t2 h3;go_enter Tryz.func128,Tryz.ntmps128;rw[← HH.out.2];clear h4;go_wp2;go_ret;exact⟨ret_int (by first | rfl | (rw[HH.out.1,HH.out.2];rfl)),rfl⟩
def rotP:Nat→Int × Int→Int × Int
 | 0,p=>p
 | n+1,p=>(-(rotP n p).2,(rotP n p).1)
theorem rotP_in {p:Int × Int}(hx:-4611686018427387904 < p.1∧p.1 < 4611686018427387904)(hy:-4611686018427387904 < p.2∧p.2 < 4611686018427387904):∀ n,(-4611686018427387904 < (rotP n p).1∧(rotP n p).1 < 4611686018427387904)∧(-4611686018427387904 < (rotP n p).2∧(rotP n p).2 < 4611686018427387904)
 | 0=>⟨hx,hy⟩
 | n+1=>by
  obtain⟨h1,h2⟩:=rotP_in hx hy n;simp only[rotP];omega
theorem rot_sym (k x y:Int):rotP (symJ k % 4) (if symJ k < 4 then (x,y) else (-x,y))=symP k (x,y):=by
 have hj:=symJ_lt k;unfold symP;generalize symJ k=j at hj ⊢;obtain rfl | rfl | rfl | rfl | rfl | rfl | rfl | rfl:j=0∨j=1∨j=2∨j=3∨j=4∨j=5∨j=6∨j=7:=by omega
 all_goals
  simp[rotP,matL]
set_option maxHeartbeats 4000000 in
theorem rapply_any (k x y:Int)(w:World)(hx:-4611686018427387904 < x∧x < 4611686018427387904)(hy:-4611686018427387904 < y∧y < 4611686018427387904) :
  Calls Tryz.prog 109 #[.int .i64 k,.agg #[.int .i64 x,.int .i64 y]] w fun e w'=>e=.returned (.agg #[.int .i64 (symP k (x,y)).1,.int .i64 (symP k (x,y)).2])∧Below w.heap.size w w':=by
 obtain⟨w0,hw0⟩:∃ w0,w0=(w.alloc (.cells #[.int .i64 x,.int .i64 y] 43)).alloc (.cells #[.int .i64 0,.int .i64 0] 43):=⟨_,rfl⟩
 have hb1:=below_new w (.cells #[.int .i64 x,.int .i64 y] 43);have hb0:Below w.heap.size w w0:=by rw[hw0];exact hb1.alloc hb1.size _
 have p0:Blk w0 w.heap.size 43 #[.int .i64 x,.int .i64 y]:=by rw[hw0];exact (Blk.new w _ _).alloc _
 have q0:Blk w0 (w.heap.size+1) 43 #[.int .i64 0,.int .i64 0]:=by
  rw[hw0];have:=Blk.new (w.alloc (.cells #[.int .i64 x,.int .i64 y] 43)) 43 #[.int .i64 0,.int .i64 0];simpa using this
 have HMOD:=hid (rmod_any k w0);have hrs:=rot_sym k x y;have hj:=symJ_lt k;obtain⟨j,hje⟩:∃ j,j=symJ k:=⟨_,rfl⟩
 rw[← hje] at hrs hj HMOD;obtain⟨s,hs⟩:∃ s,s=symP k (x,y):=⟨_,rfl⟩
 rw[← hs] at hrs ⊢;have HB0:=hid hb0;have HP0:=hid p0;have HQ0:=hid q0;have HW0:=hid hw0;have c0:=p0.cell_ 0 (.int .i64 x) rfl;have c1:=p0.cell_ 1 (.int .i64 y) rfl;have f0:=p0.frozen 0;have f1:=p0.frozen 1;clear hb1 hb0 p0 q0 hw0 hje hs;by_cases h4:j < 4
 ·have d1:decide ((4:Int)≤(j:Int))=false:=decide_eq_false (by omega);have d2:decide (4≤j)=false:=decide_eq_false (by omega);rw[if_pos h4,Nat.mod_eq_of_lt h4] at hrs;have HRS:=hid hrs;have HJ:=hid h4;have HIN:=hid (rotP_in (p:=(x,y)) hx hy);clear h4 hrs hj hx hy;go_enter Tryz.func109,Tryz.ntmps109;go_upto_region 1 with fail
  rw[← HW0.out];go_wp2_with (go_at_call 128;refine HMOD.out.mono ?_;intro e w1 hx;obtain⟨rfl,hw1⟩:=hx;rw[hw1];clear hw1;refine Hid.out ?_);refine hid ?_;obtain⟨p,hp⟩:∃ p:Int × Int,p=(x,y):=⟨_,rfl⟩
  rw[← hp] at HRS HIN;have HP1:Hid (Blk w0 w.heap.size 43 #[.int .i64 (rotP 0 p).1,.int .i64 (rotP 0 p).2]):=hid (by rw[hp];exact HP0.out);clear c0 c1 f0 f1 hp;go_wp2;go_loopw [5] (fun iv wr=>∃ i:Nat,i≤j∧iv=.int .i64 i∧Hid (Blk wr w.heap.size 43 #[.int .i64 (rotP i p).1,.int .i64 (rotP i p).2])∧Hid (Blk wr (w.heap.size+1) 43 #[.int .i64 0,.int .i64 0])∧Hid (Below w.heap.size w wr)) (fun iv _=>j - (intOf iv).toNat)
  case atStart=>exact⟨0,Nat.zero_le _,rfl,HP1,HQ0,HB0⟩
  case round=>
   obtain⟨i,hi,rfl,HPI,HQI,HBI⟩:=hrel;have hwi:wrap64 ((i:Int)+1)=(i:Int)+1:=by have:=HJ.out;unfold wrap64;omega
   obtain⟨a,ha⟩:∃ a,a=rotP i p:=⟨_,rfl⟩
   have hin:=HIN.out i;rw[← ha] at HPI hin;obtain⟨a1,a2⟩:=a;dsimp only at HPI hin;have e0:=HPI.out.cell_ 0 (.int .i64 a1) rfl;have e1:=HPI.out.cell_ 1 (.int .i64 a2) rfl;have g0:=HPI.out.frozen 0;have g1:=HPI.out.frozen 1;have hwa:wrap64 (-a2) = -a2:=by unfold wrap64;omega
   have HA:=hid ha;clear hin ha;by_cases hij:i < j
   ·have HIJ:=hid hij;have HK:Hid (Kept (fun g=>g=w.heap.size) wr ((wr.setCell ⟨w.heap.size,0,none⟩ (.int .i64 (-a2))).setCell ⟨w.heap.size,1,none⟩ (.int .i64 a1))):=hid (((Kept.refl (fun g=>g=w.heap.size) wr).setCell (p:=⟨w.heap.size,0,none⟩) (Or.inl rfl) _).setCell (p:=⟨w.heap.size,1,none⟩) (Or.inl rfl) _);have HP2:Hid (Blk ((wr.setCell ⟨w.heap.size,0,none⟩ (.int .i64 (-a2))).setCell ⟨w.heap.size,1,none⟩ (.int .i64 a1)) w.heap.size 43 #[.int .i64 (rotP (i+1) p).1,.int .i64 (rotP (i+1) p).2]):=hid (by
     have h1:rotP (i+1) p=(-a2,a1):=by show (-(rotP i p).2,(rotP i p).1)=_;rw[← HA.out]
     rw[h1];exact (HPI.out.set_ 0 (.int .i64 (-a2))).set_ 1 (.int .i64 a1))
    go_wp2;go_roundw
    case rel=>exact⟨i+1,HIJ.out,(by first | rfl | (rw[hwi];rfl)),HP2,hid (HK.out.blk HQI.out (fun e=>absurd e (Nat.succ_ne_self _))),hid (HBI.out.trans (HK.out.to_below HBI.out.size (fun g hg e=>by rw[e] at hg;exact Nat.lt_irrefl _ hg)))⟩
    case measure=>(try rw[hwi]);exact meas_step HIJ.out
   ·have hie:i=j:=Nat.le_antisymm hi (Nat.le_of_not_lt hij);have q0:=HQI.out.cell_ 0 (.int .i64 0) rfl;have q1:=HQI.out.cell_ 1 (.int .i64 0) rfl;have r0:=HQI.out.frozen 0;have r1:=HQI.out.frozen 1;have HS:Hid (s=(a1,a2)):=hid (by rw[← HRS.out,← hie,HA.out]);clear hie;go_wp2;have hq:Blk ((wr.setCell ⟨w.heap.size+1,0,none⟩ (.int .i64 a1)).setCell ⟨w.heap.size+1,1,none⟩ (.int .i64 a2)) (w.heap.size+1) 43 #[.int .i64 a1,.int .i64 a2]:=(HQI.out.set_ 0 (.int .i64 a1)).set_ 1 (.int .i64 a2);rw[HS.out];exact bodyPost_ret (results_cell_row Tryz.results109 _ _ (w.heap.size+1) 43 #[.int .i64 a1,.int .i64 a2] (0,0) _ rfl hq Tryz.underlying43 rfl Tryz.sizePoint) rfl
     ⟨rfl,(HBI.out.setCell (p:=⟨w.heap.size+1,0,none⟩) (Nat.le_succ _) _).setCell (p:=⟨w.heap.size+1,1,none⟩) (Nat.le_succ _) _⟩
 ·have d1:decide ((4:Int)≤(j:Int))=true:=decide_eq_true (by omega);have d2:decide (4≤j)=true:=decide_eq_true (by omega);obtain⟨j',rfl⟩:∃ j',j=j'+4:=⟨j - 4,by omega⟩
  have hwj:wrap64 (((j'+4:Nat):Int) - 4)=(j':Int):=by unfold wrap64;omega
  have hwj2:wrap64 ((j':Int)+4 - 4)=(j':Int):=by unfold wrap64;omega
  have hwj3:wrap64 (j':Int)=(j':Int):=by unfold wrap64;omega
  have hwx:wrap64 (-x) = -x:=by unfold wrap64;omega
  rw[if_neg h4,show (j'+4) % 4=j' by omega] at hrs;have HRS:=hid hrs;have HJ:Hid (j' < 4):=hid (by omega);have HIN:=hid (rotP_in (p:=(-x,y)) (by dsimp only;omega) hy);clear h4 hrs hj hx hy;go_enter Tryz.func109,Tryz.ntmps109;go_upto_region 1 with fail
  rw[← HW0.out];go_wp2_with (go_at_call 128;refine HMOD.out.mono ?_;intro e w1 hx;obtain⟨rfl,hw1⟩:=hx;rw[hw1];clear hw1;refine Hid.out ?_);refine hid ?_;obtain⟨p,hp⟩:∃ p:Int × Int,p=(-x,y):=⟨_,rfl⟩
  rw[← hp] at HRS HIN;obtain⟨w2,hw2⟩:∃ w2,w2=(w0.setCell ⟨w.heap.size,0,none⟩ (.int .i64 (-x))).setCell ⟨w.heap.size,1,none⟩ (.int .i64 y):=⟨_,rfl⟩
  have hp1:Blk w2 w.heap.size 43 #[.int .i64 (rotP 0 p).1,.int .i64 (rotP 0 p).2]:=by rw[hw2,hp];exact (HP0.out.set_ 0 (.int .i64 (-x))).set_ 1 (.int .i64 y)
  have hk:Kept (fun g=>g=w.heap.size) w0 w2:=by rw[hw2];exact ((Kept.refl (fun g=>g=w.heap.size) w0).setCell (p:=⟨w.heap.size,0,none⟩) (Or.inl rfl) _).setCell (p:=⟨w.heap.size,1,none⟩) (Or.inl rfl) _
  have HQ1:=hid (hk.blk HQ0.out (fun e=>absurd e (Nat.succ_ne_self _)));have HB1:Hid (Below w.heap.size w w2):=hid (HB0.out.trans (hk.to_below HB0.out.size (fun g hg e=>by rw[e] at hg;exact Nat.lt_irrefl _ hg)));have HP1:=hid hp1;have HW2:=hid hw2;clear hp1 hk hw2;go_upto_region 4 with fail
  rw[← HW2.out];clear c0 c1 f0 f1 hp;go_wp2;go_loopw [5] (fun iv wr=>∃ i:Nat,i≤j'∧iv=.int .i64 i∧Hid (Blk wr w.heap.size 43 #[.int .i64 (rotP i p).1,.int .i64 (rotP i p).2])∧Hid (Blk wr (w.heap.size+1) 43 #[.int .i64 0,.int .i64 0])∧Hid (Below w.heap.size w wr)) (fun iv _=>j' - (intOf iv).toNat)
  case atStart=>exact⟨0,Nat.zero_le _,rfl,HP1,HQ1,HB1⟩
  case round=>
   obtain⟨i,hi,rfl,HPI,HQI,HBI⟩:=hrel;have hwi:wrap64 ((i:Int)+1)=(i:Int)+1:=by have:=HJ.out;unfold wrap64;omega
   obtain⟨a,ha⟩:∃ a,a=rotP i p:=⟨_,rfl⟩
   have hin:=HIN.out i;rw[← ha] at HPI hin;obtain⟨a1,a2⟩:=a;dsimp only at HPI hin;have e0:=HPI.out.cell_ 0 (.int .i64 a1) rfl;have e1:=HPI.out.cell_ 1 (.int .i64 a2) rfl;have g0:=HPI.out.frozen 0;have g1:=HPI.out.frozen 1;have hwa:wrap64 (-a2) = -a2:=by unfold wrap64;omega
   have HA:=hid ha;clear hin ha;by_cases hij:i < j'
   ·have HIJ:=hid hij;have HK:Hid (Kept (fun g=>g=w.heap.size) wr ((wr.setCell ⟨w.heap.size,0,none⟩ (.int .i64 (-a2))).setCell ⟨w.heap.size,1,none⟩ (.int .i64 a1))):=hid (((Kept.refl (fun g=>g=w.heap.size) wr).setCell (p:=⟨w.heap.size,0,none⟩) (Or.inl rfl) _).setCell (p:=⟨w.heap.size,1,none⟩) (Or.inl rfl) _);have HP2:Hid (Blk ((wr.setCell ⟨w.heap.size,0,none⟩ (.int .i64 (-a2))).setCell ⟨w.heap.size,1,none⟩ (.int .i64 a1)) w.heap.size 43 #[.int .i64 (rotP (i+1) p).1,.int .i64 (rotP (i+1) p).2]):=hid (by
     have h1:rotP (i+1) p=(-a2,a1):=by show (-(rotP i p).2,(rotP i p).1)=_;rw[← HA.out]
     rw[h1];exact (HPI.out.set_ 0 (.int .i64 (-a2))).set_ 1 (.int .i64 a1))
    go_wp2;go_roundw
    case rel=>exact⟨i+1,HIJ.out,(by first | rfl | (rw[hwi];rfl)),HP2,hid (HK.out.blk HQI.out (fun e=>absurd e (Nat.succ_ne_self _))),hid (HBI.out.trans (HK.out.to_below HBI.out.size (fun g hg e=>by rw[e] at hg;exact Nat.lt_irrefl _ hg)))⟩
    case measure=>(try rw[hwi]);exact meas_step HIJ.out
   ·have hie:i=j':=Nat.le_antisymm hi (Nat.le_of_not_lt hij);have q0:=HQI.out.cell_ 0 (.int .i64 0) rfl;have q1:=HQI.out.cell_ 1 (.int .i64 0) rfl;have r0:=HQI.out.frozen 0;have r1:=HQI.out.frozen 1;have HS:Hid (s=(a1,a2)):=hid (by rw[← HRS.out,← hie,HA.out]);clear hie;go_wp2;have hq:Blk ((wr.setCell ⟨w.heap.size+1,0,none⟩ (.int .i64 a1)).setCell ⟨w.heap.size+1,1,none⟩ (.int .i64 a2)) (w.heap.size+1) 43 #[.int .i64 a1,.int .i64 a2]:=(HQI.out.set_ 0 (.int .i64 a1)).set_ 1 (.int .i64 a2);rw[HS.out];exact bodyPost_ret (results_cell_row Tryz.results109 _ _ (w.heap.size+1) 43 #[.int .i64 a1,.int .i64 a2] (0,0) _ rfl hq Tryz.underlying43 rfl Tryz.sizePoint) rfl
     ⟨rfl,(HBI.out.setCell (p:=⟨w.heap.size+1,0,none⟩) (Nat.le_succ _) _).setCell (p:=⟨w.heap.size+1,1,none⟩) (Nat.le_succ _) _⟩
set_option maxHeartbeats 400000 in
theorem has_any (A:Option Addr)(xs:List Int)(c:Nat)(n:Int)(w:World)(ha:Ints w A xs) :
  Calls Tryz.prog 24 #[.slice A xs.length c,.int .i64 n] w fun e w'=>e=.returned (.bool (decide (n ∈ xs)))∧w'=w:=by
 have hn:=ha.le;go_enter Tryz.func24,Tryz.ntmps24;go_wp2
 go_loop [5] (fun i=>∃ k:Nat,k≤xs.length∧i=.int .i64 k∧Hid (decide (n ∈ xs)=decide (n ∈ xs.drop k))) (fun i=>xs.length - (intOf i).toNat)
 case atStart=>exact⟨0,Nat.zero_le _,rfl,hid rfl⟩
 case round=>
  obtain⟨k,hk,rfl,HT⟩:=hrel;by_cases hlt:k < xs.length
  ·obtain⟨b1,o1,rfl,-,hc⟩:=ha.at_ hlt;have hd:decide (n ∈ xs.drop k)=decide (n=xs[k]∨n ∈ xs.drop (k+1)):=by rw[List.drop_eq_getElem_cons hlt];simp only[List.mem_cons]
   by_cases h1:xs[k]=n
   ·have hyes:decide (n ∈ xs)=true:=by rw[HT.out,hd];exact decide_eq_true (.inl h1.symm)
    have HN:=hid hyes;have d1:(xs[k] == n)=true:=by simp[h1]
    clear hyes hd h1;go_wp2;go_ret;exact⟨ret_bool HN.out.symm,rfl⟩
   ·have hyes:decide (n ∈ xs)=decide (n ∈ xs.drop (k+1)):=by
     rw[HT.out,hd];exact decide_eq_decide.2 ⟨fun h=>h.resolve_left (fun h=>h1 h.symm),.inr⟩
    have d1:(xs[k] == n)=false:=by simp[h1]
    have HY:=hid hyes;clear hyes hd h1;go_wp2
    go_round
    case rel=>exact⟨k+1,by omega,by go_num,HY⟩
    case measure=>simp[intOf];omega
  ·obtain rfl:k=xs.length:=by omega
   have hno:decide (n ∈ xs)=false:=by rw[HT.out,List.drop_length];simp
   have HN:=hid hno;clear hno;go_wp2;go_ret;exact⟨ret_bool HN.out.symm,rfl⟩
def BindB (w:World)(g:Nat)(bs:List Int):Prop:=bs.length=40∧Blk w g 139 (bs.map fun z=>Value.int .i64 z).toArray
section
variable {w w' : World} {g : Nat} {bs : List Int}
theorem BindB.lt (h:BindB w g bs):g < w.heap.size:=h.2.lt
theorem BindB.below {B:Nat}(h:BindB w g bs)(hb:Below B w w')(hg:g < B):BindB w' g bs:=⟨h.1,h.2.below hb hg⟩
theorem BindB.ext (h:BindB w g bs)(hb:Below w.heap.size w w'):BindB w' g bs:=h.below hb h.lt
theorem BindB.at_ (h:BindB w g bs){i:Nat}(hi:i < 40):w.cell? ⟨g,i,none⟩=some (.int .i64 (bs.getD i 0)):=by
 have hl:i < bs.length:=by rw[h.1];exact hi
 refine h.2.cell_ i _ ?_;rw[List.getElem?_toArray,List.getElem?_map,List.getElem?_eq_getElem hl,List.getD_eq_getElem?_getD,List.getElem?_eq_getElem hl];rfl
theorem BindB.set (h:BindB w g bs)(i:Nat)(z:Int):BindB (w.setCell ⟨g,i,none⟩ (.int .i64 z)) g (bs.set i z):=by
 refine⟨by rw[List.length_set];exact h.1,?_⟩;have:=h.2.set_ i (.int .i64 z);rw[List.map_set];simpa using this
theorem BindB.new (w:World):BindB (w.alloc (.cells (((List.replicate 40 (0:Int)).map fun z=>Value.int .i64 z).toArray) 139)) w.heap.size (List.replicate 40 0):=⟨by simp,Blk.new _ _ _⟩
end
def negTo (i:Nat):List Int:=List.replicate i (-1) ++ List.replicate (40 - i) 0
theorem negTo_step {i:Nat}(h:i < 40):(negTo i).set i (-1)=negTo (i+1):=by
 have:∀ i:Fin 40,(negTo i.1).set i.1 (-1)=negTo (i.1+1):=by decide
 exact this ⟨i,h⟩
set_option maxHeartbeats 4000000 in
theorem none_any (w:World):Calls Tryz.prog 111 #[] w fun e w'=>∃ g,e=.returned (.pointer (some ⟨g,0,none⟩))∧w.heap.size≤g∧BindB w' g (List.replicate 40 (-1))∧Below w.heap.size w w':=by
 obtain⟨w0,hw0⟩:∃ w0,w0=w.alloc (.cells (((List.replicate 40 (0:Int)).map fun z=>Value.int .i64 z).toArray) 139):=⟨_,rfl⟩
 have hb0:Below w.heap.size w w0:=by rw[hw0];exact below_new _ _
 have q0:BindB w0 w.heap.size (negTo 0):=by rw[hw0];exact BindB.new w
 go_enter Tryz.func111,Tryz.ntmps111;go_upto_region 2 with fail
 rw[show w.alloc (.cells #[.int .i64 0,.int .i64 0,.int .i64 0,.int .i64 0,.int .i64 0,.int .i64 0,.int .i64 0,.int .i64 0,.int .i64 0,.int .i64 0,.int .i64 0,.int .i64 0,.int .i64 0,.int .i64 0,.int .i64 0,.int .i64 0,.int .i64 0,.int .i64 0,.int .i64 0,.int .i64 0,.int .i64 0,.int .i64 0,.int .i64 0,.int .i64 0,.int .i64 0,.int .i64 0,.int .i64 0,.int .i64 0,.int .i64 0,.int .i64 0,.int .i64 0,.int .i64 0,.int .i64 0,.int .i64 0,.int .i64 0,.int .i64 0,.int .i64 0,.int .i64 0,.int .i64 0,.int .i64 0] 139)=w0 from by rw[hw0];rfl];obtain⟨g,hg⟩:∃ g,g=w.heap.size:=⟨_,rfl⟩
 rw[← hg] at q0 ⊢;have HG:Hid (w.heap.size≤g):=hid (by rw[hg];exact Nat.le_refl _);have HGE:Hid (g=w.heap.size):=hid hg;have HQ:=hid q0;have HB0:=hid hb0;clear hg q0 hb0 hw0;go_wp2;go_loopw [3] (fun iv wr=>∃ i:Nat,i≤40∧iv=.int .i64 i∧Hid (BindB wr g (negTo i))∧Hid (Below w.heap.size w wr)) (fun iv _=>40 - (intOf iv).toNat)
 case atStart=>exact⟨0,Nat.zero_le _,rfl,HQ,HB0⟩
 case round=>
  obtain⟨i,hi,rfl,HBI,HBW⟩:=hrel;by_cases hil:i < 40
  ·have c0:=HBI.out.at_ hil;have f0:=HBI.out.2.frozen i;have HI:=hid hil;have hwi:wrap64 ((i:Int)+1)=(i:Int)+1:=by unfold wrap64;omega
   have HWI:=hid hwi;have HB1:Hid (BindB (wr.setCell ⟨g,i,none⟩ (.int .i64 (-1))) g (negTo (i+1))):=hid (by rw[← negTo_step hil];exact HBI.out.set i (-1));have HW1:Hid (Below w.heap.size w (wr.setCell ⟨g,i,none⟩ (.int .i64 (-1)))):=hid (HBW.out.setCell (p:=⟨g,i,none⟩) HG.out _);have hd:decide ((i:Int) < 40)=true:=decide_eq_true (by omega);clear hi hwi;go_wp2;go_roundw
   case rel=>exact⟨i+1,HI.out,(by first | rfl | (rw[HWI.out];rfl)),HB1,HW1⟩
   case measure=>(try rw[HWI.out]);exact meas_step HI.out
  ·obtain rfl:i=40:=Nat.le_antisymm hi (Nat.le_of_not_lt hil);have hd:decide (((40:Nat):Int) < 40)=false:=by decide
   clear hi hil;go_wp2;go_ret;exact⟨g,rfl,HG.out,HBI.out,HBW.out⟩
def acceptP (vars:List (List Int))(bs:List Int)(e s:Int):Bool × Bool × List Int:=
 if 0≤e then (e == s,false,bs)
 else if 0≤bs.getD (-1 - e).toNat 0 then (bs.getD (-1 - e).toNat 0 == s,false,bs)
 else if s ∈ vars.getD (-1 - e).toNat [] then (true,true,bs.set (-1 - e).toNat s) else (false,false,bs)
set_option maxHeartbeats 8000000 in
theorem accept_any (g:Nat)(hA:Option Addr)(hc:Nat)(vA:Option Addr)(vc:Nat)(rA:Option Addr)(rc:Nat)(t:TabH)(bs:List Int)(e s:Int)(w:World)(hB:BindB w g bs)(hV:Vrs w vA t.vs)(he:e < 0→(-1 - e).toNat < t.vs.length)(h40:t.vs.length≤40)(hmn:-1000000≤e) :
  Calls Tryz.prog 112 #[.pointer (some ⟨g,0,none⟩),tabV hA hc vA vc rA rc t,.int .i64 e,.int .i64 s] w fun en w'=>en=.returned (.tuple #[.bool (acceptP (t.vs.map Vh.zs) bs e s).1,.bool (acceptP (t.vs.map Vh.zs) bs e s).2.1])∧BindB w' g (acceptP (t.vs.map Vh.zs) bs e s).2.2∧Kept (fun x=>x=g) w w':=by
 obtain⟨st,sym,hood,vs,rs⟩:=t;unfold tabV;dsimp only at hV he h40 ⊢;obtain⟨w0,hw0⟩:∃ w0,w0=w.alloc (.cells #[.int .i64 st,.int .i64 sym,.slice hA hood.length hc,.slice vA vs.length vc,.slice rA rs.length rc] 26):=⟨_,rfl⟩
 have hb0:Below w.heap.size w w0:=by rw[hw0];exact below_new _ _
 have q0:Blk w0 w.heap.size 26 #[.int .i64 st,.int .i64 sym,.slice hA hood.length hc,.slice vA vs.length vc,.slice rA rs.length rc]:=by rw[hw0];exact Blk.new _ _ _
 obtain⟨gT,hgT⟩:∃ g,g=w.heap.size:=⟨_,rfl⟩
 rw[← hgT] at q0;have hB0:=hB.ext hb0;have HB0:=hid hB0;have HK0:Hid (Kept (fun x=>x=g) w w0):=hid (Kept.of_new _ hb0);have HW0:=hid (And.intro hw0 hgT);have HV:=hid (hV.ext hb0);have c3:=q0.cell_ 3 (.slice vA vs.length vc) rfl;obtain⟨ok,hok⟩:∃ ok,ok=(acceptP (vs.map Vh.zs) bs e s).1:=⟨_,rfl⟩
 obtain⟨fr,hfr⟩:∃ fr,fr=(acceptP (vs.map Vh.zs) bs e s).2.1:=⟨_,rfl⟩
 obtain⟨b',hb'⟩:∃ b',b'=(acceptP (vs.map Vh.zs) bs e s).2.2:=⟨_,rfl⟩
 rw[← hok,← hfr,← hb'];have HR:Hid (acceptP (vs.map Vh.zs) bs e s=(ok,fr,b')):=hid (by rw[hok,hfr,hb']);clear hb0 q0 hw0 hgT hB hV hok hfr hb' hB0;by_cases h0:0≤e
 ·have hE:acceptP (vs.map Vh.zs) bs e s=(e == s,false,bs):=if_pos h0;rw[hE] at HR;have h1:=HR.out;injection h1 with h1 h2
  injection h2 with h2 h3
  subst h1 h2 h3;have d0:decide (0≤e)=true:=decide_eq_true h0;clear hE h0 he hmn;go_enter Tryz.func112,Tryz.ntmps112;go_upto_region 1 with fail
  rw[← HW0.out.1,← HW0.out.2];go_wp2;go_ret2;exact⟨rfl,HB0.out,HK0.out⟩
 ·have d0:decide (0≤e)=false:=decide_eq_false h0;have hvl:=he (by omega);obtain⟨v,hv⟩:∃ v:Nat,-1 - e=(v:Int):=⟨(-1 - e).toNat,by omega⟩
  have hv':(-1 - e).toNat=v:=by omega
  rw[hv'] at hvl;have hwv:wrap64 (-1 - e)=(v:Int):=by unfold wrap64;omega
  have h40v:v < 40:=by omega
  have c0:=HB0.out.at_ h40v;have f0:=HB0.out.2.frozen v;obtain⟨bz,hbz⟩:∃ z,z=bs.getD v 0:=⟨_,rfl⟩
  rw[← hbz] at c0;have HWV:=hid hwv;by_cases h1:0≤bz
  ·have hE:acceptP (vs.map Vh.zs) bs e s=(bz == s,false,bs):=by
    unfold acceptP;rw[if_neg h0,hv',← hbz,if_pos h1]
   rw[hE] at HR;have h1':=HR.out;injection h1' with h1' h2
   injection h2 with h2 h3
   subst h1' h2 h3;have d1:decide (0≤bz)=true:=decide_eq_true h1;clear hE h0 he hmn hv hv' hvl hbz h1;go_enter Tryz.func112,Tryz.ntmps112;go_upto_region 1 with fail
   rw[← HW0.out.1,← HW0.out.2];go_wp2;go_ret2;exact⟨rfl,HB0.out,HK0.out⟩
  ·have d1:decide (0≤bz)=false:=decide_eq_false h1;obtain⟨vb,vo,ea,-,hca,hia⟩:=HV.out.at_ hvl;subst ea;obtain⟨xh,hxh⟩:∃ z,z=vs[v]:=⟨_,rfl⟩
   rw[← hxh] at hca hia;have hget:(vs.map Vh.zs).getD v []=xh.zs:=by rw[hxh,List.getD_eq_getElem?_getD,List.getElem?_map,List.getElem?_eq_getElem hvl];rfl
   obtain⟨xA,xc,zs⟩:=xh;dsimp only at hca hia hget;have hcall:=contains_any xA zs xc s w0 hia;have hE:acceptP (vs.map Vh.zs) bs e s=if s ∈ zs then (true,true,bs.set v s) else (false,false,bs):=by
    unfold acceptP;rw[if_neg h0,hv',← hbz,if_neg h1,hget]
   rw[hE] at HR;have hvs9:=HV.out.le;by_cases hm:s ∈ zs
   ·rw[decide_eq_true hm] at hcall;rw[if_pos hm] at HR;have h1':=HR.out;injection h1' with h1' h2
    injection h2 with h2 h3
    subst h1' h2 h3;have HCALL:=hid hcall;have HB1:=hid (HB0.out.set v s);have HK1:Hid (Kept (fun x=>x=g) w (w0.setCell ⟨g,v,none⟩ (.int .i64 s))):=hid (HK0.out.setCell (p:=⟨g,v,none⟩) (Or.inl rfl) _);clear hE h0 he hmn hv hv' hbz h1 hm hcall hget hxh hia;go_enter Tryz.func112,Tryz.ntmps112;go_upto_region 1 with fail
    rw[← HW0.out.1,← HW0.out.2];go_wp2_with (go_at_call 30;refine HCALL.out.mono ?_;rintro en w2 ⟨rfl,rfl⟩;refine Hid.out ?_);refine hid ?_;go_wp2;go_ret2;exact⟨rfl,HB1.out,HK1.out⟩
   ·rw[decide_eq_false hm] at hcall;rw[if_neg hm] at HR;have h1':=HR.out;injection h1' with h1' h2
    injection h2 with h2 h3
    subst h1' h2 h3;have HCALL:=hid hcall;clear hE h0 he hmn hv hv' hbz h1 hm hcall hget hxh hia;go_enter Tryz.func112,Tryz.ntmps112;go_upto_region 1 with fail
    rw[← HW0.out.1,← HW0.out.2];go_wp2_with (go_at_call 30;refine HCALL.out.mono ?_;rintro en w2 ⟨rfl,rfl⟩;refine Hid.out ?_);refine hid ?_;go_wp2;go_ret2;exact⟨rfl,HB0.out,HK0.out⟩
def outP (bs:List Int)(out:Int):Int:=if 0≤out then out else bs.getD (-1 - out).toNat 0
set_option maxHeartbeats 4000000 in
theorem out_any (g:Nat)(A:Option Addr)(n c:Nat)(bs:List Int)(out:Int)(w:World)(hB:BindB w g bs)(he:out < 0→(-1 - out).toNat < 40)(hmn:-1000000≤out) :
  Calls Tryz.prog 114 #[.pointer (some ⟨g,0,none⟩),.agg #[.slice A n c,.int .i64 out]] w fun en w'=>en=.returned (.int .i64 (outP bs out))∧Below w.heap.size w w':=by
 obtain⟨w0,hw0⟩:∃ w0,w0=w.alloc (.cells #[.slice A n c,.int .i64 out] 48):=⟨_,rfl⟩
 have hb0:Below w.heap.size w w0:=by rw[hw0];exact below_new _ _
 have q0:Blk w0 w.heap.size 48 #[.slice A n c,.int .i64 out]:=by rw[hw0];exact Blk.new _ _ _
 obtain⟨gT,hgT⟩:∃ g,g=w.heap.size:=⟨_,rfl⟩
 rw[← hgT] at q0;have HBB:=hid (hB.ext hb0);have HB0:=hid hb0;have HW0:=hid (And.intro hw0 hgT);have c1:=q0.cell_ 1 (.int .i64 out) rfl;clear hb0 q0 hw0 hgT hB;by_cases h0:0≤out
 ·have HE:Hid (outP bs out=out):=hid (if_pos h0);have d0:decide (0≤out)=true:=decide_eq_true h0;clear h0 he hmn;go_enter Tryz.func114,Tryz.ntmps114;go_upto_region 1 with fail
  rw[← HW0.out.1,← HW0.out.2];go_wp2;go_ret;exact⟨ret_int HE.out.symm,HB0.out⟩
 ·have d0:decide (0≤out)=false:=decide_eq_false h0;have h40v:=he (by omega);obtain⟨v,hv⟩:∃ v:Nat,-1 - out=(v:Int):=⟨(-1 - out).toNat,by omega⟩
  have hv':(-1 - out).toNat=v:=by omega
  rw[hv'] at h40v;have HE:Hid (outP bs out=bs.getD v 0):=hid (by unfold outP;rw[if_neg h0,hv']);have hwv:wrap64 (-1 - out)=(v:Int):=by unfold wrap64;omega
  have c0:=HBB.out.at_ h40v;obtain⟨bz,hbz⟩:∃ z,z=bs.getD v 0:=⟨_,rfl⟩
  rw[← hbz] at c0 HE;clear h0 he hmn hv hv' hbz;go_enter Tryz.func114,Tryz.ntmps114;go_upto_region 1 with fail
  rw[← HW0.out.1,← HW0.out.2];go_upto_region 3 with fail
  go_quiet (fail)
  go_wp2;go_ret;exact⟨ret_int HE.out.symm,HB0.out.trans ((below_drewN (Below.refl _ _) _).mono HB0.out.size)⟩
def bindAll (vars:List (List Int)):List Int→List Int→List Int→Option (List Int)
 | [],_,bs=>some bs
 | _ :: _,[],_=>none
 | e :: l,s :: r,bs=>if (acceptP vars bs e s).1=true then bindAll vars l r (acceptP vars bs e s).2.2 else none
def negL:List Int:=List.replicate 40 (-1)
def plainP (vars:List (List Int))(ins:List Int)(out:Int)(inn:List Int):Int × Bool:=match bindAll vars ins inn negL with
 | some bs=>(outP bs out,true)
 | none=>(0,false)
theorem plainP_some {vars:List (List Int)}{ins inn bs:List Int}{out:Int}(h:bindAll vars ins inn negL=some bs):plainP vars ins out inn=(outP bs out,true):=by unfold plainP;rw[h]
theorem plainP_none {vars:List (List Int)}{ins inn:List Int}{out:Int}(h:bindAll vars ins inn negL=none):plainP vars ins out inn=(0,false):=by unfold plainP;rw[h]
theorem bindAll_step {vars:List (List Int)}{ins inn bs:List Int}{i:Nat}(h1:i < ins.length)(h2:i < inn.length):bindAll vars (ins.drop i) (inn.drop i) bs=if (acceptP vars bs ins[i] inn[i]).1=true then bindAll vars (ins.drop (i+1)) (inn.drop (i+1)) (acceptP vars bs ins[i] inn[i]).2.2 else none:=by
 rw[List.drop_eq_getElem_cons h1,List.drop_eq_getElem_cons h2];rfl
def ElOk (n:Nat)(e:Int):Prop:=(e < 0→(-1 - e).toNat < n)∧-1000000≤e
structure Pl5J (V:World)(g:Nat)(tv:Value)(ee:Int)(iv:Value)(i:Nat)(ib:Nat)(io:Nat)(ss:Int)(ok:Bool)(fv:Bool)(bb:List Int)(b0 b1 b2 b3 b4 b5 b6 b7 b8 b9 b10 b11 b12:Bool)(v23 v24 v25 v26 v27 v28 v29 v30 v22 v31 v32 v11 v12:Value)(w:World):Prop where
 h0:b0=true→v23=.pointer (some ⟨g,0,none⟩)
 h1:b1=true→v24=tv
 h2:b2=true→v25=.int .i64 ee
 h3:b3=true→v26=iv
 h4:b4=true→v27=.int .i64 (i:Int)
 h5:b5=true→v28=.pointer (some ⟨ib,io+i,none⟩)
 h6:b6=true→v29=.int .i64 ss
 h7:b7=true→v30=.tuple #[.bool ok,.bool fv]
 h8:b8=true→v22=.tuple #[.bool ok,.bool fv]
 h9:b9=true→v31=.bool ok
 h10:b10=true→v32=.bool fv
 h11:b11=true→v11=.bool ok
 h12:b12=true→v12=.bool fv
 wa:b7=false→w=V.drew
 wd:b7=true→BindB w g bb∧Kept (fun x=>x=g) V.drew w
 o5:b5=true→b3=true∧b4=true
 o6:b6=true→b5=true
 o7:b7=true→b0=true∧b1=true∧b2=true∧b6=true
 o8:b8=true→b7=true
 o9:b9=true→b8=true
 o10:b10=true→b8=true
 o11:b11=true→b9=true
 o12:b12=true→b10=true∧b11=true
set_option maxHeartbeats 16000000 in
theorem plain_any (hA:Option Addr)(hc:Nat)(vA:Option Addr)(vc:Nat)(rA:Option Addr)(rc:Nat)(t:TabH)(zA:Option Addr)(zc:Nat)(ins:List Int)(out:Int)(iA:Option Addr)(ic:Nat)(inn:List Int)(w:World)(hV:Vrs w vA t.vs)(h40:t.vs.length≤40)(hz:Ints w zA ins)(hi:Ints w iA inn)(hl:ins.length≤inn.length)(hl9:ins.length≤100)(he:∀ e ∈ ins,ElOk t.vs.length e)(ho:ElOk t.vs.length out) :
  Calls Tryz.prog 76 #[tabV hA hc vA vc rA rc t,.agg #[.slice zA ins.length zc,.int .i64 out],.slice iA inn.length ic] w fun en w'=>en=.returned (.tuple #[.int .i64 (plainP (t.vs.map Vh.zs) ins out inn).1,.bool (plainP (t.vs.map Vh.zs) ins out inn).2])∧Below w.heap.size w w':=by
 obtain⟨st,sym,hood,vs,rs⟩:=t;unfold tabV;dsimp only at hV h40 he ho ⊢;obtain⟨w0,hw0⟩:∃ w0,w0=(w.alloc (.cells #[.int .i64 st,.int .i64 sym,.slice hA hood.length hc,.slice vA vs.length vc,.slice rA rs.length rc] 26)).alloc (.cells #[.slice zA ins.length zc,.int .i64 out] 48):=⟨_,rfl⟩
 have hb0:Below w.heap.size w w0:=by rw[hw0];exact (below_new _ _).alloc (by simp) _
 have p0:Blk w0 w.heap.size 26 #[.int .i64 st,.int .i64 sym,.slice hA hood.length hc,.slice vA vs.length vc,.slice rA rs.length rc]:=by rw[hw0];exact (Blk.new w _ _).alloc _
 have q0:Blk w0 (w.heap.size+1) 48 #[.slice zA ins.length zc,.int .i64 out]:=by rw[hw0];have:=Blk.new (w.alloc (.cells #[.int .i64 st,.int .i64 sym,.slice hA hood.length hc,.slice vA vs.length vc,.slice rA rs.length rc] 26)) 48 #[.slice zA ins.length zc,.int .i64 out];simpa using this
 have HB0:=hid hb0;have HP:=hid p0;have HQ:=hid q0;have HW0:=hid hw0;have HV:=hid (And.intro hV h40);have HZ:=hid (And.intro hz (And.intro hi hl));have HE:=hid (And.intro he ho);obtain⟨vars,hvars⟩:∃ v,v=vs.map Vh.zs:=⟨_,rfl⟩
 rw[← hvars];have HVS:=hid hvars;have hin9:inn.length≤9223372036854775807:=hi.le;clear hb0 p0 q0 hw0 hV h40 hz hi he ho hvars hl;go_enter Tryz.func76,Tryz.ntmps76;go_upto_region 1 with fail
 rw[← HW0.out];have HN:=hid (none_any w0);go_wp2_with (go_at_call 111;refine HN.out.mono ?_;rintro e w1 ⟨g,rfl,hg,hbb,hb1⟩;refine Hid.out ?_);refine hid ?_;have HG:=hid (And.intro hg hb1);have HBB:=hid hbb;have c0:=(HQ.out.below hb1 HQ.out.lt).cell_ 0 (.slice zA ins.length zc) rfl;clear hg hbb hb1 HN;go_wp2;clear c0;go_loopw [17] (fun iv wr=>∃ (i:Nat) (bs:List Int),i≤ins.length∧iv=.int .i64 i∧Hid (BindB wr g bs)∧Hid (Below w0.heap.size w0 wr)∧Hid (bindAll vars ins inn negL=bindAll vars (ins.drop i) (inn.drop i) bs)) (fun iv _=>ins.length - (intOf iv).toNat)
 case atStart=>exact⟨0,negL,Nat.zero_le _,rfl,HBB,hid HG.out.2,hid rfl⟩
 case round=>
  obtain⟨i,bs,hi,rfl,HBI,HBW,HT⟩:=hrel;by_cases hil:i < ins.length
  ·have hil2:i < inn.length:=Nat.lt_of_lt_of_le hil HZ.out.2.2;have hz0:=HZ.out.1.ext (HB0.out.trans (HBW.out.mono HB0.out.size));have hi0:=HZ.out.2.1.ext (HB0.out.trans (HBW.out.mono HB0.out.size));obtain⟨zb,zo,ez,-,hcz⟩:=hz0.at_ hil;obtain⟨ib,io,ei,-,hci⟩:=hi0.at_ hil2;have HS:=hid (HT.out.trans (bindAll_step hil hil2));have hel:=HE.out.1 ins[i] (List.getElem_mem hil);obtain⟨e,hee⟩:∃ e,e=ins[i]:=⟨_,rfl⟩
   obtain⟨s,hss⟩:∃ s,s=inn[i]:=⟨_,rfl⟩
   rw[← hee] at hcz hel HS;rw[← hss] at hci HS;subst ez ei;have HEL:=hid hel;have HI:=hid (And.intro hil hil2);have hwi:wrap64 ((i:Int)+1)=(i:Int)+1:=by unfold wrap64;omega
   have HWI:=hid hwi;have HPI:=hid (HP.out.below HBW.out HP.out.lt);have hcall:=fun (W:World) (hW:BindB W g bs) (hV2:Vrs W vA vs)=>accept_any g hA hc vA vc rA rc ⟨st,sym,hood,vs,rs⟩ bs e s W hW hV2 HEL.out.1 HV.out.2 HEL.out.2;dsimp only at hcall;rw[← HVS.out] at hcall;obtain⟨ok,hok⟩:∃ x,x=(acceptP vars bs e s).1:=⟨_,rfl⟩
   obtain⟨fv,hfv⟩:∃ x,x=(acceptP vars bs e s).2.1:=⟨_,rfl⟩
   obtain⟨b',hb'⟩:∃ x,x=(acceptP vars bs e s).2.2:=⟨_,rfl⟩
   rw[← hok,← hb'] at HS;rw[← hok,← hfv,← hb'] at hcall;have HCALL:=hid hcall;have HVW:Hid (Vrs wr vA vs):=hid (HV.out.1.ext (HB0.out.trans (HBW.out.mono HB0.out.size)));have HCI:=hid hci;clear hee hss hok hfv hb' hcall hel hz0 hi0 hi hwi hci;go_upto_region 5 with fail
   refine wp_region_J (by kernel_rfl) (fun listed act w'=>∃ b0 b1 b2 b3 b4 b5 b6 b7 b8 b9 b10 b11 b12 v23 v24 v25 v26 v27 v28 v29 v30 v22 v31 v32 v11 v12,listed=#[b0,b1,b2,b3,b4,b5,b6,b7,b8,b9,b10,b11,b12]∧act=Act.mk #[.agg #[.int .i64 st,.int .i64 sym,.slice hA hood.length hc,.slice vA vs.length vc,.slice rA rs.length rc],.agg #[.slice (some ⟨zb,zo,none⟩) ins.length zc,.int .i64 out],.slice (some ⟨ib,io,none⟩) inn.length ic,.pointer (some ⟨w.heap.size,0,none⟩),.pointer (some ⟨w.heap.size+1,0,none⟩),undef,u6,u7,.pointer (some ⟨g,0,none⟩),.int .i64 ↑i,.int .i64 e,v11,v12,.pointer (some ⟨g,0,none⟩),.pointer (some ⟨w.heap.size+1,0,none⟩),.slice (some ⟨zb,zo,none⟩) ins.length zc,.int .i64 ↑ins.length,.int .i64 ↑i,.bool true,.int .i64 ↑i,.pointer (some ⟨zb,zo+i,none⟩),.int .i64 e,v22,v23,v24,v25,v26,v27,v28,v29,v30,v31,v32,u33,u34,u35,undef,undef,undef] []∧Pl5J wr (g) (.agg #[.int .i64 st,.int .i64 sym,.slice hA hood.length hc,.slice vA vs.length vc,.slice rA rs.length rc]) (e) (.slice (some ⟨ib,io,none⟩) inn.length ic) (i) (ib) (io) (s) (ok) (fv) (b') b0 b1 b2 b3 b4 b5 b6 b7 b8 b9 b10 b11 b12 v23 v24 v25 v26 v27 v28 v29 v30 v22 v31 v32 v11 v12 w') ?_ ?_ ?_
   ·exact (e_8 (e_8 (e_8 (e_2 ⟨rfl,rfl,(by constructor;(case wa=>exact (fun _=>rfl));all_goals simp)⟩))))
   ·rintro i listed act w' hi ⟨b0,b1,b2,b3,b4,b5,b6,b7,b8,b9,b10,b11,b12,v23,v24,v25,v26,v27,v28,v29,v30,v22,v31,v32,v11,v12,rfl,rfl,H⟩;have hi16:i < 13:=by
     obtain⟨-,o,ho,-⟩:=mem_ready.1 hi;exact (Array.getElem?_eq_some_iff.1 ho).1
    obtain rfl | rfl | rfl | rfl | rfl | rfl | rfl | rfl | rfl | rfl | rfl | rfl | rfl:i=0∨i=1∨i=2∨i=3∨i=4∨i=5∨i=6∨i=7∨i=8∨i=9∨i=10∨i=11∨i=12:=by omega
    all_goals simp[mem_ready,Region.binds] at hi
    ·refine wpOp_hidden rfl fun K hK=>?_;go_wp2;refine OnlyN.mk (hK.out _ _ (e_8 (e_8 (e_8 (e_2 ⟨rfl,rfl,{ H with h0:=fun _=>rfl,o7:=fun h=>⟨rfl,(H.o7 h).2.1,(H.o7 h).2.2.1,(H.o7 h).2.2.2⟩ }⟩)))))
    ·have bcf:b7=false:=by
      cases hb:b7 with
      | false=>rfl
      | true=>exact absurd (H.o7 hb).2.1 (by simp[hi])
     obtain rfl:=H.wa bcf;have BCF:=hid bcf;clear bcf;have hcc:=HPI.out.below (Below.refl _ wr).drew HPI.out.lt;have cc0:=hcc.cell_ 0 (.int .i64 st) rfl;have cc1:=hcc.cell_ 1 (.int .i64 sym) rfl;have cc2:=hcc.cell_ 2 (.slice hA hood.length hc) rfl;have cc3:=hcc.cell_ 3 (.slice vA vs.length vc) rfl;have cc4:=hcc.cell_ 4 (.slice rA rs.length rc) rfl;clear hcc;refine wpOp_hidden rfl fun K hK=>?_;go_wp2;refine OnlyN.mk (hK.out _ _ (e_8 (e_8 (e_8 (e_2 ⟨rfl,rfl,{ H with h1:=fun _=>rfl,o7:=fun h=>⟨(H.o7 h).1,rfl,(H.o7 h).2.2.1,(H.o7 h).2.2.2⟩ }⟩)))))
    ·refine wpOp_hidden rfl fun K hK=>?_;go_wp2;refine OnlyN.mk (hK.out _ _ (e_8 (e_8 (e_8 (e_2 ⟨rfl,rfl,{ H with h2:=fun _=>rfl,o7:=fun h=>⟨(H.o7 h).1,(H.o7 h).2.1,rfl,(H.o7 h).2.2.2⟩ }⟩)))))
    ·refine wpOp_hidden rfl fun K hK=>?_;go_wp2;refine OnlyN.mk (hK.out _ _ (e_8 (e_8 (e_8 (e_2 ⟨rfl,rfl,{ H with h3:=fun _=>rfl,o5:=fun h=>⟨rfl,(H.o5 h).2⟩ }⟩)))))
    ·refine wpOp_hidden rfl fun K hK=>?_;go_wp2;refine OnlyN.mk (hK.out _ _ (e_8 (e_8 (e_8 (e_2 ⟨rfl,rfl,{ H with h4:=fun _=>rfl,o5:=fun h=>⟨(H.o5 h).1,rfl⟩ }⟩)))))
    ·obtain rfl:=H.h3 (by simp[hi]);obtain rfl:=H.h4 (by simp[hi]);refine wpOp_hidden rfl fun K hK=>?_;go_wp2;refine OnlyN.mk (hK.out _ _ (e_8 (e_8 (e_8 (e_2 ⟨rfl,rfl,{ H with h5:=fun _=>rfl,o5:=fun _=>(by simp[hi]),o6:=fun h=>rfl }⟩)))))
    ·obtain rfl:=H.h5 (by simp[hi]);have bcf:b7=false:=by
      cases hb:b7 with
      | false=>rfl
      | true=>exact absurd (H.o7 hb).2.2.2 (by simp[hi])
     obtain rfl:=H.wa bcf;have BCF:=hid bcf;clear bcf;have cc:(World.drew wr).cell? ⟨ib,io+i,none⟩=some (.int .i64 s):=HCI.out;refine wpOp_hidden rfl fun K hK=>?_;go_wp2;refine OnlyN.mk (hK.out _ _ (e_8 (e_8 (e_8 (e_2 ⟨rfl,rfl,{ H with h6:=fun _=>rfl,o6:=fun _=>(by simp[hi]),o7:=fun h=>⟨(H.o7 h).1,(H.o7 h).2.1,(H.o7 h).2.2.1,rfl⟩ }⟩)))))
    ·obtain rfl:=H.h0 (by simp[hi]);obtain rfl:=H.h1 (by simp[hi]);obtain rfl:=H.h2 (by simp[hi]);obtain rfl:=H.h6 (by simp[hi]);obtain rfl:=H.wa (by simp[hi]);refine wpOp_hidden rfl fun K hK=>?_;have hB7:BindB (World.drew wr) g bs:=HBI.out.ext (Below.refl _ wr).drew;have hcall7:=HCALL.out (World.drew wr) hB7 (HVW.out.ext (Below.refl _ wr).drew);have HC7:=hid hcall7;clear hcall7 hB7;go_wp2_with (go_at_call 112;refine HC7.out.mono ?_;rintro en w9 ⟨rfl,hb9,hk9⟩;refine Hid.out ?_);refine hid ?_;have HB9:=hid hb9;have HK9:=hid hk9;clear hb9 hk9 HC7;go_wp2;refine OnlyN.mk (hK.out _ _ (e_8 (e_8 (e_8 (e_2 ⟨rfl,rfl,{ H with h7:=fun _=>rfl,wa:=fun h=>(by cases h),wd:=fun _=>⟨HB9.out,HK9.out⟩,o7:=fun _=>(by simp[hi]),o8:=fun h=>rfl }⟩)))))
    ·obtain rfl:=H.h7 (by simp[hi]);refine wpOp_hidden rfl fun K hK=>?_;go_wp2;refine OnlyN.mk (hK.out _ _ (e_8 (e_8 (e_8 (e_2 ⟨rfl,rfl,{ H with h8:=fun _=>rfl,o8:=fun _=>(by simp[hi]),o9:=fun h=>rfl,o10:=fun h=>rfl }⟩)))))
    ·obtain rfl:=H.h8 (by simp[hi]);refine wpOp_hidden rfl fun K hK=>?_;go_wp2;refine OnlyN.mk (hK.out _ _ (e_8 (e_8 (e_8 (e_2 ⟨rfl,rfl,{ H with h9:=fun _=>rfl,o9:=fun _=>(by simp[hi]),o11:=fun h=>rfl }⟩)))))
    ·obtain rfl:=H.h8 (by simp[hi]);refine wpOp_hidden rfl fun K hK=>?_;go_wp2;refine OnlyN.mk (hK.out _ _ (e_8 (e_8 (e_8 (e_2 ⟨rfl,rfl,{ H with h10:=fun _=>rfl,o10:=fun _=>(by simp[hi]),o12:=fun h=>⟨rfl,(H.o12 h).2⟩ }⟩)))))
    ·obtain rfl:=H.h9 (by simp[hi]);refine wpOp_hidden rfl fun K hK=>?_;go_wp2;refine OnlyN.mk (hK.out _ _ (e_8 (e_8 (e_8 (e_2 ⟨rfl,rfl,{ H with h11:=fun _=>rfl,o11:=fun _=>(by simp[hi]),o12:=fun h=>⟨(H.o12 h).1,rfl⟩ }⟩)))))
    ·obtain rfl:=H.h10 (by simp[hi]);obtain rfl:=H.h11 (by simp[hi]);refine wpOp_hidden rfl fun K hK=>?_;go_wp2;refine OnlyN.mk (hK.out _ _ (e_8 (e_8 (e_8 (e_2 ⟨rfl,rfl,{ H with h12:=fun _=>rfl,o12:=fun _=>(by simp[hi]) }⟩)))))
   ·rintro listed act w' hr ⟨b0,b1,b2,b3,b4,b5,b6,b7,b8,b9,b10,b11,b12,v23,v24,v25,v26,v27,v28,v29,v30,v22,v31,v32,v11,v12,rfl,rfl,H⟩;have hn:=List.eq_nil_iff_forall_not_mem.1 hr;have r0:=hn 0;simp[mem_ready,Region.binds] at r0;subst r0;have r1:=hn 1;simp[mem_ready,Region.binds] at r1;subst r1;have r2:=hn 2;simp[mem_ready,Region.binds] at r2;subst r2;have r3:=hn 3;simp[mem_ready,Region.binds] at r3;subst r3;have r4:=hn 4;simp[mem_ready,Region.binds] at r4;subst r4;have r5:=hn 5;simp[mem_ready,Region.binds] at r5;subst r5;have r6:=hn 6;simp[mem_ready,Region.binds] at r6;subst r6;have r7:=hn 7;simp[mem_ready,Region.binds] at r7;subst r7;have r8:=hn 8;simp[mem_ready,Region.binds] at r8;subst r8;have r9:=hn 9;simp[mem_ready,Region.binds] at r9;subst r9;have r10:=hn 10;simp[mem_ready,Region.binds] at r10;subst r10;have r11:=hn 11;simp[mem_ready,Region.binds] at r11;subst r11;have r12:=hn 12;simp[mem_ready,Region.binds] at r12;subst r12;try dsimp only
    obtain⟨hb9,hk9⟩:=H.wd rfl;obtain rfl:=H.h11 rfl;obtain rfl:=H.h12 rfl;obtain⟨w6,rfl⟩:∃ w6:World,w6=w':=⟨_,rfl⟩
    have HB6:=hid hb9;have HW6:Hid (Below w0.heap.size w0 w6):=hid (HBW.out.trans ((((Kept.refl (fun x=>x=g) wr).drew).trans hk9).to_below HBW.out.size (fun x hx e=>by have:=HG.out.1;omega)));clear H hr hn hb9 hk9;cases ok with
    | false=>
     have HPL:Hid (plainP vars ins out inn=(0,false)):=hid (plainP_none (by rw[HS.out];rfl));go_wp2;go_ret2;exact⟨(by first | (rw[HPL.out];done) | (rw[HPL.out];rfl)),HB0.out.trans (HW6.out.mono HB0.out.size)⟩
    | true=>
     have HT2:Hid (bindAll vars ins inn negL=bindAll vars (ins.drop (i+1)) (inn.drop (i+1)) b'):=hid (by rw[HS.out];rfl);go_wp2;go_roundw
     case rel=>exact⟨i+1,b',HI.out.1,(by first | rfl | (rw[HWI.out];rfl)),HB6,HW6,HT2⟩
     case measure=>(try rw[HWI.out]);exact meas_step HI.out.1
  ·obtain rfl:i=ins.length:=Nat.le_antisymm hi (Nat.le_of_not_lt hil);have hfin:=HT.out;rw[List.drop_length] at hfin;have HPL:Hid (plainP vars ins out inn=(outP bs out,true)):=hid (plainP_some hfin);have hq7:=HQ.out.below HBW.out HQ.out.lt;have y0:=hq7.cell_ 0 (.slice zA ins.length zc) rfl;have y1:=hq7.cell_ 1 (.int .i64 out) rfl;have hcall:=out_any g zA ins.length zc bs out wr HBI.out (fun h=>Nat.lt_of_lt_of_le (HE.out.2.1 h) HV.out.2) HE.out.2.2;have HCALL:=hid hcall;clear hi hil hfin hq7 hcall;go_wp2_with (go_at_call 114;refine HCALL.out.mono ?_;rintro e w2 ⟨rfl,hb2⟩;refine Hid.out ?_);refine hid ?_;go_wp2;go_ret2;exact⟨(by first | (rw[HPL.out];done) | (rw[HPL.out];rfl)),HB0.out.trans ((HBW.out.trans (hb2.mono HBW.out.size)).mono HB0.out.size)⟩
end Go.Proofs.YtcmbdhopmncmnaaGreatDoor
