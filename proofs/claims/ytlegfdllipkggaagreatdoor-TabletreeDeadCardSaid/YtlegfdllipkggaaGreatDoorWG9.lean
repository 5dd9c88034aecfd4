/-
  texts Syms Permit R04 Has Bind: parts of the proof; conditions stand with each theorem.
-/
import Derived.Test.YtlegfdllipkggaaGreatDoorWG8
import Derived.Test.YtlegfdllipkggaaGreatDoorWG6
import Derived.Test.YtlegfdllipkggaaGreatDoorWG5
import Derived.Lib.QuietBelow
import Derived.Test.YtlegfdllipkggaaGreatDoorWG0
import Derived.Test.YtlegfdllipkggaaGreatDoorWG1
namespace Go.Proofs.YtlegfdllipkggaaGreatDoor
open Lib(hid)
open Go.RowKit Go.Sort
set_option maxRecDepth 100000
set_option linter.unusedVariables false
set_option linter.unusedSimpArgs false

theorem chainH_rng:∀ (ps:List (Int × Int))(q:Option (Int × Int)),chainH q ps=true→∀ p ∈ ps,-2≤p.1∧p.1≤2∧-2≤p.2∧p.2≤2
 | [],_,_,p,hp=>absurd hp (by simp)
 | x :: l,q,h,p,hp=>by
  unfold chainH okH rngB at h;simp only[Bool.and_eq_true,decide_eq_true_eq] at h;rcases List.mem_cons.1 hp with rfl | hp
  ·exact⟨h.1.1.1.1.1,h.1.1.1.1.2,h.1.1.1.2,h.1.1.2⟩
  ·exact chainH_rng l _ h.2 p hp
theorem hoodB_rng {ps:List (Int × Int)}(h:hoodB ps=true):∀ p ∈ ps,-2≤p.1∧p.1≤2∧-2≤p.2∧p.2≤2:=by
 unfold hoodB at h;simp only[Bool.and_eq_true] at h;exact chainH_rng ps none h.2
def outH (ps:List (Int × Int))(k:Int)(p:Int × Int):Bool:=!decide (symP k p ∈ ps)
def symsTo (ps:List (Int × Int))(n:Nat):List Int:=((List.range n).filter fun (k:Nat)=>!ps.any (outH ps (k:Int))).map fun (k:Nat)=>(k:Int)
def symsP (ps:List (Int × Int)):List Int:=if hoodB ps=true then symsTo ps 8 else []
theorem symsTo_len (ps:List (Int × Int))(n:Nat):(symsTo ps n).length≤n:=by
 unfold symsTo;rw[List.length_map];exact Nat.le_trans (List.length_filter_le _ _) (by simp)
theorem symsTo_yes {ps:List (Int × Int)}{n:Nat}(h:ps.any (outH ps (n:Int))=false):symsTo ps (n+1)=symsTo ps n ++ [(n:Int)]:=by
 unfold symsTo;rw[List.range_succ,List.filter_append,List.map_append];simp[h]
theorem symsTo_no {ps:List (Int × Int)}{n:Nat}(h:ps.any (outH ps (n:Int))=true):symsTo ps (n+1)=symsTo ps n:=by
 unfold symsTo;rw[List.range_succ,List.filter_append,List.map_append];simp[h]
set_option maxHeartbeats 800000 in
theorem pcontains_any (A:Option Addr)(xs:List (Int × Int))(c:Nat)(a b:Int)(w:World)(ha:Pts w A xs) :
  Calls Tryz.prog 87 #[.slice A xs.length c,.agg #[.int .i64 a,.int .i64 b]] w fun e w'=>e=.returned (.bool (decide ((a,b) ∈ xs)))∧Below w.heap.size w w':=by
 obtain⟨w0,hw0⟩:∃ w0,w0=w.alloc (.cells #[.int .i64 a,.int .i64 b] 56):=⟨_,rfl⟩
 have hb0:Below w.heap.size w w0:=by rw[hw0];exact below_new _ _
 have q0:Blk w0 w.heap.size 56 #[.int .i64 a,.int .i64 b]:=by rw[hw0];exact Blk.new _ _ _
 have d0:=q0.cell_ 0 (.int .i64 a) rfl;have d1:=q0.cell_ 1 (.int .i64 b) rfl;have HI:=hid (pidx_any A xs c a b w0 (ha.ext hb0));have HM:=hid (idxF_mem (p:=(a,b)) xs 0);obtain⟨r,hr⟩:∃ r,r=idxF (a,b) 0 xs:=⟨_,rfl⟩
 rw[← hr] at HI HM;have HB0:=hid hb0;have HW0:=hid hw0;clear hr ha hb0 q0 hw0;go_enter Tryz.func87,Tryz.ntmps87;go_upto_region 1 with fail
 rw[← HW0.out];go_wp2_with (go_at_call 59;refine HI.out.mono ?_;rintro e w' ⟨rfl,hb⟩;refine Hid.out ?_);refine hid ?_;go_wp2;go_ret;exact⟨ret_bool (decide_eq_decide.2 HM.out),HB0.out.trans (hb.mono HB0.out.size)⟩
set_option maxHeartbeats 4000000 in
theorem symc_any (gl gk:Nat)(A:Option Addr)(c:Nat)(ps:List (Int × Int))(k x y:Int)(w:World)(hl:Blk w gl 22 #[.slice A ps.length c])(hk:Blk w gk 3 #[.int .i64 k])(hp:Pts w A ps)(hG:GMat w)(hx:-2≤x∧x≤2)(hy:-2≤y∧y≤2) :
  Calls Tryz.prog 86 #[.agg #[.int .i64 x,.int .i64 y],.pointer (some ⟨gl,0,none⟩),.pointer (some ⟨gk,0,none⟩)] w fun e w'=>e=.returned (.bool (outH ps k (x,y)))∧Below w.heap.size w w':=by
 obtain⟨w0,hw0⟩:∃ w0,w0=w.alloc (.cells #[.int .i64 x,.int .i64 y] 56):=⟨_,rfl⟩
 have hb0:Below w.heap.size w w0:=by rw[hw0];exact below_new _ _
 have q0:Blk w0 w.heap.size 56 #[.int .i64 x,.int .i64 y]:=by rw[hw0];exact Blk.new _ _ _
 have l0:=hl.below hb0 hl.lt;have k0:=hk.below hb0 hk.lt;obtain⟨gP,hgP⟩:∃ g,g=w.heap.size:=⟨_,rfl⟩
 have HA:Hid (∀ d os,Calls Tryz.prog 88 #[.int .i64 k,.agg #[.int .i64 x,.int .i64 y]] (grow (redrawn w0 d) os) fun e w''=>e=.returned (.agg #[.int .i64 (symP k (x,y)).1,.int .i64 (symP k (x,y)).2])∧∃ p:Regrown,w''=grow (redrawn w0 p.d) p.os):=
  hid (fun d os=>Calls.regrown_of (apply_any k x y _ ((hG.ext hb0).ext (below_regrown w0 d os)) ⟨by omega,by omega⟩ ⟨by omega,by omega⟩))
 obtain⟨z,hz⟩:∃ z,z=symP k (x,y):=⟨_,rfl⟩
 have HC:Hid (∀ d os,Calls Tryz.prog 87 #[.slice A ps.length c,.agg #[.int .i64 z.1,.int .i64 z.2]] (grow (redrawn w0 d) os) fun e w''=>e=.returned (.bool (decide (z ∈ ps)))∧∃ p:Regrown,w''=grow (redrawn w0 p.d) p.os):=
  hid (fun d os=>Calls.regrown_of (pcontains_any A ps c z.1 z.2 _ ((hp.ext hb0).ext (below_regrown w0 d os))))
 have HO:Hid (outH ps k (x,y) = !decide (z ∈ ps)):=hid (by rw[hz];rfl);rw[← hz] at HA;obtain⟨s,hs⟩:∃ s,s=decide (z ∈ ps):=⟨_,rfl⟩
 rw[← hs] at HC HO;obtain⟨z1,z2⟩:=z;dsimp only at HA HC;have j0:=cell_regrown (q0.cell_ 0 (.int .i64 x) rfl);have j1:=cell_regrown (q0.cell_ 1 (.int .i64 y) rfl);have j2:=cell_regrown (l0.cell_ 0 (.slice A ps.length c) rfl);have j3:=cell_regrown (k0.cell_ 0 (.int .i64 k) rfl);rw[← hgP] at j0 j1;have HB0:=hid hb0;have HW0:=hid (And.intro hw0 hgP);clear hb0 q0 l0 k0 hz hs hw0 hgP hl hk hp hG hx hy;go_enter Tryz.func86,Tryz.ntmps86;go_upto_region 1 with fail
 rw[← HW0.out.1,← HW0.out.2];refine wp_region_quiet_below (by kernel_rfl) (by kernel_rfl) ?_;repeat (go_big_quiet_step (first | with_reducible exact HA.out _ _ | with_reducible exact HC.out _ _))
 refine wpQuiet_nil ?_;intro _ hw';obtain⟨⟨dq,osq⟩,hw''⟩:=hw';subst hw'';go_wp2;go_ret;exact⟨ret_bool HO.out.symm,HB0.out.trans ((below_regrown w0 dq osq).mono HB0.out.size)⟩
set_option maxHeartbeats 4000000 in
theorem ixP_any (gl gk:Nat)(A:Option Addr)(c:Nat)(ps:List (Int × Int))(k:Int)(w:World)(hl:Blk w gl 22 #[.slice A ps.length c])(hk:Blk w gk 3 #[.int .i64 k])(hp:Pts w A ps)(hG:GMat w)(hr:∀ p ∈ ps,-2≤p.1∧p.1≤2∧-2≤p.2∧p.2≤2) :
  Calls Tryz.prog 106 #[.slice A ps.length c,.func (.func 86) #[] #[.pointer (some ⟨gl,0,none⟩),.pointer (some ⟨gk,0,none⟩)]] w fun e w'=>e=.returned (.int .i64 (fI (outH ps k) ps 0))∧Below w.heap.size w w':=by
 have hn:=hp.le;have HZ:=hid hp;have HQ:=hid (And.intro hl (And.intro hk (And.intro hG hr)));have HN:=hid hn;clear hp hl hk hG hr;go_enter Tryz.func106,Tryz.ntmps106;go_wp2;go_loopw [8] (fun i wr=>∃ j:Nat,j≤ps.length∧i=.int .i64 j∧Hid (Below w.heap.size w wr)∧Hid (fI (outH ps k) ps 0=fI (outH ps k) (ps.drop j) j)) (fun i _=>ps.length - (intOf i).toNat)
 case atStart=>exact⟨0,Nat.zero_le _,rfl,hid (Below.refl _ _),hid (by simp)⟩
 case round=>
  obtain⟨j,hj,rfl,HB,HT⟩:=hrel;by_cases hlt:j < ps.length
  ·obtain⟨b1,o1,e1,-,hc,hc'⟩:=(HZ.out.ext HB.out).at_ hlt;have hw1:wrap64 ((j:Int)+1)=(j:Int)+1:=by have:=HN.out;unfold wrap64;omega
   have HS:=hid (fI_step (outH ps k) hlt);have hrr:=HQ.out.2.2.2 ps[j] (List.getElem_mem hlt);have hC:=symc_any gl gk A c ps k ps[j].1 ps[j].2 wr (HQ.out.1.below HB.out HQ.out.1.lt) (HQ.out.2.1.below HB.out HQ.out.2.1.lt) (HZ.out.ext HB.out) (HQ.out.2.2.1.ext HB.out) ⟨hrr.1,hrr.2.1⟩ ⟨hrr.2.2.1,hrr.2.2.2⟩;obtain⟨z,hz⟩:∃ z,z=ps[j]:=⟨_,rfl⟩
   rw[← hz] at hc hc' HS hC;have HLT:=hid hlt;subst e1;obtain⟨z1,z2⟩:=z;dsimp only at hc hc' hC;cases ho:outH ps k (z1,z2) with
   | true=>
    rw[ho] at hC;have HC:=hid hC;have HF:Hid (fI (outH ps k) ps 0=(j:Int)):=hid (by rw[HT.out,HS.out,ho];rfl);clear ho hC hz hj hrr;go_wp2_with (go_at_call 86;refine HC.out.mono ?_;rintro e w1 ⟨rfl,hb1⟩;refine Hid.out ?_);refine hid ?_;go_wp2;go_ret;exact⟨by rw[HF.out] <;> rfl,HB.out.trans (hb1.mono HB.out.size)⟩
   | false=>
    rw[ho] at hC;have HC:=hid hC;have HF:Hid (fI (outH ps k) ps 0=fI (outH ps k) (ps.drop (j+1)) (j+1)):=hid (by rw[HT.out,HS.out,ho];rfl);clear ho hC hz hj hrr;go_wp2_with (go_at_call 86;refine HC.out.mono ?_;rintro e w1 ⟨rfl,hb1⟩;refine Hid.out ?_);refine hid ?_;have HB1:=hid (HB.out.trans (hb1.mono HB.out.size));go_wp2;go_roundw
    case rel=>exact⟨j+1,HLT.out,(by first | rfl | (rw[hw1];rfl)),HB1,HF⟩
    case measure=>(try rw[hw1]);exact meas_step HLT.out
  ·have HF:Hid (fI (outH ps k) ps 0 = -1):=hid (by
    have h:=HT.out;rw[List.drop_of_length_le (by omega)] at h;exact h)
   go_wp2;go_ret;exact⟨by rw[HF.out] <;> rfl,HB.out⟩
set_option maxHeartbeats 1000000 in
theorem ctPf_any (gl gk:Nat)(A:Option Addr)(c:Nat)(ps:List (Int × Int))(k:Int)(w:World)(hl:Blk w gl 22 #[.slice A ps.length c])(hk:Blk w gk 3 #[.int .i64 k])(hp:Pts w A ps)(hG:GMat w)(hr:∀ p ∈ ps,-2≤p.1∧p.1≤2∧-2≤p.2∧p.2≤2) :
  Calls Tryz.prog 85 #[.slice A ps.length c,.func (.func 86) #[] #[.pointer (some ⟨gl,0,none⟩),.pointer (some ⟨gk,0,none⟩)]] w fun e w'=>e=.returned (.bool (ps.any (outH ps k)))∧Below w.heap.size w w':=by
 have HC:=hid (ixP_any gl gk A c ps k w hl hk hp hG hr);rw[← fI_any (outH ps k) ps 0];obtain⟨r,hr⟩:∃ r,r=fI (outH ps k) ps 0:=⟨_,rfl⟩
 rw[← hr] at HC ⊢;clear hr hl hk hp hG;go_enter Tryz.func85,Tryz.ntmps85;go_wp2_with (go_at_call 106;refine HC.out.mono ?_;rintro e w1 ⟨rfl,hb⟩;refine Hid.out ?_);refine hid ?_;go_wp2;go_ret;exact⟨rfl,hb⟩
set_option maxHeartbeats 4000000 in
theorem syms_any (A:Option Addr)(ps:List (Int × Int))(c:Nat)(w:World)(hp:Pts w A ps)(hG:GMat w) :
  Calls Tryz.prog 66 #[.slice A ps.length c] w fun e w'=>∃ v,e=.returned v∧OwnIA w' w.heap.size v (symsP ps)∧Below w.heap.size w w':=by
 obtain⟨w0,hw0⟩:∃ w0,w0=w.alloc (.cells #[.slice A ps.length c] 22):=⟨_,rfl⟩
 have hb0:Below w.heap.size w w0:=by rw[hw0];exact below_new _ _
 have q0:Blk w0 w.heap.size 22 #[.slice A ps.length c]:=by rw[hw0];exact Blk.new _ _ _
 obtain⟨gl,hgl⟩:∃ g,g=w.heap.size:=⟨_,rfl⟩
 rw[← hgl] at q0;have HCR:=hid (hood_any A c ps w0 (hp.ext hb0));have c0:=q0.cell_ 0 (.slice A ps.length c) rfl;have HB0:=hid hb0;have HP:=hid (hp.ext hb0);have HG:=hid (hG.ext hb0);have HQ:=hid q0;have HW0:=hid (And.intro hw0 hgl);clear hb0 q0 hp hG hw0 hgl;cases hB:hoodB ps with
 | false=>
  have HE:Hid (symsP ps=[]):=hid (by unfold symsP;rw[if_neg (by rw[hB];simp)]);rw[hB] at HCR;clear hB;go_enter Tryz.func66,Tryz.ntmps66;go_upto_region 1 with fail
  rw[← HW0.out.1,← HW0.out.2];go_wp2_with (go_at_call 45;refine HCR.out.mono ?_;rintro e w1 ⟨rfl,hb1⟩;refine Hid.out ?_);refine hid ?_;go_wp2;go_ret;exact⟨_,rfl,by rw[HE.out];exact OwnI.nil _ _ _,HB0.out.trans (hb1.mono HB0.out.size)⟩
 | true=>
  have HE:Hid (symsP ps=symsTo ps 8):=hid (by unfold symsP;rw[if_pos hB]);have HRN:=hid (hoodB_rng hB);rw[hB] at HCR;clear hB;go_enter Tryz.func66,Tryz.ntmps66;go_upto_region 1 with fail
  rw[← HW0.out.1,← HW0.out.2];go_wp2_with (go_at_call 45;refine HCR.out.mono ?_;rintro e w1 ⟨rfl,hb1⟩;refine Hid.out ?_);refine hid ?_;have HB1:=hid hb1;clear hb1 c0;go_wp2;go_loopw [3,8] (fun lv iv wr=>∃ i:Nat,i≤8∧iv=.int .i64 i∧Hid (OwnIA wr w0.heap.size lv (symsTo ps i))∧Hid (Below w0.heap.size w0 wr)) (fun _ iv _=>8 - (intOf iv).toNat)
  case atStart=>exact⟨0,Nat.zero_le _,rfl,hid (OwnI.nil _ _ _),HB1⟩
  case round=>
   obtain⟨i,hi,rfl,HO,HB⟩:=hrel;by_cases hil:i < 8
   ·obtain⟨wb,hwb⟩:∃ W,W=wr.alloc (.cells #[.int .i64 (i:Int)] 3):=⟨_,rfl⟩
    have hbb:Below wr.heap.size wr wb:=by rw[hwb];exact below_new _ _
    obtain⟨gk,hgk⟩:∃ g,g=wr.heap.size:=⟨_,rfl⟩
    have HK:Hid (Blk wb gk 3 #[.int .i64 (i:Int)]):=hid (by rw[hgk,hwb];exact Blk.new _ _ _);have HBB:=hid (HB.out.trans (hbb.mono HB.out.size));have HQB:=hid (HQ.out.below HBB.out HQ.out.lt);have HOB:=hid (HO.out.ext hbb);have hcall:=ctPf_any gl gk A c ps (i:Int) wb HQB.out HK.out (HP.out.ext HBB.out) (HG.out.ext HBB.out) HRN.out;have c1:=HQB.out.cell_ 0 (.slice A ps.length c) rfl;have HI:=hid hil;have hwi:wrap64 ((i:Int)+1)=(i:Int)+1:=by unfold wrap64;omega
    have HWB:=hid (And.intro hwb hgk);have hd8:decide ((i:Int) < 8)=true:=decide_eq_true (by omega);have HWI:=hid hwi;clear hwb hgk hbb hi hwi;go_upto_region 7 with fail
    rw[← HWB.out.1,← HWB.out.2];cases ho:ps.any (outH ps (i:Int)) with
    | true=>
     rw[ho] at hcall;have HCALL:=hid hcall;have HST:=hid (symsTo_no ho);clear hcall ho;go_wp2_with (go_at_call 85;refine HCALL.out.mono ?_;rintro e w2 ⟨rfl,hb2⟩;refine Hid.out ?_);refine hid ?_;have HO2:Hid (OwnIA w2 w0.heap.size _ (symsTo ps (i+1))):=hid (by rw[HST.out];exact HOB.out.ext hb2);have HB2:=hid (HBB.out.trans (hb2.mono HBB.out.size));clear hb2 c1;go_wp2;go_roundw
     case rel=>exact⟨i+1,HI.out,(by first | rfl | (rw[HWI.out];rfl)),HO2,HB2⟩
     case measure=>(try rw[HWI.out]);exact meas_step HI.out
    | false=>
     rw[ho] at hcall;have HCALL:=hid hcall;have HST:=hid (symsTo_yes ho);clear hcall ho;go_wp2_with (go_at_call 85;refine HCALL.out.mono ?_;rintro e w2 ⟨rfl,hb2⟩;refine Hid.out ?_);refine hid ?_;have hown:=HOB.out.ext hb2;have c2:=(HK.out.below hb2 HK.out.lt).cell_ 0 (.int .i64 (i:Int)) rfl;have HB2:=hid (HBB.out.trans (hb2.mono HBB.out.size));have hln:(symsTo ps i).length < 1000000000000:=by have:=symsTo_len ps i;have:=HI.out;omega
     have hbs:=HB2.out.size;clear hb2 c1;go_wp2_with (at_builtin;refine wpList_pushI rfl _ _ _ rfl w0.heap.size 3 Tryz.underlying38 Tryz.infoInt _ _ rfl hown _ rfl hln hbs ?_);intro v' w7 ho' hb';have HO7:Hid (OwnIA w7 w0.heap.size v' (symsTo ps (i+1))):=hid (by rw[HST.out];exact ho');have HB7:=hid (HB2.out.trans hb');clear ho' hb' hown hln hbs c2;go_wp2;go_roundw
     case rel=>exact⟨i+1,HI.out,(by first | rfl | (rw[HWI.out];rfl)),HO7,HB7⟩
     case measure=>(try rw[HWI.out]);exact meas_step HI.out
   ·obtain rfl:i=8:=Nat.le_antisymm hi (Nat.le_of_not_lt hil);have hd8:decide (((8:Nat):Int) < 8)=false:=by decide
    have HN0:Hid (w.heap.size≤w0.heap.size):=hid HB0.out.size;clear hi hil;go_wp2;go_ret;exact⟨_,rfl,by rw[HE.out];exact OwnI.down HO.out HN0.out,HB0.out.trans (HB.out.mono HB0.out.size)⟩
end Go.Proofs.YtlegfdllipkggaaGreatDoor
namespace Go.Proofs.YtlegfdllipkggaaGreatDoor
open Lib(hid)
open Go.RowKit
set_option maxRecDepth 100000
set_option linter.unusedVariables false
set_option linter.unusedSimpArgs false
def permP (ps:List (Int × Int))(sym:Int):Bool:=if sym=0 then true else if sym=1 then decide ((1:Int) ∈ symsP ps) else if sym=2 then ((symsP ps).length:Int) == 8 else if sym=3 then decide (ps.length≤9) else false
set_option maxHeartbeats 4000000 in
theorem permits_any (A:Option Addr)(ps:List (Int × Int))(c:Nat)(sym:Int)(w:World)(hp:Pts w A ps)(hG:GMat w) :
  Calls Tryz.prog 46 #[.slice A ps.length c,.int .i64 sym] w fun e w'=>e=.returned (.bool (permP ps sym))∧Below w.heap.size w w':=by
 have hcall:=syms_any A ps c w hp hG;obtain⟨l,hl⟩:∃ l,l=symsP ps:=⟨_,rfl⟩
 have hP:permP ps sym=if sym=0 then true else if sym=1 then decide ((1:Int) ∈ l) else if sym=2 then (l.length:Int) == 8 else if sym=3 then decide (ps.length≤9) else false:=by rw[hl];rfl
 obtain⟨r,hr⟩:∃ r,r=permP ps sym:=⟨_,rfl⟩
 rw[← hr];have HR:Hid (r=if sym=0 then true else if sym=1 then decide ((1:Int) ∈ l) else if sym=2 then (l.length:Int) == 8 else if sym=3 then decide (ps.length≤9) else false):=hid (hr.trans hP);have hl8:l.length≤8:=by
  rw[hl];unfold symsP
  split
  ·exact symsTo_len ps 8
  ·simp
 rw[← hl] at hcall;have HCALL:=hid hcall;have hn:=hp.le;clear hcall hl hP hp hG hr;go_enter Tryz.func46,Tryz.ntmps46;go_wp2_with (go_at_call 66;refine HCALL.out.mono ?_;rintro e w1 ⟨v,rfl,ho,hb⟩;refine Hid.out ?_);refine hid ?_;obtain⟨A5,c5,e5,hi5,-⟩:=ho.ints;subst e5;have HB:=hid hb;have HI:=hid hi5;have hl9:l.length≤9223372036854775807:=by omega
 clear ho hb hi5 HCALL hl8;by_cases h0:sym=0
 ·subst h0;go_wp2;go_ret;exact⟨ret_bool (by rw[HR.out];simp),HB.out⟩
 ·have d0:(sym == 0)=false:=beq_false_of_ne h0;by_cases h1:sym=1
  ·subst h1;have HC:=hid (contains_any A5 l c5 1 w1 HI.out);clear h0;go_wp2_with (go_at_call 48;refine HC.out.mono ?_;rintro e w2 ⟨rfl,rfl⟩;refine Hid.out ?_);refine hid ?_;go_wp2;go_ret;exact⟨ret_bool (by rw[HR.out];simp[*]),HB.out⟩
  ·have d1:(sym == 1)=false:=beq_false_of_ne h1;by_cases h2:sym=2
   ·subst h2;clear h0 h1;go_wp2;go_ret;exact⟨ret_bool (by rw[HR.out];simp[*]),HB.out⟩
   ·have d2:(sym == 2)=false:=beq_false_of_ne h2;by_cases h3:sym=3
    ·subst h3;clear h0 h1 h2;have hd:decide ((ps.length:Int)≤9)=decide (ps.length≤9):=decide_eq_decide.2 (by omega);have HD:=hid hd;clear hd;go_wp2;go_ret;exact⟨ret_bool (by rw[HR.out];simp[HD.out]),HB.out⟩
    ·have d3:(sym == 3)=false:=beq_false_of_ne h3;have H0:=hid (And.intro h0 (And.intro h1 (And.intro h2 h3)));clear h0 h1 h2 h3;go_wp2;go_ret;exact⟨ret_bool (by rw[HR.out];rw[if_neg H0.out.1,if_neg H0.out.2.1,if_neg H0.out.2.2.1,if_neg H0.out.2.2.2]),HB.out⟩

theorem tmod8 (k:Int):-8 < Int.tmod k 8∧Int.tmod k 8 < 8∧Int.tmod (Int.tmod k 8+8) 8=(symJ k:Int):=by
 have e:=Int.mul_tdiv_add_tmod k 8;have b1:=Int.tmod_lt_of_pos k (show (0:Int) < 8 by decide);have b2:=Int.lt_tmod_of_pos k (show (0:Int) < 8 by decide);generalize Int.tmod k 8=r at *;generalize Int.tdiv k 8=q at *;refine⟨b2,b1,?_⟩;rw[Int.tmod_eq_emod_of_nonneg (by omega)];unfold symJ;omega
theorem rmod_any (k:Int)(w:World):Calls Tryz.prog 97 #[.int .i64 k] w fun e w'=>e=.returned (.int .i64 (symJ k))∧w'=w:=by
 obtain⟨t1,t2,h3⟩:=tmod8 k;have h1:wrap64 (Int.tmod k 8)=Int.tmod k 8:=by generalize Int.tmod k 8=r at *;unfold wrap64;omega
 have h2:wrap64 (Int.tmod k 8+8)=Int.tmod k 8+8:=by generalize Int.tmod k 8=r at *;unfold wrap64;omega
 have h4:wrap64 (symJ k:Int)=(symJ k:Int):=by have:=symJ_lt k;unfold wrap64;omega
 have HH:=hid (And.intro h2 h3);clear t1 t2 h3;go_enter Tryz.func97,Tryz.ntmps97;rw[← HH.out.2];clear h4;go_wp2;go_ret;exact⟨ret_int (by first | rfl | (rw[HH.out.1,HH.out.2];rfl)),rfl⟩
def rotP:Nat→Int × Int→Int × Int
 | 0,p=>p
 | n+1,p=>(-(rotP n p).2,(rotP n p).1)
theorem rotP_in {p:Int × Int}(hx:-4611686018427387904 < p.1∧p.1 < 4611686018427387904)(hy:-4611686018427387904 < p.2∧p.2 < 4611686018427387904):∀ n,(-4611686018427387904 < (rotP n p).1∧(rotP n p).1 < 4611686018427387904)∧(-4611686018427387904 < (rotP n p).2∧(rotP n p).2 < 4611686018427387904)
 | 0=>⟨hx,hy⟩
 | n+1=>by
  obtain⟨h1,h2⟩:=rotP_in hx hy n;simp only[rotP];omega
theorem rot_sym (k x y:Int):rotP (symJ k % 4) (if symJ k < 4 then (x,y) else (-x,y))=symP k (x,y):=by
 have hj:=symJ_lt k;unfold symP;generalize symJ k=j at hj ⊢;obtain rfl | rfl | rfl | rfl | rfl | rfl | rfl | rfl:j=0∨j=1∨j=2∨j=3∨j=4∨j=5∨j=6∨j=7:=by omega
 all_goals
  simp[rotP,matL]
set_option maxHeartbeats 4000000 in
theorem rapply_any (k x y:Int)(w:World)(hx:-4611686018427387904 < x∧x < 4611686018427387904)(hy:-4611686018427387904 < y∧y < 4611686018427387904) :
  Calls Tryz.prog 77 #[.int .i64 k,.agg #[.int .i64 x,.int .i64 y]] w fun e w'=>e=.returned (.agg #[.int .i64 (symP k (x,y)).1,.int .i64 (symP k (x,y)).2])∧Below w.heap.size w w':=by
 obtain⟨w0,hw0⟩:∃ w0,w0=(w.alloc (.cells #[.int .i64 x,.int .i64 y] 56)).alloc (.cells #[.int .i64 0,.int .i64 0] 56):=⟨_,rfl⟩
 have hb1:=below_new w (.cells #[.int .i64 x,.int .i64 y] 56);have hb0:Below w.heap.size w w0:=by rw[hw0];exact hb1.alloc hb1.size _
 have p0:Blk w0 w.heap.size 56 #[.int .i64 x,.int .i64 y]:=by rw[hw0];exact (Blk.new w _ _).alloc _
 have q0:Blk w0 (w.heap.size+1) 56 #[.int .i64 0,.int .i64 0]:=by
  rw[hw0];have:=Blk.new (w.alloc (.cells #[.int .i64 x,.int .i64 y] 56)) 56 #[.int .i64 0,.int .i64 0];simpa using this
 have HMOD:=hid (rmod_any k w0);have hrs:=rot_sym k x y;have hj:=symJ_lt k;obtain⟨j,hje⟩:∃ j,j=symJ k:=⟨_,rfl⟩
 rw[← hje] at hrs hj HMOD;obtain⟨s,hs⟩:∃ s,s=symP k (x,y):=⟨_,rfl⟩
 rw[← hs] at hrs ⊢;have HB0:=hid hb0;have HP0:=hid p0;have HQ0:=hid q0;have HW0:=hid hw0;have c0:=p0.cell_ 0 (.int .i64 x) rfl;have c1:=p0.cell_ 1 (.int .i64 y) rfl;have f0:=p0.frozen 0;have f1:=p0.frozen 1;clear hb1 hb0 p0 q0 hw0 hje hs;by_cases h4:j < 4
 ·have d1:decide ((4:Int)≤(j:Int))=false:=decide_eq_false (by omega);have d2:decide (4≤j)=false:=decide_eq_false (by omega);rw[if_pos h4,Nat.mod_eq_of_lt h4] at hrs;have HRS:=hid hrs;have HJ:=hid h4;have HIN:=hid (rotP_in (p:=(x,y)) hx hy);clear h4 hrs hj hx hy;go_enter Tryz.func77,Tryz.ntmps77;go_upto_region 1 with fail
  rw[← HW0.out];go_wp2_with (go_at_call 97;refine HMOD.out.mono ?_;intro e w1 hx;obtain⟨rfl,hw1⟩:=hx;rw[hw1];clear hw1;refine Hid.out ?_);refine hid ?_;obtain⟨p,hp⟩:∃ p:Int × Int,p=(x,y):=⟨_,rfl⟩
  rw[← hp] at HRS HIN;have HP1:Hid (Blk w0 w.heap.size 56 #[.int .i64 (rotP 0 p).1,.int .i64 (rotP 0 p).2]):=hid (by rw[hp];exact HP0.out);clear c0 c1 f0 f1 hp;go_wp2;go_loopw [5] (fun iv wr=>∃ i:Nat,i≤j∧iv=.int .i64 i∧Hid (Blk wr w.heap.size 56 #[.int .i64 (rotP i p).1,.int .i64 (rotP i p).2])∧Hid (Blk wr (w.heap.size+1) 56 #[.int .i64 0,.int .i64 0])∧Hid (Below w.heap.size w wr)) (fun iv _=>j - (intOf iv).toNat)
  case atStart=>exact⟨0,Nat.zero_le _,rfl,HP1,HQ0,HB0⟩
  case round=>
   obtain⟨i,hi,rfl,HPI,HQI,HBI⟩:=hrel;have hwi:wrap64 ((i:Int)+1)=(i:Int)+1:=by have:=HJ.out;unfold wrap64;omega
   obtain⟨a,ha⟩:∃ a,a=rotP i p:=⟨_,rfl⟩
   have hin:=HIN.out i;rw[← ha] at HPI hin;obtain⟨a1,a2⟩:=a;dsimp only at HPI hin;have e0:=HPI.out.cell_ 0 (.int .i64 a1) rfl;have e1:=HPI.out.cell_ 1 (.int .i64 a2) rfl;have g0:=HPI.out.frozen 0;have g1:=HPI.out.frozen 1;have hwa:wrap64 (-a2) = -a2:=by unfold wrap64;omega
   have HA:=hid ha;clear hin ha;by_cases hij:i < j
   ·have HIJ:=hid hij;have HK:Hid (Kept (fun g=>g=w.heap.size) wr ((wr.setCell ⟨w.heap.size,0,none⟩ (.int .i64 (-a2))).setCell ⟨w.heap.size,1,none⟩ (.int .i64 a1))):=hid (((Kept.refl (fun g=>g=w.heap.size) wr).setCell (p:=⟨w.heap.size,0,none⟩) (Or.inl rfl) _).setCell (p:=⟨w.heap.size,1,none⟩) (Or.inl rfl) _);have HP2:Hid (Blk ((wr.setCell ⟨w.heap.size,0,none⟩ (.int .i64 (-a2))).setCell ⟨w.heap.size,1,none⟩ (.int .i64 a1)) w.heap.size 56 #[.int .i64 (rotP (i+1) p).1,.int .i64 (rotP (i+1) p).2]):=hid (by
     have h1:rotP (i+1) p=(-a2,a1):=by show (-(rotP i p).2,(rotP i p).1)=_;rw[← HA.out]
     rw[h1];exact (HPI.out.set_ 0 (.int .i64 (-a2))).set_ 1 (.int .i64 a1))
    go_wp2;go_roundw
    case rel=>exact⟨i+1,HIJ.out,(by first | rfl | (rw[hwi];rfl)),HP2,hid (HK.out.blk HQI.out (fun e=>absurd e (Nat.succ_ne_self _))),hid (HBI.out.trans (HK.out.to_below HBI.out.size (fun g hg e=>by rw[e] at hg;exact Nat.lt_irrefl _ hg)))⟩
    case measure=>(try rw[hwi]);exact meas_step HIJ.out
   ·have hie:i=j:=Nat.le_antisymm hi (Nat.le_of_not_lt hij);have q0:=HQI.out.cell_ 0 (.int .i64 0) rfl;have q1:=HQI.out.cell_ 1 (.int .i64 0) rfl;have r0:=HQI.out.frozen 0;have r1:=HQI.out.frozen 1;have HS:Hid (s=(a1,a2)):=hid (by rw[← HRS.out,← hie,HA.out]);clear hie;go_wp2;have hq:Blk ((wr.setCell ⟨w.heap.size+1,0,none⟩ (.int .i64 a1)).setCell ⟨w.heap.size+1,1,none⟩ (.int .i64 a2)) (w.heap.size+1) 56 #[.int .i64 a1,.int .i64 a2]:=(HQI.out.set_ 0 (.int .i64 a1)).set_ 1 (.int .i64 a2);rw[HS.out];exact bodyPost_ret (results_cell_row Tryz.results77 _ _ (w.heap.size+1) 56 #[.int .i64 a1,.int .i64 a2] (0,0) _ rfl hq Tryz.underlying56 rfl Tryz.sizePoint) rfl
     ⟨rfl,(HBI.out.setCell (p:=⟨w.heap.size+1,0,none⟩) (Nat.le_succ _) _).setCell (p:=⟨w.heap.size+1,1,none⟩) (Nat.le_succ _) _⟩
 ·have d1:decide ((4:Int)≤(j:Int))=true:=decide_eq_true (by omega);have d2:decide (4≤j)=true:=decide_eq_true (by omega);obtain⟨j',rfl⟩:∃ j',j=j'+4:=⟨j - 4,by omega⟩
  have hwj:wrap64 (((j'+4:Nat):Int) - 4)=(j':Int):=by unfold wrap64;omega
  have hwj2:wrap64 ((j':Int)+4 - 4)=(j':Int):=by unfold wrap64;omega
  have hwj3:wrap64 (j':Int)=(j':Int):=by unfold wrap64;omega
  have hwx:wrap64 (-x) = -x:=by unfold wrap64;omega
  rw[if_neg h4,show (j'+4) % 4=j' by omega] at hrs;have HRS:=hid hrs;have HJ:Hid (j' < 4):=hid (by omega);have HIN:=hid (rotP_in (p:=(-x,y)) (by dsimp only;omega) hy);clear h4 hrs hj hx hy;go_enter Tryz.func77,Tryz.ntmps77;go_upto_region 1 with fail
  rw[← HW0.out];go_wp2_with (go_at_call 97;refine HMOD.out.mono ?_;intro e w1 hx;obtain⟨rfl,hw1⟩:=hx;rw[hw1];clear hw1;refine Hid.out ?_);refine hid ?_;obtain⟨p,hp⟩:∃ p:Int × Int,p=(-x,y):=⟨_,rfl⟩
  rw[← hp] at HRS HIN;obtain⟨w2,hw2⟩:∃ w2,w2=(w0.setCell ⟨w.heap.size,0,none⟩ (.int .i64 (-x))).setCell ⟨w.heap.size,1,none⟩ (.int .i64 y):=⟨_,rfl⟩
  have hp1:Blk w2 w.heap.size 56 #[.int .i64 (rotP 0 p).1,.int .i64 (rotP 0 p).2]:=by rw[hw2,hp];exact (HP0.out.set_ 0 (.int .i64 (-x))).set_ 1 (.int .i64 y)
  have hk:Kept (fun g=>g=w.heap.size) w0 w2:=by rw[hw2];exact ((Kept.refl (fun g=>g=w.heap.size) w0).setCell (p:=⟨w.heap.size,0,none⟩) (Or.inl rfl) _).setCell (p:=⟨w.heap.size,1,none⟩) (Or.inl rfl) _
  have HQ1:=hid (hk.blk HQ0.out (fun e=>absurd e (Nat.succ_ne_self _)));have HB1:Hid (Below w.heap.size w w2):=hid (HB0.out.trans (hk.to_below HB0.out.size (fun g hg e=>by rw[e] at hg;exact Nat.lt_irrefl _ hg)));have HP1:=hid hp1;have HW2:=hid hw2;clear hp1 hk hw2;go_upto_region 4 with fail
  rw[← HW2.out];clear c0 c1 f0 f1 hp;go_wp2;go_loopw [5] (fun iv wr=>∃ i:Nat,i≤j'∧iv=.int .i64 i∧Hid (Blk wr w.heap.size 56 #[.int .i64 (rotP i p).1,.int .i64 (rotP i p).2])∧Hid (Blk wr (w.heap.size+1) 56 #[.int .i64 0,.int .i64 0])∧Hid (Below w.heap.size w wr)) (fun iv _=>j' - (intOf iv).toNat)
  case atStart=>exact⟨0,Nat.zero_le _,rfl,HP1,HQ1,HB1⟩
  case round=>
   obtain⟨i,hi,rfl,HPI,HQI,HBI⟩:=hrel;have hwi:wrap64 ((i:Int)+1)=(i:Int)+1:=by have:=HJ.out;unfold wrap64;omega
   obtain⟨a,ha⟩:∃ a,a=rotP i p:=⟨_,rfl⟩
   have hin:=HIN.out i;rw[← ha] at HPI hin;obtain⟨a1,a2⟩:=a;dsimp only at HPI hin;have e0:=HPI.out.cell_ 0 (.int .i64 a1) rfl;have e1:=HPI.out.cell_ 1 (.int .i64 a2) rfl;have g0:=HPI.out.frozen 0;have g1:=HPI.out.frozen 1;have hwa:wrap64 (-a2) = -a2:=by unfold wrap64;omega
   have HA:=hid ha;clear hin ha;by_cases hij:i < j'
   ·have HIJ:=hid hij;have HK:Hid (Kept (fun g=>g=w.heap.size) wr ((wr.setCell ⟨w.heap.size,0,none⟩ (.int .i64 (-a2))).setCell ⟨w.heap.size,1,none⟩ (.int .i64 a1))):=hid (((Kept.refl (fun g=>g=w.heap.size) wr).setCell (p:=⟨w.heap.size,0,none⟩) (Or.inl rfl) _).setCell (p:=⟨w.heap.size,1,none⟩) (Or.inl rfl) _);have HP2:Hid (Blk ((wr.setCell ⟨w.heap.size,0,none⟩ (.int .i64 (-a2))).setCell ⟨w.heap.size,1,none⟩ (.int .i64 a1)) w.heap.size 56 #[.int .i64 (rotP (i+1) p).1,.int .i64 (rotP (i+1) p).2]):=hid (by
     have h1:rotP (i+1) p=(-a2,a1):=by show (-(rotP i p).2,(rotP i p).1)=_;rw[← HA.out]
     rw[h1];exact (HPI.out.set_ 0 (.int .i64 (-a2))).set_ 1 (.int .i64 a1))
    go_wp2;go_roundw
    case rel=>exact⟨i+1,HIJ.out,(by first | rfl | (rw[hwi];rfl)),HP2,hid (HK.out.blk HQI.out (fun e=>absurd e (Nat.succ_ne_self _))),hid (HBI.out.trans (HK.out.to_below HBI.out.size (fun g hg e=>by rw[e] at hg;exact Nat.lt_irrefl _ hg)))⟩
    case measure=>(try rw[hwi]);exact meas_step HIJ.out
   ·have hie:i=j':=Nat.le_antisymm hi (Nat.le_of_not_lt hij);have q0:=HQI.out.cell_ 0 (.int .i64 0) rfl;have q1:=HQI.out.cell_ 1 (.int .i64 0) rfl;have r0:=HQI.out.frozen 0;have r1:=HQI.out.frozen 1;have HS:Hid (s=(a1,a2)):=hid (by rw[← HRS.out,← hie,HA.out]);clear hie;go_wp2;have hq:Blk ((wr.setCell ⟨w.heap.size+1,0,none⟩ (.int .i64 a1)).setCell ⟨w.heap.size+1,1,none⟩ (.int .i64 a2)) (w.heap.size+1) 56 #[.int .i64 a1,.int .i64 a2]:=(HQI.out.set_ 0 (.int .i64 a1)).set_ 1 (.int .i64 a2);rw[HS.out];exact bodyPost_ret (results_cell_row Tryz.results77 _ _ (w.heap.size+1) 56 #[.int .i64 a1,.int .i64 a2] (0,0) _ rfl hq Tryz.underlying56 rfl Tryz.sizePoint) rfl
     ⟨rfl,(HBI.out.setCell (p:=⟨w.heap.size+1,0,none⟩) (Nat.le_succ _) _).setCell (p:=⟨w.heap.size+1,1,none⟩) (Nat.le_succ _) _⟩
set_option maxHeartbeats 400000 in
theorem has_any (A:Option Addr)(xs:List Int)(c:Nat)(n:Int)(w:World)(ha:Ints w A xs) :
  Calls Tryz.prog 34 #[.slice A xs.length c,.int .i64 n] w fun e w'=>e=.returned (.bool (decide (n ∈ xs)))∧w'=w:=by
 have hn:=ha.le;go_enter Tryz.func34,Tryz.ntmps34;go_wp2
 go_loop [5] (fun i=>∃ k:Nat,k≤xs.length∧i=.int .i64 k∧Hid (decide (n ∈ xs)=decide (n ∈ xs.drop k))) (fun i=>xs.length - (intOf i).toNat)
 case atStart=>exact⟨0,Nat.zero_le _,rfl,hid rfl⟩
 case round=>
  obtain⟨k,hk,rfl,HT⟩:=hrel;by_cases hlt:k < xs.length
  ·obtain⟨b1,o1,rfl,-,hc⟩:=ha.at_ hlt;have hd:decide (n ∈ xs.drop k)=decide (n=xs[k]∨n ∈ xs.drop (k+1)):=by rw[List.drop_eq_getElem_cons hlt];simp only[List.mem_cons]
   by_cases h1:xs[k]=n
   ·have hyes:decide (n ∈ xs)=true:=by rw[HT.out,hd];exact decide_eq_true (.inl h1.symm)
    have HN:=hid hyes;have d1:(xs[k] == n)=true:=by simp[h1]
    clear hyes hd h1;go_wp2;go_ret;exact⟨ret_bool HN.out.symm,rfl⟩
   ·have hyes:decide (n ∈ xs)=decide (n ∈ xs.drop (k+1)):=by
     rw[HT.out,hd];exact decide_eq_decide.2 ⟨fun h=>h.resolve_left (fun h=>h1 h.symm),.inr⟩
    have d1:(xs[k] == n)=false:=by simp[h1]
    have HY:=hid hyes;clear hyes hd h1;go_wp2
    go_round
    case rel=>exact⟨k+1,by omega,by go_num,HY⟩
    case measure=>simp[intOf];omega
  ·obtain rfl:k=xs.length:=by omega
   have hno:decide (n ∈ xs)=false:=by rw[HT.out,List.drop_length];simp
   have HN:=hid hno;clear hno;go_wp2;go_ret;exact⟨ret_bool HN.out.symm,rfl⟩
def BindB (w:World)(g:Nat)(bs:List Int):Prop:=bs.length=40∧Blk w g 132 (bs.map fun z=>Value.int .i64 z).toArray
section
variable {w w' : World} {g : Nat} {bs : List Int}
theorem BindB.lt (h:BindB w g bs):g < w.heap.size:=h.2.lt
theorem BindB.below {B:Nat}(h:BindB w g bs)(hb:Below B w w')(hg:g < B):BindB w' g bs:=⟨h.1,h.2.below hb hg⟩
theorem BindB.ext (h:BindB w g bs)(hb:Below w.heap.size w w'):BindB w' g bs:=h.below hb h.lt
theorem BindB.at_ (h:BindB w g bs){i:Nat}(hi:i < 40):w.cell? ⟨g,i,none⟩=some (.int .i64 (bs.getD i 0)):=by
 have hl:i < bs.length:=by rw[h.1];exact hi
 refine h.2.cell_ i _ ?_;rw[List.getElem?_toArray,List.getElem?_map,List.getElem?_eq_getElem hl,List.getD_eq_getElem?_getD,List.getElem?_eq_getElem hl];rfl
theorem BindB.set (h:BindB w g bs)(i:Nat)(z:Int):BindB (w.setCell ⟨g,i,none⟩ (.int .i64 z)) g (bs.set i z):=by
 refine⟨by rw[List.length_set];exact h.1,?_⟩;have:=h.2.set_ i (.int .i64 z);rw[List.map_set];simpa using this
theorem BindB.new (w:World):BindB (w.alloc (.cells (((List.replicate 40 (0:Int)).map fun z=>Value.int .i64 z).toArray) 132)) w.heap.size (List.replicate 40 0):=⟨by simp,Blk.new _ _ _⟩
end
def negTo (i:Nat):List Int:=List.replicate i (-1) ++ List.replicate (40 - i) 0
theorem negTo_step {i:Nat}(h:i < 40):(negTo i).set i (-1)=negTo (i+1):=by
 have:∀ i:Fin 40,(negTo i.1).set i.1 (-1)=negTo (i.1+1):=by decide
 exact this ⟨i,h⟩
set_option maxHeartbeats 4000000 in
theorem none_any (w:World):Calls Tryz.prog 91 #[] w fun e w'=>∃ g,e=.returned (.pointer (some ⟨g,0,none⟩))∧w.heap.size≤g∧BindB w' g (List.replicate 40 (-1))∧Below w.heap.size w w':=by
 obtain⟨w0,hw0⟩:∃ w0,w0=w.alloc (.cells (((List.replicate 40 (0:Int)).map fun z=>Value.int .i64 z).toArray) 132):=⟨_,rfl⟩
 have hb0:Below w.heap.size w w0:=by rw[hw0];exact below_new _ _
 have q0:BindB w0 w.heap.size (negTo 0):=by rw[hw0];exact BindB.new w
 go_enter Tryz.func91,Tryz.ntmps91;go_upto_region 2 with fail
 rw[show w.alloc (.cells #[.int .i64 0,.int .i64 0,.int .i64 0,.int .i64 0,.int .i64 0,.int .i64 0,.int .i64 0,.int .i64 0,.int .i64 0,.int .i64 0,.int .i64 0,.int .i64 0,.int .i64 0,.int .i64 0,.int .i64 0,.int .i64 0,.int .i64 0,.int .i64 0,.int .i64 0,.int .i64 0,.int .i64 0,.int .i64 0,.int .i64 0,.int .i64 0,.int .i64 0,.int .i64 0,.int .i64 0,.int .i64 0,.int .i64 0,.int .i64 0,.int .i64 0,.int .i64 0,.int .i64 0,.int .i64 0,.int .i64 0,.int .i64 0,.int .i64 0,.int .i64 0,.int .i64 0,.int .i64 0] 132)=w0 from by rw[hw0];rfl];obtain⟨g,hg⟩:∃ g,g=w.heap.size:=⟨_,rfl⟩
 rw[← hg] at q0 ⊢;have HG:Hid (w.heap.size≤g):=hid (by rw[hg];exact Nat.le_refl _);have HGE:Hid (g=w.heap.size):=hid hg;have HQ:=hid q0;have HB0:=hid hb0;clear hg q0 hb0 hw0;go_wp2;go_loopw [3] (fun iv wr=>∃ i:Nat,i≤40∧iv=.int .i64 i∧Hid (BindB wr g (negTo i))∧Hid (Below w.heap.size w wr)) (fun iv _=>40 - (intOf iv).toNat)
 case atStart=>exact⟨0,Nat.zero_le _,rfl,HQ,HB0⟩
 case round=>
  obtain⟨i,hi,rfl,HBI,HBW⟩:=hrel;by_cases hil:i < 40
  ·have c0:=HBI.out.at_ hil;have f0:=HBI.out.2.frozen i;have HI:=hid hil;have hwi:wrap64 ((i:Int)+1)=(i:Int)+1:=by unfold wrap64;omega
   have HWI:=hid hwi;have HB1:Hid (BindB (wr.setCell ⟨g,i,none⟩ (.int .i64 (-1))) g (negTo (i+1))):=hid (by rw[← negTo_step hil];exact HBI.out.set i (-1));have HW1:Hid (Below w.heap.size w (wr.setCell ⟨g,i,none⟩ (.int .i64 (-1)))):=hid (HBW.out.setCell (p:=⟨g,i,none⟩) HG.out _);have hd:decide ((i:Int) < 40)=true:=decide_eq_true (by omega);clear hi hwi;go_wp2;go_roundw
   case rel=>exact⟨i+1,HI.out,(by first | rfl | (rw[HWI.out];rfl)),HB1,HW1⟩
   case measure=>(try rw[HWI.out]);exact meas_step HI.out
  ·obtain rfl:i=40:=Nat.le_antisymm hi (Nat.le_of_not_lt hil);have hd:decide (((40:Nat):Int) < 40)=false:=by decide
   clear hi hil;go_wp2;go_ret;exact⟨g,rfl,HG.out,HBI.out,HBW.out⟩
def acceptP (vars:List (List Int))(bs:List Int)(e s:Int):Bool × Bool × List Int:=
 if 0≤e then (e == s,false,bs)
 else if 0≤bs.getD (-1 - e).toNat 0 then (bs.getD (-1 - e).toNat 0 == s,false,bs)
 else if s ∈ vars.getD (-1 - e).toNat [] then (true,true,bs.set (-1 - e).toNat s) else (false,false,bs)
set_option maxHeartbeats 8000000 in
theorem accept_any (g:Nat)(hA:Option Addr)(hc:Nat)(vA:Option Addr)(vc:Nat)(rA:Option Addr)(rc:Nat)(t:TabH)(bs:List Int)(e s:Int)(w:World)(hB:BindB w g bs)(hV:Vrs w vA t.vs)(he:e < 0→(-1 - e).toNat < t.vs.length)(h40:t.vs.length≤40)(hmn:-1000000≤e) :
  Calls Tryz.prog 92 #[.pointer (some ⟨g,0,none⟩),tabV hA hc vA vc rA rc t,.int .i64 e,.int .i64 s] w fun en w'=>en=.returned (.tuple #[.bool (acceptP (t.vs.map Vh.zs) bs e s).1,.bool (acceptP (t.vs.map Vh.zs) bs e s).2.1])∧BindB w' g (acceptP (t.vs.map Vh.zs) bs e s).2.2∧Kept (fun x=>x=g) w w':=by
 obtain⟨st,sym,hood,vs,rs⟩:=t;unfold tabV;dsimp only at hV he h40 ⊢;obtain⟨w0,hw0⟩:∃ w0,w0=w.alloc (.cells #[.int .i64 st,.int .i64 sym,.slice hA hood.length hc,.slice vA vs.length vc,.slice rA rs.length rc] 26):=⟨_,rfl⟩
 have hb0:Below w.heap.size w w0:=by rw[hw0];exact below_new _ _
 have q0:Blk w0 w.heap.size 26 #[.int .i64 st,.int .i64 sym,.slice hA hood.length hc,.slice vA vs.length vc,.slice rA rs.length rc]:=by rw[hw0];exact Blk.new _ _ _
 obtain⟨gT,hgT⟩:∃ g,g=w.heap.size:=⟨_,rfl⟩
 rw[← hgT] at q0;have hB0:=hB.ext hb0;have HB0:=hid hB0;have HK0:Hid (Kept (fun x=>x=g) w w0):=hid (Kept.of_new _ hb0);have HW0:=hid (And.intro hw0 hgT);have HV:=hid (hV.ext hb0);have c3:=q0.cell_ 3 (.slice vA vs.length vc) rfl;obtain⟨ok,hok⟩:∃ ok,ok=(acceptP (vs.map Vh.zs) bs e s).1:=⟨_,rfl⟩
 obtain⟨fr,hfr⟩:∃ fr,fr=(acceptP (vs.map Vh.zs) bs e s).2.1:=⟨_,rfl⟩
 obtain⟨b',hb'⟩:∃ b',b'=(acceptP (vs.map Vh.zs) bs e s).2.2:=⟨_,rfl⟩
 rw[← hok,← hfr,← hb'];have HR:Hid (acceptP (vs.map Vh.zs) bs e s=(ok,fr,b')):=hid (by rw[hok,hfr,hb']);clear hb0 q0 hw0 hgT hB hV hok hfr hb' hB0;by_cases h0:0≤e
 ·have hE:acceptP (vs.map Vh.zs) bs e s=(e == s,false,bs):=if_pos h0;rw[hE] at HR;have h1:=HR.out;injection h1 with h1 h2
  injection h2 with h2 h3
  subst h1 h2 h3;have d0:decide (0≤e)=true:=decide_eq_true h0;clear hE h0 he hmn;go_enter Tryz.func92,Tryz.ntmps92;go_upto_region 1 with fail
  rw[← HW0.out.1,← HW0.out.2];go_wp2;go_ret2;exact⟨rfl,HB0.out,HK0.out⟩
 ·have d0:decide (0≤e)=false:=decide_eq_false h0;have hvl:=he (by omega);obtain⟨v,hv⟩:∃ v:Nat,-1 - e=(v:Int):=⟨(-1 - e).toNat,by omega⟩
  have hv':(-1 - e).toNat=v:=by omega
  rw[hv'] at hvl;have hwv:wrap64 (-1 - e)=(v:Int):=by unfold wrap64;omega
  have h40v:v < 40:=by omega
  have c0:=HB0.out.at_ h40v;have f0:=HB0.out.2.frozen v;obtain⟨bz,hbz⟩:∃ z,z=bs.getD v 0:=⟨_,rfl⟩
  rw[← hbz] at c0;have HWV:=hid hwv;by_cases h1:0≤bz
  ·have hE:acceptP (vs.map Vh.zs) bs e s=(bz == s,false,bs):=by
    unfold acceptP;rw[if_neg h0,hv',← hbz,if_pos h1]
   rw[hE] at HR;have h1':=HR.out;injection h1' with h1' h2
   injection h2 with h2 h3
   subst h1' h2 h3;have d1:decide (0≤bz)=true:=decide_eq_true h1;clear hE h0 he hmn hv hv' hvl hbz h1;go_enter Tryz.func92,Tryz.ntmps92;go_upto_region 1 with fail
   rw[← HW0.out.1,← HW0.out.2];go_wp2;go_ret2;exact⟨rfl,HB0.out,HK0.out⟩
  ·have d1:decide (0≤bz)=false:=decide_eq_false h1;obtain⟨vb,vo,ea,-,hca,hia⟩:=HV.out.at_ hvl;subst ea;obtain⟨xh,hxh⟩:∃ z,z=vs[v]:=⟨_,rfl⟩
   rw[← hxh] at hca hia;have hget:(vs.map Vh.zs).getD v []=xh.zs:=by rw[hxh,List.getD_eq_getElem?_getD,List.getElem?_map,List.getElem?_eq_getElem hvl];rfl
   obtain⟨xA,xc,zs⟩:=xh;dsimp only at hca hia hget;have hcall:=contains_any xA zs xc s w0 hia;have hE:acceptP (vs.map Vh.zs) bs e s=if s ∈ zs then (true,true,bs.set v s) else (false,false,bs):=by
    unfold acceptP;rw[if_neg h0,hv',← hbz,if_neg h1,hget]
   rw[hE] at HR;have hvs9:=HV.out.le;by_cases hm:s ∈ zs
   ·rw[decide_eq_true hm] at hcall;rw[if_pos hm] at HR;have h1':=HR.out;injection h1' with h1' h2
    injection h2 with h2 h3
    subst h1' h2 h3;have HCALL:=hid hcall;have HB1:=hid (HB0.out.set v s);have HK1:Hid (Kept (fun x=>x=g) w (w0.setCell ⟨g,v,none⟩ (.int .i64 s))):=hid (HK0.out.setCell (p:=⟨g,v,none⟩) (Or.inl rfl) _);clear hE h0 he hmn hv hv' hbz h1 hm hcall hget hxh hia;go_enter Tryz.func92,Tryz.ntmps92;go_upto_region 1 with fail
    rw[← HW0.out.1,← HW0.out.2];go_wp2_with (go_at_call 48;refine HCALL.out.mono ?_;rintro en w2 ⟨rfl,rfl⟩;refine Hid.out ?_);refine hid ?_;go_wp2;go_ret2;exact⟨rfl,HB1.out,HK1.out⟩
   ·rw[decide_eq_false hm] at hcall;rw[if_neg hm] at HR;have h1':=HR.out;injection h1' with h1' h2
    injection h2 with h2 h3
    subst h1' h2 h3;have HCALL:=hid hcall;clear hE h0 he hmn hv hv' hbz h1 hm hcall hget hxh hia;go_enter Tryz.func92,Tryz.ntmps92;go_upto_region 1 with fail
    rw[← HW0.out.1,← HW0.out.2];go_wp2_with (go_at_call 48;refine HCALL.out.mono ?_;rintro en w2 ⟨rfl,rfl⟩;refine Hid.out ?_);refine hid ?_;go_wp2;go_ret2;exact⟨rfl,HB0.out,HK0.out⟩
def outP (bs:List Int)(out:Int):Int:=if 0≤out then out else bs.getD (-1 - out).toNat 0
set_option maxHeartbeats 4000000 in
theorem out_any (g:Nat)(A:Option Addr)(n c:Nat)(bs:List Int)(out:Int)(w:World)(hB:BindB w g bs)(he:out < 0→(-1 - out).toNat < 40)(hmn:-1000000≤out) :
  Calls Tryz.prog 94 #[.pointer (some ⟨g,0,none⟩),.agg #[.slice A n c,.int .i64 out]] w fun en w'=>en=.returned (.int .i64 (outP bs out))∧Below w.heap.size w w':=by
 obtain⟨w0,hw0⟩:∃ w0,w0=w.alloc (.cells #[.slice A n c,.int .i64 out] 43):=⟨_,rfl⟩
 have hb0:Below w.heap.size w w0:=by rw[hw0];exact below_new _ _
 have q0:Blk w0 w.heap.size 43 #[.slice A n c,.int .i64 out]:=by rw[hw0];exact Blk.new _ _ _
 obtain⟨gT,hgT⟩:∃ g,g=w.heap.size:=⟨_,rfl⟩
 rw[← hgT] at q0;have HBB:=hid (hB.ext hb0);have HB0:=hid hb0;have HW0:=hid (And.intro hw0 hgT);have c1:=q0.cell_ 1 (.int .i64 out) rfl;clear hb0 q0 hw0 hgT hB;by_cases h0:0≤out
 ·have HE:Hid (outP bs out=out):=hid (if_pos h0);have d0:decide (0≤out)=true:=decide_eq_true h0;clear h0 he hmn;go_enter Tryz.func94,Tryz.ntmps94;go_upto_region 1 with fail
  rw[← HW0.out.1,← HW0.out.2];go_wp2;go_ret;exact⟨ret_int HE.out.symm,HB0.out⟩
 ·have d0:decide (0≤out)=false:=decide_eq_false h0;have h40v:=he (by omega);obtain⟨v,hv⟩:∃ v:Nat,-1 - out=(v:Int):=⟨(-1 - out).toNat,by omega⟩
  have hv':(-1 - out).toNat=v:=by omega
  rw[hv'] at h40v;have HE:Hid (outP bs out=bs.getD v 0):=hid (by unfold outP;rw[if_neg h0,hv']);have hwv:wrap64 (-1 - out)=(v:Int):=by unfold wrap64;omega
  have c0:=HBB.out.at_ h40v;obtain⟨bz,hbz⟩:∃ z,z=bs.getD v 0:=⟨_,rfl⟩
  rw[← hbz] at c0 HE;clear h0 he hmn hv hv' hbz;go_enter Tryz.func94,Tryz.ntmps94;go_upto_region 1 with fail
  rw[← HW0.out.1,← HW0.out.2];go_upto_region 3 with fail
  go_quiet (fail)
  go_wp2;go_ret;exact⟨ret_int HE.out.symm,HB0.out.trans ((below_drewN (Below.refl _ _) _).mono HB0.out.size)⟩
end Go.Proofs.YtlegfdllipkggaaGreatDoor
