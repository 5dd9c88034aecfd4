/-
  texts RSyms RExact RCtr RTurn11 RPerm11: parts of the proof; conditions stand with each theorem.
-/
import Derived.Test.YtcmbdhopmncmnaaGreatDoorWG2
import Derived.Test.YtcmbdhopmncmnaaGreatDoorWG1
import Derived.Test.YtcmbdhopmncmnaaGreatDoorWG6
namespace Go.Proofs.YtcmbdhopmncmnaaGreatDoor
open Lib(hid)
open Go.RowKit Go.Sort
set_option maxRecDepth 100000
set_option linter.unusedVariables false
set_option linter.unusedSimpArgs false
theorem any_take {α:Type}(p:α→Bool){l:List α}{i:Nat}(h:i < l.length):(l.take (i+1)).any p=((l.take i).any p || p l[i]):=by
 rw[List.take_succ_eq_append_getElem h,List.any_append]
 simp
set_option maxHeartbeats 4000000 in
theorem rsyms_any (A:Option Addr)(ps:List (Int × Int))(c:Nat)(w:World)(hp:Pts w A ps) :
  Calls Tryz.prog 72 #[.slice A ps.length c] w fun e w'=>∃ v,e=.returned v∧OwnIA w' w.heap.size v (symsP ps)∧Below w.heap.size w w':=by
 have HCR:=hid (rhood_any A c ps w hp);have HP:=hid hp;have hn9:ps.length≤9223372036854775807:=hp.le;clear hp;cases hB:hoodB ps with
 | false=>
  have HE:Hid (symsP ps=[]):=hid (by unfold symsP;rw[if_neg (by rw[hB];simp)]);rw[hB] at HCR;clear hB;go_enter Tryz.func72,Tryz.ntmps72;go_wp2_with (go_at_call 31;refine HCR.out.mono ?_;rintro e w1 ⟨rfl,hb1⟩;refine Hid.out ?_);refine hid ?_;go_wp2;go_ret;exact⟨_,rfl,by rw[HE.out];exact OwnI.nil _ _ _,hb1⟩
 | true=>
  have HE:Hid (symsP ps=symsTo ps 8):=hid (by unfold symsP;rw[if_pos hB]);have HRN:=hid (hoodB_rng hB);rw[hB] at HCR;clear hB;go_enter Tryz.func72,Tryz.ntmps72;go_wp2_with (go_at_call 31;refine HCR.out.mono ?_;rintro e w1 ⟨rfl,hb1⟩;refine Hid.out ?_);refine hid ?_;have HB1:=hid hb1;clear hb1;go_wp2;go_loopw [3,4] (fun lv kv wr=>∃ k:Nat,k≤8∧kv=.int .i64 k∧Hid (OwnIA wr w.heap.size lv (symsTo ps k))∧Hid (Below w.heap.size w wr)) (fun _ kv _=>8 - (intOf kv).toNat)
  case atStart=>exact⟨0,Nat.zero_le _,rfl,hid (OwnI.nil _ _ _),HB1⟩
  case round=>
   obtain⟨k,hk,rfl,HO,HB⟩:=hrel;by_cases hkl:k < 8
   ·have HK:=hid hkl;have hwk:wrap64 ((k:Int)+1)=(k:Int)+1:=by unfold wrap64;omega
    have HWK:=hid hwk;have hd8:decide ((k:Int) < 8)=true:=decide_eq_true (by omega);clear hk hwk;go_upto_region 9 with fail
    clear hd8;go_loopw [5,6] (fun bv iv w2=>∃ i:Nat,i≤ps.length∧iv=.int .i64 i∧bv=.bool (!(ps.take i).any (outH ps (k:Int)))∧Hid (OwnIA w2 w.heap.size u3 (symsTo ps k))∧Hid (Below w.heap.size w w2)) (fun _ iv _=>ps.length - (intOf iv).toNat)
    case atStart=>exact⟨0,Nat.zero_le _,rfl,rfl,HO,HB⟩
    case round=>
     obtain⟨i,hi,rfl,rfl,HO2,HB2⟩:=hrel;by_cases hil:i < ps.length
     ·have hwi:wrap64 ((i:Int)+1)=(i:Int)+1:=by unfold wrap64;omega
      have HWI:=hid hwi;have HAT:=hid (any_take (outH ps (k:Int)) hil);obtain⟨b1,o1,e1,-,hc0,hc1⟩:=(HP.out.ext HB2.out).at_ hil;have hrr:=HRN.out ps[i] (List.getElem_mem hil);obtain⟨z,hz⟩:∃ z,z=ps[i]:=⟨_,rfl⟩
      rw[← hz] at hc0 hc1 hrr HAT;subst e1;obtain⟨x,y⟩:=z;dsimp only at hc0 hc1 hrr;have HI:=hid hil;clear hi hwi hz;cases hk:(ps.take i).any (outH ps (k:Int)) with
      | true=>
       have HN:Hid ((!(ps.take (i+1)).any (outH ps (k:Int)))=false):=hid (by rw[HAT.out,hk];rfl);clear hk;rw[show (!true)=false from rfl];go_wp2;go_roundw
       case rel=>exact⟨i+1,HI.out,(by first | rfl | (rw[HWI.out];rfl)),(by rw[HN.out]),HO2,HB2⟩
       case measure=>(try rw[HWI.out]);exact meas_step HI.out
      | false=>
       have hcall:=rapply_any (k:Int) x y wr ⟨by omega,by omega⟩ ⟨by omega,by omega⟩;obtain⟨z',hz'⟩:∃ z,z=symP (k:Int) (x,y):=⟨_,rfl⟩
       have hout:outH ps (k:Int) (x,y) = !decide (z' ∈ ps):=by rw[hz'];rfl
       rw[← hz'] at hcall;rw[hk,hout,Bool.false_or] at HAT;obtain⟨z1,z2⟩:=z';dsimp only at hcall;have HCALL:=hid hcall;clear hk hcall hz' hout hrr;rw[show (!false)=true from rfl];go_wp2_with (go_at_call 109;refine HCALL.out.mono ?_;rintro e w3 ⟨rfl,hb3⟩;refine Hid.out ?_);refine hid ?_;have HB3:=hid (HB2.out.trans (hb3.mono HB2.out.size));have HO3:=hid (HO2.out.ext hb3);clear hb3 hc0 hc1;have hcall:=ridx_any (some ⟨b1,o1,none⟩) ps c z1 z2 w3 (HP.out.ext HB3.out);have hmem:=idxF_mem (p:=(z1,z2)) ps 0;obtain⟨r,hr⟩:∃ r,r=idxF (z1,z2) 0 ps:=⟨_,rfl⟩
       rw[← hr] at hcall hmem;have HCALL2:=hid hcall;have HMEM:=hid hmem;clear hcall hmem hr HCALL;go_wp2_with (go_at_call 65;refine HCALL2.out.mono ?_;rintro e w4 ⟨rfl,hb4⟩;refine Hid.out ?_);refine hid ?_;have HB4:=hid (HB3.out.trans (hb4.mono HB3.out.size));have HO4:=hid (HO3.out.ext hb4);clear hb4;have HN:Hid ((!(ps.take (i+1)).any (outH ps (k:Int)))=decide (0≤r)):=hid (by
        rw[HAT.out,Bool.not_not];exact decide_eq_decide.2 HMEM.out.symm)
       go_wp2;go_roundw
       case rel=>exact⟨i+1,HI.out,(by first | rfl | (rw[HWI.out];rfl)),(by rw[HN.out]),HO4,HB4⟩
       case measure=>(try rw[HWI.out]);exact meas_step HI.out
     ·obtain rfl:i=ps.length:=Nat.le_antisymm hi (Nat.le_of_not_lt hil);rw[List.take_length];clear hi hil;cases hk:ps.any (outH ps (k:Int)) with
      | true=>
       have HST:Hid (OwnIA wr w.heap.size u3 (symsTo ps (k+1))):=hid (by rw[symsTo_no hk];exact HO2.out);clear hk;rw[show (!true)=false from rfl];go_wp2;go_roundw
       case rel=>exact⟨k+1,HK.out,(by first | rfl | (rw[HWK.out];rfl)),HST,HB2⟩
       case measure=>(try rw[HWK.out]);exact meas_step HK.out
      | false=>
       have HST:=hid (symsTo_yes hk);rw[show (!false)=true from rfl];have hown:=HO2.out;have hln:(symsTo ps k).length < 1000000000000:=by have:=symsTo_len ps k;have:=HK.out;omega
       have hbs:=HB2.out.size;clear hk;go_wp2_with (at_builtin;refine wpList_pushI rfl _ _ _ rfl w.heap.size 3 Tryz.underlying30 Tryz.infoInt _ _ rfl hown _ rfl hln hbs ?_);intro v' w7 ho' hb';have HO7:Hid (OwnIA w7 w.heap.size v' (symsTo ps (k+1))):=hid (by rw[HST.out];exact ho');have HB7:=hid (HB2.out.trans hb');clear ho' hb' hown hln hbs;go_wp2;go_roundw
       case rel=>exact⟨k+1,HK.out,(by first | rfl | (rw[HWK.out];rfl)),HO7,HB7⟩
       case measure=>(try rw[HWK.out]);exact meas_step HK.out
   ·obtain rfl:k=8:=Nat.le_antisymm hk (Nat.le_of_not_lt hkl);have hd8:decide (((8:Nat):Int) < 8)=false:=by decide
    clear hk hkl;go_wp2;go_ret;exact⟨_,rfl,by rw[HE.out];exact HO.out,HB.out⟩
set_option maxHeartbeats 4000000 in
theorem rpermits_any (A:Option Addr)(ps:List (Int × Int))(c:Nat)(sym:Int)(w:World)(hp:Pts w A ps) :
  Calls Tryz.prog 32 #[.slice A ps.length c,.int .i64 sym] w fun e w'=>e=.returned (.bool (permP ps sym))∧Below w.heap.size w w':=by
 have hcall:=rsyms_any A ps c w hp;obtain⟨l,hl⟩:∃ l,l=symsP ps:=⟨_,rfl⟩
 have hP:permP ps sym=if sym=0 then true else if sym=1 then decide ((1:Int) ∈ l) else if sym=2 then (l.length:Int) == 8 else if sym=3 then decide (ps.length≤9) else false:=by rw[hl];rfl
 obtain⟨r,hr⟩:∃ r,r=permP ps sym:=⟨_,rfl⟩
 rw[← hr];have HR:Hid (r=if sym=0 then true else if sym=1 then decide ((1:Int) ∈ l) else if sym=2 then (l.length:Int) == 8 else if sym=3 then decide (ps.length≤9) else false):=hid (hr.trans hP);have hl8:l.length≤8:=by
  rw[hl];unfold symsP
  split
  ·exact symsTo_len ps 8
  ·simp
 rw[← hl] at hcall;have HCALL:=hid hcall;have hn:=hp.le;clear hcall hl hP hp hr;by_cases h0:sym=0
 ·subst h0;go_enter Tryz.func32,Tryz.ntmps32;go_wp2;go_ret;exact⟨ret_bool (by rw[HR.out];simp),Below.refl _ _⟩
 ·have d0:(sym == 0)=false:=beq_false_of_ne h0;by_cases h3:sym=3
  ·subst h3;have HD:Hid (decide ((ps.length:Int)≤9)=decide (ps.length≤9)):=hid (decide_eq_decide.2 (by omega));clear h0;go_enter Tryz.func32,Tryz.ntmps32;go_wp2;go_ret;exact⟨ret_bool (by rw[HR.out];simp[HD.out]),Below.refl _ _⟩
  ·have d3:(sym == 3)=false:=beq_false_of_ne h3;go_enter Tryz.func32,Tryz.ntmps32;go_wp2_with (go_at_call 72;refine HCALL.out.mono ?_;rintro e w1 ⟨v,rfl,ho,hb⟩;refine Hid.out ?_);refine hid ?_;obtain⟨A5,c5,e5,hi5,-⟩:=ho.ints;subst e5;have HB:=hid hb;have HI:=hid hi5;have hl9:l.length≤9223372036854775807:=by omega
   clear ho hb hi5 HCALL hl8;by_cases h1:sym=1
   ·subst h1;have HC:Hid (Calls Tryz.prog 24 #[.slice A5 l.length c5,.int .i64 1] w1 fun e w'=>e=.returned (.bool (decide ((1:Int) ∈ l)))∧w1=w'):=hid ((has_any A5 l c5 1 w1 HI.out).mono fun e w' h=>⟨h.1,h.2.symm⟩);clear h0 h3;go_wp2_with (go_at_call 24;refine HC.out.mono ?_;rintro e w2 ⟨rfl,rfl⟩;refine Hid.out ?_);refine hid ?_;go_wp2;go_ret;exact⟨ret_bool (by rw[HR.out];simp[*]),HB.out⟩
   ·have d1:(sym == 1)=false:=beq_false_of_ne h1;by_cases h2:sym=2
    ·subst h2;clear h0 h1 h3;cases h8:((l.length:Int) == 8) with
     | true=>
      have HH8:=hid h8;go_wp2;go_ret;exact⟨ret_bool (by rw[HR.out];simp;simpa using HH8.out),HB.out⟩
     | false=>
      have HH8:=hid h8;go_wp2;go_ret;exact⟨ret_bool (by rw[HR.out];simp;simpa using HH8.out),HB.out⟩
    ·have d2:(sym == 2)=false:=beq_false_of_ne h2;have H0:=hid (And.intro h0 (And.intro h1 (And.intro h2 h3)));clear h0 h1 h2 h3;go_wp2;go_ret;exact⟨ret_bool (by rw[HR.out];rw[if_neg H0.out.1,if_neg H0.out.2.1,if_neg H0.out.2.2.1,if_neg H0.out.2.2.2]),HB.out⟩
end Go.Proofs.YtcmbdhopmncmnaaGreatDoor
namespace Go.Proofs.YtcmbdhopmncmnaaGreatDoor
open Lib(hid)
open Go.RowKit Go.Sort Go.Maps
set_option maxRecDepth 100000
set_option linter.unusedVariables false
set_option linter.unusedSimpArgs false
theorem rleast_any (a b:Int)(w:World):Calls Tryz.prog 79 #[.int .i64 a,.int .i64 b] w fun e w'=>e=.returned (.int .i64 (leastP a b))∧w'=w:=by
 obtain⟨r,hr⟩:∃ r,r=leastP a b:=⟨_,rfl⟩
 rw[← hr];unfold leastP at hr;have HR:=hid hr;clear hr;by_cases h1:a < 0
 ·have d1:decide (a < 0)=true:=decide_eq_true h1;have HE:Hid (r=b):=hid (by rw[HR.out,if_pos h1]);clear h1;go_enter Tryz.func79,Tryz.ntmps79;go_wp2;go_ret;exact⟨ret_int HE.out.symm,rfl⟩
 ·have d1:decide (a < 0)=false:=decide_eq_false h1;by_cases h2:b < 0
  ·have d2:decide (b < 0)=true:=decide_eq_true h2;have HE:Hid (r=a):=hid (by rw[HR.out,if_neg h1,if_pos h2]);clear h1 h2;go_enter Tryz.func79,Tryz.ntmps79;go_wp2;go_ret;exact⟨ret_int HE.out.symm,rfl⟩
  ·have d2:decide (b < 0)=false:=decide_eq_false h2;have HE:Hid (r=min a b):=hid (by rw[HR.out,if_neg h1,if_neg h2]);clear h1 h2;go_enter Tryz.func79,Tryz.ntmps79;go_wp2;go_ret;exact⟨ret_int HE.out.symm,rfl⟩
theorem rbind_step {vars:List (List Int)}{ins inn bs:List Int}{i:Nat}(h1:i < ins.length)(h2:i < inn.length):rbindAll vars (ins.drop i) (inn.drop i) bs=if rfitsP vars bs ins[i] inn[i]=true then rbindAll vars (ins.drop (i+1)) (inn.drop (i+1)) (rsetP bs ins[i] inn[i]) else none:=by
 rw[List.drop_eq_getElem_cons h1,List.drop_eq_getElem_cons h2];rfl
def negN (n i:Nat):List Int:=List.replicate i (-1) ++ List.replicate (n - i) 0
theorem negN_len {n i:Nat}(h:i≤n):(negN n i).length=n:=by unfold negN;simp;omega
theorem negN_step {n i:Nat}(h:i < n):(negN n i).set i (-1)=negN n (i+1):=by
 unfold negN;rw[List.set_append_right _ _ (by simp),List.length_replicate,Nat.sub_self,show n - i=(n - (i+1))+1 by omega,List.replicate_succ,List.set_cons_zero,List.replicate_succ']
 simp
theorem negN_full (n:Nat):negN n n=List.replicate n (-1):=by unfold negN;simp
theorem negN_zero (n:Nat):negN n 0=List.replicate n 0:=by unfold negN;simp
set_option maxHeartbeats 16000000 in
theorem rexact_any (hA:Option Addr)(hc:Nat)(vA:Option Addr)(vc:Nat)(rA:Option Addr)(rc:Nat)(t:TabH)(zA:Option Addr)(zc:Nat)(ins:List Int)(out:Int)(iA:Option Addr)(ic:Nat)(inn:List Int)(w:World)(hV:Vrs w vA t.vs)(h40:t.vs.length≤40)(hz:Ints w zA ins)(hi:Ints w iA inn)(hl:ins.length=inn.length)(h25:ins.length≤25)(he:∀ e ∈ ins,ElOk t.vs.length e)(ho:ElOk t.vs.length out) :
  Calls Tryz.prog 78 #[tabV hA hc vA vc rA rc t,.slice zA ins.length zc,.int .i64 out,.slice iA inn.length ic] w fun e w'=>e=.returned (.int .i64 (exactP (t.vs.map Vh.zs) ins out inn))∧Below w.heap.size w w':=by
 obtain⟨st,sym,hood,vs,rs⟩:=t;unfold tabV;dsimp only at hV h40 he ho ⊢;obtain⟨w0,hw0⟩:∃ w0,w0=w.alloc (.cells #[.int .i64 st,.int .i64 sym,.slice hA hood.length hc,.slice vA vs.length vc,.slice rA rs.length rc] 26):=⟨_,rfl⟩
 have hb0:Below w.heap.size w w0:=by rw[hw0];exact below_new _ _
 have p0:Blk w0 w.heap.size 26 #[.int .i64 st,.int .i64 sym,.slice hA hood.length hc,.slice vA vs.length vc,.slice rA rs.length rc]:=by rw[hw0];exact Blk.new _ _ _
 obtain⟨gT,hgT⟩:∃ g,g=w.heap.size:=⟨_,rfl⟩
 rw[← hgT] at p0;have HB0:=hid hb0;have HP:=hid p0;have HW0:=hid (And.intro hw0 hgT);have HV:=hid (hV.ext hb0);have HZ:=hid (And.intro (hz.ext hb0) (And.intro (hi.ext hb0) hl));have HE:=hid (And.intro he ho);obtain⟨vars,hvars⟩:∃ v,v=vs.map Vh.zs:=⟨_,rfl⟩
 rw[← hvars];have HVS:=hid hvars;have hvl:vars.length=vs.length:=by rw[hvars,List.length_map]
 have HVL:=hid (And.intro hvl h40);have HN25:=hid h25;obtain⟨res,hres⟩:∃ r,r=exactP vars ins out inn:=⟨_,rfl⟩
 rw[← hres];unfold exactP at hres;have HRES:=hid hres;have hin9:inn.length≤9223372036854775807:=hi.le;have hz9:ins.length≤9223372036854775807:=hz.le;have hv9:vs.length≤9223372036854775807:=hV.le;have c3:=p0.cell_ 3 (.slice vA vs.length vc) rfl;obtain⟨i0,hi0,hz0,hz1,hz2⟩:=info_parts Tryz.infoInt;have hmw:w0.heap.size≤w0.heap.size:=Nat.le_refl _;clear hb0 p0 hw0 hgT hV hz hi he ho hvars hl hres hvl h25;go_enter Tryz.func78,Tryz.ntmps78;go_upto_region 1 with fail
 rw[← HW0.out.1,← HW0.out.2];go_wp2_with (at_make;refine wpList_make_full _ rfl _ _ 30 rfl w0.heap.size 3 i0 _ 1 Tryz.underlying30 hi0 hz0 hz1 .i64 .i64 vs.length vs.length vs.length rfl rfl rfl rfl (by rw[hz2];omega) (by unfold maxLen;omega) hmw ?_);intro w1 ho1 hg1;have hb1:Below w0.heap.size w0 w1:=(Below.refl _ w0).grown hg1 (Nat.le_refl _) (by intro k hk;cases hk);have hr1:OwnIA w1 w0.heap.size (.slice (some ⟨w0.heap.size,0,none⟩) vs.length vs.length) (negN vs.length 0):=by
  unfold OwnIA OwnI;rw[negN_zero,List.length_replicate,List.map_replicate];rw[toList_madeCells_one] at ho1;exact ho1
 obtain⟨gO,hgO⟩:∃ g,g=w0.heap.size:=⟨_,rfl⟩
 have HGL:Hid (w0.heap.size≤gO):=hid (by rw[hgO];exact Nat.le_refl _);have HR1:Hid (OwnIA w1 w0.heap.size (.slice (some ⟨gO,0,none⟩) vs.length vs.length) (negN vs.length 0)):=hid (by rw[hgO];exact hr1);rw[← hgO];have HB1:=hid hb1;clear ho1 hg1 hb1 hr1 hgO hi0 hz0 hz1 hz2 hmw c3 h40;go_upto_region 3 with fail
 go_loopw [10] (fun iv wr=>∃ i:Nat,i≤vs.length∧iv=.int .i64 i∧Hid (OwnIA wr w0.heap.size (.slice (some ⟨gO,0,none⟩) vs.length vs.length) (negN vs.length i))∧Hid (Below w0.heap.size w0 wr)) (fun iv _=>vs.length - (intOf iv).toNat)
 case atStart=>exact⟨0,Nat.zero_le _,rfl,HR1,HB1⟩
 case round=>
  obtain⟨i,hi,rfl,HO,HBW⟩:=hrel;by_cases hil:i < vs.length
  ·have hwi:wrap64 ((i:Int)+1)=(i:Int)+1:=by have:=HVL.out.2;unfold wrap64;omega
   have HWI:=hid hwi;obtain⟨c0,f0⟩:=HO.out.cellk (k:=i) (by rw[negN_len hi];exact hil);have hset:=HO.out.set (by rw[negN_len hi]) i (-1);rw[negN_step hil] at hset;have HO2:=hid hset;have HB2:=hid (HBW.out.setCell (p:=⟨gO,i,none⟩) HGL.out (.int .i64 (-1)));have HI:=hid hil;clear hi hwi hset;go_wp2;go_roundw
   case rel=>exact⟨i+1,HI.out,(by first | rfl | (rw[HWI.out];rfl)),HO2,HB2⟩
   case measure=>(try rw[HWI.out]);exact meas_step HI.out
  ·obtain rfl:i=vs.length:=Nat.le_antisymm hi (Nat.le_of_not_lt hil);rw[negN_full] at HO;clear hi hil HR1 HB1;go_upto_region 7 with fail
   have HST0:Hid (rbindAll vars ins inn (List.replicate vs.length (-1))=rbindAll vars (ins.drop 0) (inn.drop 0) (List.replicate vs.length (-1))):=hid rfl;go_loopw [11] (fun iv wr=>∃ (i:Nat) (bs:List Int),i≤ins.length∧iv=.int .i64 i∧bs.length=vs.length∧Hid (OwnIA wr w0.heap.size (.slice (some ⟨gO,0,none⟩) vs.length vs.length) bs)∧Hid (Below w0.heap.size w0 wr)∧Hid (rbindAll vars ins inn (List.replicate vs.length (-1))=rbindAll vars (ins.drop i) (inn.drop i) bs)) (fun iv _=>ins.length - (intOf iv).toNat)
   case atStart=>exact⟨0,_,Nat.zero_le _,rfl,by simp,HO,HBW,HST0⟩
   case round=>
    clear HO HBW HST0;obtain⟨i,bs,hi,rfl,hbl,HO,HBW,HT⟩:=hrel;by_cases hil:i < ins.length
    ·have hil2:i < inn.length:=by rw[← HZ.out.2.2];exact hil
     obtain⟨zb,zo,ez,-,hcz⟩:=(HZ.out.1.ext HBW.out).at_ hil;obtain⟨ib,io,ei,-,hci⟩:=(HZ.out.2.1.ext HBW.out).at_ hil2;have hS:=HT.out.trans (rbind_step hil hil2);have hel:=HE.out.1 ins[i] (List.getElem_mem hil);obtain⟨e,hee⟩:∃ e,e=ins[i]:=⟨_,rfl⟩
     obtain⟨s,hss⟩:∃ s,s=inn[i]:=⟨_,rfl⟩
     rw[← hee] at hcz hel hS;rw[← hss] at hci hS;subst ez ei;have HI:=hid hil;have hwi:wrap64 ((i:Int)+1)=(i:Int)+1:=by unfold wrap64;omega
     have HWI:=hid hwi;have HBL:=hid hbl;have HNO:Hid (rfitsP vars bs e s=false→res = -1):=hid (fun h=>by
      rw[HRES.out,show vars.length=vs.length from HVL.out.1,hS,h];rfl)
     have HYES:Hid (rfitsP vars bs e s=true→rbindAll vars ins inn (List.replicate vs.length (-1))=rbindAll vars (ins.drop (i+1)) (inn.drop (i+1)) (rsetP bs e s)):=hid (fun h=>by rw[hS,h];rfl);clear hi hee hss hS hbl hwi;by_cases h0:0≤e
     ·have d0:decide (0≤e)=true:=decide_eq_true h0;have hF:rfitsP vars bs e s=(e == s):=if_pos h0;have hG:rsetP bs e s=bs:=if_pos h0;rw[hF,hG] at HYES;rw[hF] at HNO;clear hF hG h0;by_cases hes:e=s
      ·subst hes;have HT2:Hid (rbindAll vars ins inn (List.replicate vs.length (-1))=rbindAll vars (ins.drop (i+1)) (inn.drop (i+1)) bs):=hid (HYES.out (by simp));go_wp2;go_quiet (fail)
       have HON:Hid (OwnIA (wr.drewN nq) w0.heap.size (.slice (some ⟨gO,0,none⟩) vs.length vs.length) bs):=hid HO.out;have HBN:=hid (below_drewN HBW.out nq);go_wp2;go_roundw
       case rel=>exact⟨i+1,bs,HI.out,(by first | rfl | (rw[HWI.out];rfl)),HBL.out,HON,HBN,HT2⟩
       case measure=>(try rw[HWI.out]);exact meas_step HI.out
      ·have d1:(e != s)=true:=by simp[hes]
       have d2:(e == s)=false:=beq_false_of_ne hes;have HF:Hid (res = -1):=hid (HNO.out d2);clear hes;go_wp2;go_quiet (fail)
       go_wp2;go_ret;exact⟨ret_int HF.out.symm,HB0.out.trans ((below_drewN HBW.out _).mono HB0.out.size)⟩
     ·have d0:decide (0≤e)=false:=decide_eq_false h0;have hvl:=hel.1 (by omega);obtain⟨v,hv⟩:∃ v:Nat,-1 - e=(v:Int):=⟨(-1 - e).toNat,by omega⟩
      have hv':(-1 - e).toNat=v:=by omega
      rw[hv'] at hvl;have hwv:wrap64 (-1 - e)=(v:Int):=by have:=HVL.out.2;unfold wrap64;omega
      have HWV:=hid hwv;have hF:rfitsP vars bs e s=(decide (s ∈ vars.getD v []) && (decide (bs.getD v 0 < 0) || bs.getD v 0 == s)):=by unfold rfitsP;rw[if_neg h0,hv']
      have hG:rsetP bs e s=bs.set v s:=by unfold rsetP;rw[if_neg h0,hv']
      rw[hF,hG] at HYES;rw[hF] at HNO;obtain⟨vb,vo,ea,-,hca,hia⟩:=(HV.out.ext HBW.out).at_ hvl;obtain⟨xh,hxh⟩:∃ z,z=vs[v]:=⟨_,rfl⟩
      rw[← hxh] at hca hia;have hget:vars.getD v []=xh.zs:=by rw[HVS.out,hxh,List.getD_eq_getElem?_getD,List.getElem?_map,List.getElem?_eq_getElem hvl];rfl
      rw[hget] at HYES HNO;obtain⟨xA,xc,zs⟩:=xh;dsimp only at hca hia HYES HNO;subst ea;have x3:=(HP.out.below HBW.out HP.out.lt).cell_ 3 (.slice (some ⟨vb,vo,none⟩) vs.length vc) rfl;have HVV:=hid hvl;obtain⟨cb,fb⟩:=HO.out.cellk (k:=v) (by rw[HBL.out];exact hvl);obtain⟨bz,hbz⟩:∃ z,z=bs.getD v 0:=⟨_,rfl⟩
      rw[← hbz] at cb HYES HNO;have hhas:=fun k=>has_any xA zs xc s (wr.drewN k) hia;clear hF hG h0 hel hv hv' hxh hget hbz hia;by_cases hm:s ∈ zs
      ·rw[decide_eq_true hm] at HYES HNO hhas;have HAS:=hid hhas;clear hm hhas;by_cases h1:bz < 0
       ·have d1:decide (0≤bz)=false:=decide_eq_false (by omega);have d1':¬ 0≤bz:=by omega
        have HT2:Hid (rbindAll vars ins inn (List.replicate vs.length (-1))=rbindAll vars (ins.drop (i+1)) (inn.drop (i+1)) (bs.set v s)):=hid (HYES.out (by rw[decide_eq_true h1];rfl));clear h1;go_wp2;go_quiet ((go_at_call 24;exact Calls.quiet_of ((HAS.out _).mono fun _ _ h=>⟨h.1,0,h.2⟩)))
        have HON:Hid (OwnIA (wr.drewN nq) w0.heap.size (.slice (some ⟨gO,0,none⟩) vs.length vs.length) bs):=hid HO.out;have HBN:=hid (below_drewN HBW.out nq);obtain⟨w5,hw5⟩:∃ W,W=wr.drewN nq:=⟨_,rfl⟩
        have hci5:w5.cell? ⟨ib,io+i,none⟩=some (.int .i64 s):=by rw[hw5];exact hci
        rw[← hw5] at HON HBN ⊢;clear hw5 hci cb fb x3 hca hcz;obtain⟨cb,fb⟩:=HON.out.cellk (k:=v) (by rw[HBL.out];exact HVV.out);have HO6:=hid (HON.out.set (by rw[HBL.out]) v s);have HB6:=hid (HBN.out.setCell (p:=⟨gO,v,none⟩) HGL.out (.int .i64 s));have HBL6:Hid ((bs.set v s).length=vs.length):=hid (by rw[List.length_set];exact HBL.out);go_wp2;go_roundw
        case rel=>exact⟨i+1,bs.set v s,HI.out,(by first | rfl | (rw[HWI.out];rfl)),HBL6.out,HO6,HB6,HT2⟩
        case measure=>(try rw[HWI.out]);exact meas_step HI.out
       ·have d1:decide (0≤bz)=true:=decide_eq_true (by omega);by_cases h2:bz=s
        ·subst h2;have HT2:Hid (rbindAll vars ins inn (List.replicate vs.length (-1))=rbindAll vars (ins.drop (i+1)) (inn.drop (i+1)) (bs.set v bz)):=hid (HYES.out (by simp));clear h1;go_wp2;go_quiet ((go_at_call 24;exact Calls.quiet_of ((HAS.out _).mono fun _ _ h=>⟨h.1,0,h.2⟩)))
         have HON:Hid (OwnIA (wr.drewN nq) w0.heap.size (.slice (some ⟨gO,0,none⟩) vs.length vs.length) bs):=hid HO.out;have HBN:=hid (below_drewN HBW.out nq);obtain⟨w5,hw5⟩:∃ W,W=wr.drewN nq:=⟨_,rfl⟩
         have hci5:w5.cell? ⟨ib,io+i,none⟩=some (.int .i64 bz):=by rw[hw5];exact hci
         rw[← hw5] at HON HBN ⊢;clear hw5 hci cb fb x3 hca hcz;obtain⟨cb,fb⟩:=HON.out.cellk (k:=v) (by rw[HBL.out];exact HVV.out);have HO6:=hid (HON.out.set (by rw[HBL.out]) v bz);have HB6:=hid (HBN.out.setCell (p:=⟨gO,v,none⟩) HGL.out (.int .i64 bz));have HBL6:Hid ((bs.set v bz).length=vs.length):=hid (by rw[List.length_set];exact HBL.out);go_wp2;go_roundw
         case rel=>exact⟨i+1,bs.set v bz,HI.out,(by first | rfl | (rw[HWI.out];rfl)),HBL6.out,HO6,HB6,HT2⟩
         case measure=>(try rw[HWI.out]);exact meas_step HI.out
        ·have d2:(bz != s)=true:=by simp[h2]
         have HF:Hid (res = -1):=hid (HNO.out (by rw[decide_eq_false h1,beq_false_of_ne h2];rfl));clear h1 h2;go_wp2;go_quiet ((go_at_call 24;exact Calls.quiet_of ((HAS.out _).mono fun _ _ h=>⟨h.1,0,h.2⟩)))
         go_wp2;go_ret;exact⟨ret_int HF.out.symm,HB0.out.trans ((below_drewN HBW.out _).mono HB0.out.size)⟩
      ·rw[decide_eq_false hm] at HNO hhas;have HAS:=hid hhas;have HF:Hid (res = -1):=hid (HNO.out rfl);clear hm hhas;go_wp2;go_quiet ((go_at_call 24;exact Calls.quiet_of ((HAS.out _).mono fun _ _ h=>⟨h.1,0,h.2⟩)))
       go_wp2;go_ret;exact⟨ret_int HF.out.symm,HB0.out.trans ((below_drewN HBW.out _).mono HB0.out.size)⟩
    ·obtain rfl:i=ins.length:=Nat.le_antisymm hi (Nat.le_of_not_lt hil);have hfin:=HT.out;rw[List.drop_length] at hfin;have HRR:Hid (res=outP bs out):=hid (by rw[HRES.out,show vars.length=vs.length from HVL.out.1,hfin];rfl);clear hi hil hfin;by_cases h0:0≤out
     ·have d0:decide (0≤out)=true:=decide_eq_true h0;have HF:Hid (res=out):=hid (by rw[HRR.out];unfold outP;rw[if_pos h0]);clear h0;go_wp2;go_ret;exact⟨ret_int HF.out.symm,HB0.out.trans (HBW.out.mono HB0.out.size)⟩
     ·have d0:decide (0≤out)=false:=decide_eq_false h0;have hvl:=HE.out.2.1 (by omega);obtain⟨v,hv⟩:∃ v:Nat,-1 - out=(v:Int):=⟨(-1 - out).toNat,by omega⟩
      have hv':(-1 - out).toNat=v:=by omega
      rw[hv'] at hvl;have hwv:wrap64 (-1 - out)=(v:Int):=by have:=HVL.out.2;unfold wrap64;omega
      have HF:Hid (res=bs.getD v 0):=hid (by rw[HRR.out];unfold outP;rw[if_neg h0,hv']);obtain⟨cb,fb⟩:=HO.out.cellk (k:=v) (by rw[hbl];exact hvl);obtain⟨bz,hbz⟩:∃ z,z=bs.getD v 0:=⟨_,rfl⟩
      rw[← hbz] at cb HF;clear h0 hv hv' hbz hbl;go_wp2;go_ret;exact⟨ret_int HF.out.symm,HB0.out.trans (HBW.out.mono HB0.out.size)⟩
end Go.Proofs.YtcmbdhopmncmnaaGreatDoor
namespace Go.Proofs.YtcmbdhopmncmnaaGreatDoor
open Lib(hid)
set_option linter.unusedSimpArgs false
open Go.RowKit
set_option maxRecDepth 100000
set_option linter.unusedVariables false
set_option maxHeartbeats 800000 in
theorem rcentre_any (A:Option Addr)(ps:List (Int × Int))(c:Nat)(w:World)(ha:Pts w A ps) :
  Calls Tryz.prog 22 #[.slice A ps.length c] w fun e w'=>e=.returned (.int .i64 (ctrP ps))∧Below w.heap.size w w':=by
 have HH:=hid (rhood_any A c ps w ha);have HX:=hid (fun W (hb:Below w.heap.size w W)=>ridx_any A ps c 0 0 W (ha.ext hb));have hn:=ha.le;cases hB:hoodB ps with
 | false=>
  have HE:Hid (ctrP ps = -1):=hid (by unfold ctrP;rw[hB];rfl);go_enter Tryz.func22,Tryz.ntmps22;go_wp2_with fail;refine HH.out.mono ?_;rintro e w1 ⟨rfl,hb1⟩;rw[hB];go_wp2;go_ret;exact⟨ret_int HE.out.symm,hb1⟩
 | true=>
  have HE:Hid (ctrP ps=idxF (0,0) 0 ps):=hid (by unfold ctrP;rw[hB];rfl);go_enter Tryz.func22,Tryz.ntmps22;go_wp2_with fail;refine HH.out.mono ?_;rintro e w1 ⟨rfl,hb1⟩;rw[hB];go_wp2_with fail;refine (HX.out w1 hb1).mono ?_;rintro e w2 ⟨rfl,hb2⟩;go_wp2;go_ret;exact⟨ret_int HE.out.symm,hb1.trans (hb2.mono hb1.size)⟩
end Go.Proofs.YtcmbdhopmncmnaaGreatDoor
namespace Go.Proofs.YtcmbdhopmncmnaaGreatDoor
open Lib(hid)
open Go.RowKit Go.Sort Go.Maps
set_option maxRecDepth 100000
set_option linter.unusedVariables false
set_option linter.unusedSimpArgs false
set_option maxHeartbeats 800000 in
theorem ridx11_any (A:Option Addr)(xs:List (Int × Int))(c:Nat)(a b:Int)(w:World)(ha:Pts w A xs) :
  Calls Tryz.prog 115 #[.slice A xs.length c,.agg #[.int .i64 a,.int .i64 b]] w fun e w'=>e=.returned (.int .i64 (idxF (a,b) 0 xs))∧Below w.heap.size w w':=by
 have hn:=ha.le;obtain⟨w0,hw0⟩:∃ w0,w0=w.alloc (.cells #[.int .i64 a,.int .i64 b] 43):=⟨_,rfl⟩
 have hb0:Below w.heap.size w w0:=by rw[hw0];exact below_new _ _
 have q0:Blk w0 w.heap.size 43 #[.int .i64 a,.int .i64 b]:=by rw[hw0];exact Blk.new _ _ _
 have d0:=q0.cell_ 0 (.int .i64 a) rfl;have d1:=q0.cell_ 1 (.int .i64 b) rfl;have hP:=ha.ext hb0;have HB0:=hid hb0;have HW0:=hid hw0;clear hb0 q0 hw0 ha;go_enter Tryz.func115,Tryz.ntmps115;go_upto_region 1 with fail
 rw[← HW0.out];go_wp2;go_loopw [5] (fun i wr=>∃ k q:Nat,k≤xs.length∧i=.int .i64 k∧wr=w0.drewN q∧Hid (idxF (a,b) 0 xs=idxF (a,b) k (xs.drop k))) (fun i _=>xs.length - (intOf i).toNat)
 case atStart=>exact⟨0,0,Nat.zero_le _,rfl,rfl,hid rfl⟩
 case round=>
  obtain⟨k,q,hk,rfl,rfl,HT⟩:=hrel;by_cases hlt:k < xs.length
  ·obtain⟨b1,o1,rfl,-,hc,hc'⟩:=hP.at_ hlt;have HD:=hid (HT.out.trans (idxF_step (p:=(a,b)) hlt));clear HT;have hst:=Tryz.stood_pt;have heg:=Tryz.guard_pt;have hnq:=eql_pt;go_wp2;go_quiet (fail)
   cases hpe:ptEq xs[k].1 xs[k].2 a b with
   | true=>
    have he:xs[k]=(a,b):=by
     unfold ptEq at hpe;simp at hpe;exact Prod.ext hpe.1 hpe.2
    have HN:=hid (HD.out.trans (if_pos he));clear HD he;go_wp2;go_ret;exact⟨ret_int HN.out.symm,HB0.out.trans ((below_drewN (below_drewN (Below.refl _ _) _) _).mono HB0.out.size)⟩
   | false=>
    have he:¬ xs[k]=(a,b):=by
     unfold ptEq at hpe;intro e;rw[e] at hpe;simp at hpe
    have HN:=hid (HD.out.trans (if_neg he));clear HD he;go_wp2;go_roundw
    case rel=>exact⟨k+1,_,by omega,by go_num,rfl,HN⟩
    case measure=>simp[intOf];omega
  ·obtain rfl:k=xs.length:=by omega
   have hno:idxF (a,b) 0 xs = -1:=by rw[HT.out,List.drop_length];rfl
   have HN:=hid hno;clear hno HT;go_wp2;go_ret;exact⟨ret_int HN.out.symm,HB0.out.trans ((below_drewN (Below.refl _ _) _).mono HB0.out.size)⟩
set_option maxHeartbeats 16000000 in
theorem rturned_any (hA:Option Addr)(hc:Nat)(vA:Option Addr)(vc:Nat)(rA:Option Addr)(rc:Nat)(t:TabH)(zA:Option Addr)(zc:Nat)(ins:List Int)(k:Nat)(w:World)(hp:Pts w hA t.hood)(hz:Ints w zA ins)(hl:ins.length=t.hood.length)(hh:hoodB t.hood=true) :
  Calls Tryz.prog 80 #[tabV hA hc vA vc rA rc t,.slice zA ins.length zc,.int .i64 (k:Int)] w fun e w'=>∃ v,e=.returned v∧OwnIA w' w.heap.size v (rturnTo t.hood (k:Int) ins ins.length)∧Below w.heap.size w w':=by
 obtain⟨st,sym,hood,vs,rs⟩:=t;unfold tabV;dsimp only at hp hl hh ⊢;obtain⟨w0,hw0⟩:∃ w0,w0=w.alloc (.cells #[.int .i64 st,.int .i64 sym,.slice hA hood.length hc,.slice vA vs.length vc,.slice rA rs.length rc] 26):=⟨_,rfl⟩
 have hb0:Below w.heap.size w w0:=by rw[hw0];exact below_new _ _
 have p0:Blk w0 w.heap.size 26 #[.int .i64 st,.int .i64 sym,.slice hA hood.length hc,.slice vA vs.length vc,.slice rA rs.length rc]:=by rw[hw0];exact Blk.new _ _ _
 obtain⟨gT,hgT⟩:∃ g,g=w.heap.size:=⟨_,rfl⟩
 rw[← hgT] at p0;have HB0:=hid hb0;have HP:=hid p0;have HW0:=hid (And.intro hw0 hgT);have HPT:=hid (hp.ext hb0);have HZ:=hid (hz.ext hb0);have HRN:=hid (hoodB_rng hh);have hln:=hoodB_len hh;have hil:ins.length≤25:=by omega
 have HLN:=hid (And.intro hl hil);have hh9:hood.length≤9223372036854775807:=hp.le;have hz9:ins.length≤9223372036854775807:=hz.le;obtain⟨i0,hi0,hz0,hz1,hz2⟩:=info_parts Tryz.infoInt;have hmw:w0.heap.size≤w0.heap.size:=Nat.le_refl _;clear hb0 p0 hw0 hgT hp hz hh hln hl;go_enter Tryz.func80,Tryz.ntmps80;go_upto_region 1 with fail
 rw[← HW0.out.1,← HW0.out.2];go_wp2_with (at_make;refine wpList_make_full _ rfl _ _ 30 rfl w0.heap.size 3 i0 _ 1 Tryz.underlying30 hi0 hz0 hz1 .i64 .i64 ins.length ins.length ins.length rfl rfl rfl rfl (by rw[hz2];omega) (by unfold maxLen;omega) hmw ?_);intro w1 ho1 hg1;have hb1:Below w0.heap.size w0 w1:=(Below.refl _ w0).grown hg1 (Nat.le_refl _) (by intro k hk;cases hk);have hr1:OwnIA w1 w0.heap.size (.slice (some ⟨w0.heap.size,0,none⟩) ins.length ins.length) (rturnTo hood (k:Int) ins 0):=by
  unfold OwnIA OwnI;rw[rturnTo,List.length_replicate,List.map_replicate];rw[toList_madeCells_one] at ho1;exact ho1
 obtain⟨gO,hgO⟩:∃ g,g=w0.heap.size:=⟨_,rfl⟩
 have HGL:Hid (w0.heap.size≤gO):=hid (by rw[hgO];exact Nat.le_refl _);have HR1:Hid (OwnIA w1 w0.heap.size (.slice (some ⟨gO,0,none⟩) ins.length ins.length) (rturnTo hood (k:Int) ins 0)):=hid (by rw[hgO];exact hr1);rw[← hgO];have HB1:=hid hb1;clear ho1 hg1 hb1 hr1 hgO hi0 hz0 hz1 hz2 hmw hil;go_upto_region 3 with fail
 go_loopw [8] (fun iv wr=>∃ i:Nat,i≤ins.length∧iv=.int .i64 i∧Hid (OwnIA wr w0.heap.size (.slice (some ⟨gO,0,none⟩) ins.length ins.length) (rturnTo hood (k:Int) ins i))∧Hid (Below w0.heap.size w0 wr)) (fun iv _=>ins.length - (intOf iv).toNat)
 case atStart=>exact⟨0,Nat.zero_le _,rfl,HR1,HB1⟩
 case round=>
  obtain⟨i,hi,rfl,HO,HBW⟩:=hrel;by_cases hil:i < ins.length
  ·have hih:i < hood.length:=by have:=HLN.out.1;omega
   have hwi:wrap64 ((i:Int)+1)=(i:Int)+1:=by have:=HLN.out.2;unfold wrap64;omega
   have HWI:=hid hwi;obtain⟨hb,ho,ea,-,hc0,hc1⟩:=(HPT.out.ext HBW.out).at_ hih;have hrr:=HRN.out hood[i] (List.getElem_mem hih);have hg:hood.getD i (0,0)=hood[i]:=by rw[List.getD_eq_getElem?_getD,List.getElem?_eq_getElem hih];rfl
   obtain⟨z,hz⟩:∃ z,z=hood[i]:=⟨_,rfl⟩
   rw[← hz] at hc0 hc1 hrr hg;obtain⟨x,y⟩:=z;dsimp only at hc0 hc1 hrr;obtain⟨zb,zo,ez,-,hcz⟩:=(HZ.out.ext HBW.out).at_ hil;have hge:ins.getD i 0=ins[i]:=by rw[List.getD_eq_getElem?_getD,List.getElem?_eq_getElem hil];rfl
   obtain⟨e,hee⟩:∃ e,e=ins[i]:=⟨_,rfl⟩
   rw[← hee] at hcz hge;subst ea ez;obtain⟨q,hq⟩:∃ q,q=symP (k:Int) (x,y):=⟨_,rfl⟩
   obtain⟨j,hj⟩:∃ j,j=idxF q 0 hood:=⟨_,rfl⟩
   have hstep:rturnTo hood (k:Int) ins (i+1)=if 0≤j then (rturnTo hood (k:Int) ins i).set j.toNat e else rturnTo hood (k:Int) ins i:=by
    rw[rturnTo,hg,← hq,← hj,hge]
   have hjl:j < 0∨(0≤j∧j.toNat < hood.length):=by
    have:=idxF_lt15 (p:=q) hood 0;rw[← hj] at this;simpa using this
   have HCA:Hid (∀ d os,Calls Tryz.prog 109 #[.int .i64 (k:Int),.agg #[.int .i64 x,.int .i64 y]] (grow (redrawn wr d) os) fun e w''=>e=.returned (.agg #[.int .i64 q.1,.int .i64 q.2])∧∃ p:Regrown,w''=grow (redrawn wr p.1) p.2):=hid (fun d os=>by rw[hq];exact Calls.regrown_of (rapply_any (k:Int) x y _ ⟨by omega,by omega⟩ ⟨by omega,by omega⟩));have HCI:Hid (∀ d os,Calls Tryz.prog 115 #[.slice (some ⟨hb,ho,none⟩) hood.length hc,.agg #[.int .i64 q.1,.int .i64 q.2]] (grow (redrawn wr d) os) fun e w''=>e=.returned (.int .i64 j)∧∃ p:Regrown,w''=grow (redrawn wr p.1) p.2):=hid (fun d os=>by rw[hj];exact Calls.regrown_of (ridx11_any (some ⟨hb,ho,none⟩) hood hc q.1 q.2 _ ((HPT.out.ext HBW.out).ext (below_regrown wr d os))));have HJ:=hid (And.intro hstep hjl);have HI:=hid hil;obtain⟨q1,q2⟩:=q;dsimp only at HCA HCI;have j0:=cell_regrown hc0;have j1:=cell_regrown hc1;have j2:=cell_regrown ((HP.out.below HBW.out HP.out.lt).cell_ 2 (.slice (some ⟨hb,ho,none⟩) hood.length hc) rfl);clear hi hwi hz hrr hg hge hee hq hj hstep hjl hc0 hc1;go_upto_region 5 with fail
   refine wp_region_quiet_below (by kernel_rfl) (by kernel_rfl) ?_;repeat (go_big_quiet_step (first | with_reducible exact HCA.out _ _ | with_reducible exact HCI.out _ _))
   refine wpQuiet_nil ?_;intro _ hw';obtain⟨⟨dq,osq⟩,hw''⟩:=hw';subst hw'';have HBN:=hid (HBW.out.trans ((below_regrown wr dq osq).mono HBW.out.size));have HON:=hid (HO.out.ext (below_regrown wr dq osq));have hcz2:=(cell_regrown hcz) dq osq;obtain⟨w5,hw5⟩:∃ W,W=grow (redrawn wr dq) osq:=⟨_,rfl⟩
   rw[← hw5] at HBN HON hcz2 ⊢;clear hw5 j0 j1 j2 hcz;by_cases hj0:0≤j
   ·have d0:decide (0≤j)=true:=decide_eq_true hj0;have hjn:j.toNat < ins.length:=by
     rcases HJ.out.2 with h | h
     ·omega
     ·have:=HLN.out.1;omega
    obtain⟨jn,rfl⟩:∃ n:Nat,j=(n:Int):=⟨j.toNat,by omega⟩
    rw[Int.toNat_natCast] at hjn;obtain⟨cb,fb⟩:=HON.out.cellk (k:=jn) (by rw[rturn_len];exact hjn);have hset:=HON.out.set (by rw[rturn_len]) jn e;have hst2:rturnTo hood (k:Int) ins (i+1)=(rturnTo hood (k:Int) ins i).set jn e:=by rw[HJ.out.1,if_pos hj0,Int.toNat_natCast]
    rw[← hst2] at hset;have HO2:=hid hset;have HB2:=hid (HBN.out.setCell (p:=⟨gO,jn,none⟩) HGL.out (.int .i64 e));clear hj0 hset hst2;go_wp2;go_roundw
    case rel=>exact⟨i+1,HI.out,(by first | rfl | (rw[HWI.out];rfl)),HO2,HB2⟩
    case measure=>(try rw[HWI.out]);exact meas_step HI.out
   ·have d0:decide (0≤j)=false:=decide_eq_false hj0;have HO2:Hid (OwnIA w5 w0.heap.size (.slice (some ⟨gO,0,none⟩) ins.length ins.length) (rturnTo hood (k:Int) ins (i+1))):=hid (by rw[HJ.out.1,if_neg hj0];exact HON.out);clear hj0;go_wp2;go_roundw
    case rel=>exact⟨i+1,HI.out,(by first | rfl | (rw[HWI.out];rfl)),HO2,HBN⟩
    case measure=>(try rw[HWI.out]);exact meas_step HI.out
  ·obtain rfl:i=ins.length:=Nat.le_antisymm hi (Nat.le_of_not_lt hil);have HN0:Hid (w.heap.size≤w0.heap.size):=hid HB0.out.size;clear hi hil;go_wp2;go_ret;exact⟨_,rfl,OwnI.down HO.out HN0.out,HB0.out.trans (HBW.out.mono HB0.out.size)⟩
set_option maxHeartbeats 8000000 in
theorem rfits_any (hA:Option Addr)(hc:Nat)(vA:Option Addr)(vc:Nat)(rA:Option Addr)(rc:Nat)(t:TabH)(e s:Int)(bA:Option Addr)(bc:Nat)(bs:List Int)(w:World)(hV:Vrs w vA t.vs)(h40:t.vs.length≤40)(hb:Ints w bA bs)(hbl:bs.length=t.vs.length)(he:ElOk t.vs.length e) :
  Calls Tryz.prog 81 #[tabV hA hc vA vc rA rc t,.int .i64 e,.int .i64 s,.slice bA bs.length bc] w fun en w'=>en=.returned (.bool (rfitsP (t.vs.map Vh.zs) bs e s))∧Below w.heap.size w w':=by
 obtain⟨st,sym,hood,vs,rs⟩:=t;unfold tabV;dsimp only at hV h40 he hbl ⊢;obtain⟨w0,hw0⟩:∃ w0,w0=w.alloc (.cells #[.int .i64 st,.int .i64 sym,.slice hA hood.length hc,.slice vA vs.length vc,.slice rA rs.length rc] 26):=⟨_,rfl⟩
 have hb0:Below w.heap.size w w0:=by rw[hw0];exact below_new _ _
 have p0:Blk w0 w.heap.size 26 #[.int .i64 st,.int .i64 sym,.slice hA hood.length hc,.slice vA vs.length vc,.slice rA rs.length rc]:=by rw[hw0];exact Blk.new _ _ _
 obtain⟨gT,hgT⟩:∃ g,g=w.heap.size:=⟨_,rfl⟩
 rw[← hgT] at p0;have HB0:=hid hb0;have HW0:=hid (And.intro hw0 hgT);have hV0:=hV.ext hb0;have hbb:=hb.ext hb0;obtain⟨vars,hvars⟩:∃ v,v=vs.map Vh.zs:=⟨_,rfl⟩
 rw[← hvars];obtain⟨res,hres⟩:∃ r,r=rfitsP vars bs e s:=⟨_,rfl⟩
 rw[← hres];have hv9:vs.length≤9223372036854775807:=hV.le;have hb9:bs.length≤9223372036854775807:=hb.le;clear hb0 hw0 hgT hV hb;by_cases h0:0≤e
 ·have d0:decide (0≤e)=true:=decide_eq_true h0;have HF:Hid (res=(e == s)):=hid (by rw[hres];exact if_pos h0);clear h0 hV0 hbb p0 hres hvars he;go_enter Tryz.func81,Tryz.ntmps81;go_upto_region 1 with fail
  rw[← HW0.out.1,← HW0.out.2];go_wp2;go_ret;exact⟨ret_bool HF.out.symm,HB0.out⟩
 ·have d0:decide (0≤e)=false:=decide_eq_false h0;have hvl:=he.1 (by omega);obtain⟨v,hv⟩:∃ v:Nat,-1 - e=(v:Int):=⟨(-1 - e).toNat,by omega⟩
  have hv':(-1 - e).toNat=v:=by omega
  rw[hv'] at hvl;have hwv:wrap64 (-1 - e)=(v:Int):=by unfold wrap64;omega
  have hF:rfitsP vars bs e s=(decide (s ∈ vars.getD v []) && (decide (bs.getD v 0 < 0) || bs.getD v 0 == s)):=by unfold rfitsP;rw[if_neg h0,hv']
  obtain⟨vb,vo,ea,-,hca,hia⟩:=hV0.at_ hvl;obtain⟨xh,hxh⟩:∃ z,z=vs[v]:=⟨_,rfl⟩
  rw[← hxh] at hca hia;have hget:vars.getD v []=xh.zs:=by rw[hvars,hxh,List.getD_eq_getElem?_getD,List.getElem?_map,List.getElem?_eq_getElem hvl];rfl
  rw[hget] at hF;obtain⟨xA,xc,zs⟩:=xh;dsimp only at hca hia hF;have hvb:v < bs.length:=by omega
  obtain⟨bb,bo,eb,-,hcb⟩:=hbb.at_ hvb;have hgb:bs.getD v 0=bs[v]:=by rw[List.getD_eq_getElem?_getD,List.getElem?_eq_getElem hvb];rfl
  rw[hgb] at hF;obtain⟨bz,hbz⟩:∃ z,z=bs[v]:=⟨_,rfl⟩
  rw[← hbz] at hcb hF;subst ea eb;have x3:=p0.cell_ 3 (.slice (some ⟨vb,vo,none⟩) vs.length vc) rfl;have HC:Hid (Calls Tryz.prog 24 #[.slice xA zs.length xc,.int .i64 s] w0 fun e w'=>e=.returned (.bool (decide (s ∈ zs)))∧w0=w'):=hid ((has_any xA zs xc s w0 hia).mono fun e w' h=>⟨h.1,h.2.symm⟩);have HRF:=hid (hres.trans hF);have HVV:=hid (And.intro hvl hvb);clear h0 he hv hv' hF hxh hget hgb hbz hia hV0 hbb p0 hres hvars;by_cases hm:s ∈ zs
  ·rw[decide_eq_true hm] at HC HRF;clear hm;by_cases h1:bz < 0
   ·have d1:decide (bz < 0)=true:=decide_eq_true h1;have HF:Hid (res=true):=hid (by rw[HRF.out,d1];rfl);clear h1;go_enter Tryz.func81,Tryz.ntmps81;go_upto_region 1 with fail
    rw[← HW0.out.1,← HW0.out.2];go_wp2_with (go_at_call 24;refine HC.out.mono ?_;rintro en w2 ⟨rfl,rfl⟩;refine Hid.out ?_);refine hid ?_;go_wp2;go_ret;exact⟨ret_bool HF.out.symm,HB0.out⟩
   ·have d1:decide (bz < 0)=false:=decide_eq_false h1;have HF:Hid (res=(bz == s)):=hid (by rw[HRF.out,d1];rfl);clear h1;go_enter Tryz.func81,Tryz.ntmps81;go_upto_region 1 with fail
    rw[← HW0.out.1,← HW0.out.2];go_wp2_with (go_at_call 24;refine HC.out.mono ?_;rintro en w2 ⟨rfl,rfl⟩;refine Hid.out ?_);refine hid ?_;go_wp2;go_ret;exact⟨ret_bool HF.out.symm,HB0.out⟩
  ·rw[decide_eq_false hm] at HC HRF;have HF:Hid (res=false):=hid HRF.out;clear hm;go_enter Tryz.func81,Tryz.ntmps81;go_upto_region 1 with fail
   rw[← HW0.out.1,← HW0.out.2];go_wp2_with (go_at_call 24;refine HC.out.mono ?_;rintro en w2 ⟨rfl,rfl⟩;refine Hid.out ?_);refine hid ?_;go_wp2;go_ret;exact⟨ret_bool HF.out.symm,HB0.out⟩
theorem Ints.take {w:World}{A:Option Addr}{zs:List Int}(h:Ints w A zs)(i:Nat):Ints w A (zs.take i):=by
 refine⟨⟨by simp,fun hn=>?_⟩,?_⟩
 ·obtain⟨ad,e,hb,hc⟩:=h.1.2 (by rw[List.length_take] at hn;omega);refine⟨ad,e,hb,fun j u hj=>hc j u ?_⟩;rw[List.map_take,List.getElem?_take] at hj
  split at hj
  ·exact hj
  ·cases hj
 ·have:=h.2;rw[List.length_take];omega
theorem own_cap {w:World}{base size n:Nat}{e:TypeId}{v:Value}{xs:List Value}(h:w.ownsRow base e size v n xs):∃ A c,v=.slice A n c∧n≤c:=by
 rcases h.2 with ⟨h1,h2⟩ | ⟨g,cap,cur,h3,h4,h5,h6⟩
 ·exact⟨none,0,by rw[h1,h2],by omega⟩
 ·exact⟨some ⟨g,0,none⟩,cap,h3,h6.1⟩
theorem OwnI.capI {I:TypeId}{w:World}{base:Nat}{v:Value}{zs:List Int}(h:OwnI I w base v zs):∃ A c,v=.slice A zs.length c∧Ints w A zs∧zs.length≤c:=by
 obtain⟨A,c,e,h1⟩:=own_cap h;obtain⟨A',c',e',h2,-⟩:=h.ints;rw[e] at e';injection e' with e1 _ e2
 subst e1 e2;exact⟨A,c,e,h2,h1⟩
def leftTo (rest:List Int)(i k:Nat):List Int:=(rest.take k).eraseIdx i
theorem leftTo_skip {rest:List Int}{i:Nat}(h:i < rest.length):leftTo rest i (i+1)=leftTo rest i i:=by
 have h1:(rest.take i).length=i:=by rw[List.length_take];omega
 unfold leftTo;rw[List.take_succ_eq_append_getElem h,List.eraseIdx_append_of_length_le (by omega),h1,Nat.sub_self,List.eraseIdx_of_length_le (l:=rest.take i) (by omega)]
 simp
theorem leftTo_step {rest:List Int}{i k:Nat}(h:k < rest.length)(hk:k≠i):leftTo rest i (k+1)=leftTo rest i k ++ [rest[k]]:=by
 unfold leftTo;rw[List.take_succ_eq_append_getElem h];rcases Nat.lt_or_ge i k with h1 | h1
 ·rw[List.eraseIdx_append_of_lt_length (by rw[List.length_take];omega)]
 ·rw[List.eraseIdx_of_length_le (by rw[List.length_append,List.length_take];simp;omega),List.eraseIdx_of_length_le (by rw[List.length_take];omega)]
theorem leftTo_len (rest:List Int)(i k:Nat):(leftTo rest i k).length≤k:=by
 unfold leftTo;have:=List.length_eraseIdx_le (rest.take k) i;rw[List.length_take] at this;omega
theorem leftTo_full (rest:List Int)(i:Nat):leftTo rest i rest.length=rest.eraseIdx i:=by unfold leftTo;rw[List.take_length]
def rpTo (vars:List (List Int))(out s:Int)(rest bs:List Int)(G:List Int→List Int→Int)(m:Nat):Int × Bool:=(List.range m).foldl (rpStep vars out s rest bs G) (-1,false)
section
variable {vars : List (List Int)} {out s : Int} {rest bs : List Int} {G : List Int → List Int → Int}
theorem rpTo_succ (m:Nat):rpTo vars out s rest bs G (m+1)=rpStep vars out s rest bs G (rpTo vars out s rest bs G m) m:=by
 unfold rpTo;rw[List.range_succ,List.foldl_append];rfl
theorem rpTo_stop {m:Nat}(h:(rpTo vars out s rest bs G m).2=true):∀ d,rpTo vars out s rest bs G (m+d)=rpTo vars out s rest bs G m
 | 0=>rfl
 | d+1=>by
  rw[show m+(d+1)=(m+d)+1 by omega,rpTo_succ,rpTo_stop h d];unfold rpStep;rw[if_pos h]
theorem rpermP_succ {inn:List Int}{c:Int}{L:Nat}(h:((inn.length - (L+1):Nat):Int)≠c):rpermP vars out inn c (L+1) rest bs=(rpTo vars out (inn.getD (inn.length - (L+1)) 0) rest bs (rpermP vars out inn c L) rest.length).1:=by
 rw[rpermP,if_neg h];rfl
end
theorem btr {a b c:World}(h:Below a.heap.size a b)(k:Below b.heap.size b c):Below a.heap.size a c:=h.trans (k.mono h.size)
theorem ne_of_ltP {i n:Nat}(h:i < n):((i:Int) == (n:Int))=false:=beq_false_of_ne (by omega)
theorem wrap_upP {i n:Nat}(h:i < n)(h25:n≤25):wrap64 ((i:Int)+1)=((i+1:Nat):Int)∧wrap64 ((i:Int)+1)=(i:Int)+1:=by unfold wrap64;omega
set_option maxHeartbeats 32000000 in
theorem rperm_any (hA:Option Addr)(hc:Nat)(vA:Option Addr)(vc:Nat)(rA:Option Addr)(rc:Nat)(t:TabH)(out:Int)(iA:Option Addr)(ic:Nat)(inn:List Int)(W0:World)(hp0:Pts W0 hA t.hood)(hV0:Vrs W0 vA t.vs)(hi0:Ints W0 iA inn)(h40:t.vs.length≤40)(h25:inn.length≤25)(ho:ElOk t.vs.length out)(hon:out < 0→(-1 - out).toNat < t.vs.length) :
  ∀ (L:Nat) (rest bs:List Int) (qA:Option Addr) (qc:Nat) (bA:Option Addr) (bc:Nat) (w:World),Below W0.heap.size W0 w→L≤inn.length→Ints w qA rest→rest.length≤qc→rest.length≤25→(∀ e ∈ rest,ElOk t.vs.length e)→Ints w bA bs→bs.length=t.vs.length→
  Calls Tryz.prog 82 #[tabV hA hc vA vc rA rc t,.int .i64 ((inn.length - L:Nat):Int),.slice qA rest.length qc,.int .i64 out,.slice iA inn.length ic,.slice bA bs.length bc] w fun e w'=>e=.returned (.int .i64 (rpermP (t.vs.map Vh.zs) out inn (ctrP t.hood) L rest bs))∧Below w.heap.size w w':=by
 have HTOP:=hid (And.intro hp0 (And.intro hV0 (And.intro hi0 (And.intro h40 ho))));have HFIT:Hid (∀ (W:World) (e s:Int) (bA:Option Addr) (bc:Nat) (bs:List Int),Below W0.heap.size W0 W→Ints W bA bs→bs.length=t.vs.length→ElOk t.vs.length e→Calls Tryz.prog 81 #[tabV hA hc vA vc rA rc t,.int .i64 e,.int .i64 s,.slice bA bs.length bc] W fun en w'=>en=.returned (.bool (rfitsP (t.vs.map Vh.zs) bs e s))∧Below W.heap.size W w'):=hid (fun W e s bA bc bs h1 h2 h3 h4=>rfits_any hA hc vA vc rA rc t e s bA bc bs W (hV0.ext h1) h40 h2 h3 h4);have HCTR:Hid (∀ W:World,Below W0.heap.size W0 W→Calls Tryz.prog 22 #[.slice hA t.hood.length hc] W fun e w'=>e=.returned (.int .i64 (ctrP t.hood))∧Below W.heap.size W w'):=hid (fun W h1=>rcentre_any hA t.hood hc W (hp0.ext h1));obtain⟨vars,hvars⟩:∃ v,v=t.vs.map Vh.zs:=⟨_,rfl⟩
 obtain⟨c,hcc⟩:∃ c,c=ctrP t.hood:=⟨_,rfl⟩
 rw[← hvars] at HFIT ⊢;rw[← hcc] at HCTR ⊢;have H25:=hid (And.intro h25 (And.intro h40 (And.intro ho hon)));have hin9:inn.length≤9223372036854775807:=by omega
 have hh9:t.hood.length≤9223372036854775807:=hp0.le;obtain⟨st,sym,hood,vs,rs⟩:=t;unfold tabV at HFIT ⊢;dsimp only at HTOP HFIT HCTR H25 hh9 hvars ⊢;clear hp0 hV0 hi0 h40 ho hvars hcc h25 hon;intro L;induction L with
 | zero=>
  intro rest bs qA qc bA bc w hb hL hq hqc hq25 hel hbs hbl;obtain⟨w0,hw0⟩:∃ w0,w0=w.alloc (.cells #[.int .i64 st,.int .i64 sym,.slice hA hood.length hc,.slice vA vs.length vc,.slice rA rs.length rc] 26):=⟨_,rfl⟩
  have hb0:Below w.heap.size w w0:=by rw[hw0];exact below_new _ _
  obtain⟨r,hr⟩:∃ r,r=outP bs out:=⟨_,rfl⟩
  have HRP:Hid (rpermP vars out inn c 0 rest bs=r):=hid (by rw[rpermP,hr]);have HB0:=hid hb0;have HW0:=hid hw0;have hbs0:=hbs.ext hb0;rw[Nat.sub_zero];by_cases h0:0≤out
  ·have d0:decide (0≤out)=true:=decide_eq_true h0;have HF:Hid (r=out):=hid (by rw[hr];unfold outP;rw[if_pos h0]);clear h0 hr hw0 hb0 hb hL hq hqc hq25 hel hbs hbl hbs0;go_enter Tryz.func82,Tryz.ntmps82;go_upto_region 1 with fail
   rw[← HW0.out];go_wp2;go_ret;exact⟨ret_int (HRP.out.trans HF.out).symm,HB0.out⟩
  ·have d0:decide (0≤out)=false:=decide_eq_false h0;have hvl:=H25.out.2.2.2 (by omega);obtain⟨v,hv⟩:∃ v:Nat,-1 - out=(v:Int):=⟨(-1 - out).toNat,by omega⟩
   have hv':(-1 - out).toNat=v:=by omega
   rw[hv'] at hvl;have hwv:wrap64 (-1 - out)=(v:Int):=by have:=H25.out.2.1;unfold wrap64;omega
   have HF:Hid (r=bs.getD v 0):=hid (by rw[hr];unfold outP;rw[if_neg h0,hv']);have hvb:v < bs.length:=by omega
   obtain⟨bb,bo,eb,-,hcb⟩:=hbs0.at_ hvb;have hgb:bs.getD v 0=bs[v]:=by rw[List.getD_eq_getElem?_getD,List.getElem?_eq_getElem hvb];rfl
   rw[hgb] at HF;obtain⟨bz,hbz⟩:∃ z,z=bs[v]:=⟨_,rfl⟩
   rw[← hbz] at hcb HF;subst eb;have hb9:bs.length≤9223372036854775807:=hbs.le;clear h0 hr hw0 hb0 hb hL hq hqc hq25 hel hbs hbs0 hv hv' hgb hbz hvl hbl;go_enter Tryz.func82,Tryz.ntmps82;go_upto_region 1 with fail
   rw[← HW0.out];go_wp2;go_ret;exact⟨ret_int (HRP.out.trans HF.out).symm,HB0.out⟩
 | succ L ih=>
  intro rest bs qA qc bA bc w hb hL hq hqc hq25 hel hbs hbl;obtain⟨w0,hw0⟩:∃ w0,w0=w.alloc (.cells #[.int .i64 st,.int .i64 sym,.slice hA hood.length hc,.slice vA vs.length vc,.slice rA rs.length rc] 26):=⟨_,rfl⟩
  have hb0:Below w.heap.size w w0:=by rw[hw0];exact below_new _ _
  have p0:Blk w0 w.heap.size 26 #[.int .i64 st,.int .i64 sym,.slice hA hood.length hc,.slice vA vs.length vc,.slice rA rs.length rc]:=by rw[hw0];exact Blk.new _ _ _
  obtain⟨gT,hgT⟩:∃ g,g=w.heap.size:=⟨_,rfl⟩
  rw[← hgT] at p0;have HB0:=hid hb0;have HP:=hid p0;have HW0:=hid (And.intro hw0 hgT);have HLO:=hid (hb.trans (hb0.mono hb.size));have HQ:=hid (And.intro (hq.ext hb0) (And.intro hqc (And.intro hq25 hel)));have HBS:=hid (And.intro (hbs.ext hb0) hbl);have HIH:=hid ih;obtain⟨i,hii⟩:∃ i,i=inn.length - (L+1):=⟨_,rfl⟩
  rw[← hii];have hil:i < inn.length:=by omega
  have hi1:inn.length - L=i+1:=by omega
  have HII:=hid (And.intro hii (And.intro hi1 hil));have hwi:=(wrap_upP hil H25.out.1).1;have d0:((i:Int) == (inn.length:Int))=false:=ne_of_ltP hil;have hq9:rest.length≤9223372036854775807:=by omega
  have hb9:bs.length≤9223372036854775807:=hbs.le;have HCALL:=hid (HCTR.out w0 HLO.out);have x2:=p0.cell_ 2 (.slice hA hood.length hc) rfl;clear hb0 p0 hw0 hgT hb hL hq hqc hq25 hel hbs hbl ih hii hi1;go_enter Tryz.func82,Tryz.ntmps82;go_upto_region 1 with fail
  rw[← HW0.out.1,← HW0.out.2];go_wp2_with (go_at_call 22;refine HCALL.out.mono ?_;rintro e w1 ⟨rfl,hb1⟩;refine Hid.out ?_);refine hid ?_;have HB1:=hid hb1;have HL1:=hid (HLO.out.trans (hb1.mono HLO.out.size));clear hb1 x2 HCALL;have x0:=(HP.out.below HB1.out HP.out.lt).cell_ 0 (.int .i64 st) rfl;have x1:=(HP.out.below HB1.out HP.out.lt).cell_ 1 (.int .i64 sym) rfl;have x2:=(HP.out.below HB1.out HP.out.lt).cell_ 2 (.slice hA hood.length hc) rfl;have x3:=(HP.out.below HB1.out HP.out.lt).cell_ 3 (.slice vA vs.length vc) rfl;have x4:=(HP.out.below HB1.out HP.out.lt).cell_ 4 (.slice rA rs.length rc) rfl;by_cases hc:(i:Int)=c
  ·have d1:((i:Int) == c)=true:=beq_iff_eq.2 hc;have HRP:Hid (rpermP vars out inn c (L+1) rest bs=rpermP vars out inn c L rest bs):=hid (by rw[rpermP,← HII.out.1,if_pos hc]);have hcall:=HIH.out rest bs qA qc bA bc w1 HL1.out (by have:=HII.out;omega) (HQ.out.1.ext HB1.out) HQ.out.2.1 HQ.out.2.2.1 HQ.out.2.2.2 (HBS.out.1.ext HB1.out) HBS.out.2;rw[HII.out.2.1] at hcall;have HCALL:=hid hcall;clear hcall hc;go_wp2_with (go_at_call 82;refine HCALL.out.mono ?_;rintro e w2 ⟨rfl,hb2⟩;refine Hid.out ?_);refine hid ?_;go_wp2;go_ret;exact⟨ret_int HRP.out.symm,HB0.out.trans ((HB1.out.trans (hb2.mono HB1.out.size)).mono HB0.out.size)⟩
  ·have d1:((i:Int) == c)=false:=beq_false_of_ne hc;obtain⟨s,hss⟩:∃ s,s=inn.getD i 0:=⟨_,rfl⟩
   have HRP:Hid (rpermP vars out inn c (L+1) rest bs=(rpTo vars out s rest bs (rpermP vars out inn c L) rest.length).1):=hid (by
    rw[rpermP_succ (by rw[← HII.out.1];exact hc),hss,HII.out.1])
   have HSS:=hid hss;clear hc hss;go_upto_region 10 with fail
   clear x0 x1 x2 x3 x4 d0 d1;go_loopw [14,15] (fun fv iv wr=>∃ (k:Nat) (f:Int),k≤rest.length∧iv=.int .i64 k∧fv=.int .i64 f∧Hid (rpTo vars out s rest bs (rpermP vars out inn c L) k=(f,false))∧Hid (Below w1.heap.size w1 wr)) (fun _ iv _=>rest.length - (intOf iv).toNat)
   case atStart=>exact⟨0,-1,Nat.zero_le _,rfl,rfl,hid rfl,hid (Below.refl _ _)⟩
   case round=>
    obtain⟨k,f,hk,rfl,rfl,HS,HBW⟩:=hrel;by_cases hkl:k < rest.length
    ·have hwk:=(wrap_upP hkl HQ.out.2.2.1).2;have HWK:=hid hwk;have hqk:=HQ.out.1.ext (HB1.out.trans (HBW.out.mono HB1.out.size));have HLW:=hid (HL1.out.trans (HBW.out.mono HL1.out.size));obtain⟨qb,qo,eq,-,hcq⟩:=hqk.at_ hkl;have hik:=HTOP.out.2.2.1.ext HLW.out;obtain⟨ib,io,ei,-,hci⟩:=hik.at_ HII.out.2.2;have hgs:s=inn[i]'HII.out.2.2:=by rw[HSS.out,List.getD_eq_getElem?_getD,List.getElem?_eq_getElem HII.out.2.2];rfl
     rw[← hgs] at hci;have HSI:Hid (s=inn[i]'HII.out.2.2):=hid hgs;have hge:rest.getD k 0=rest[k]:=by rw[List.getD_eq_getElem?_getD,List.getElem?_eq_getElem hkl];rfl
     have hel:=HQ.out.2.2.2 rest[k] (List.getElem_mem hkl);have HSTEP:=hid (rpTo_succ (vars:=vars) (out:=out) (s:=s) (rest:=rest) (bs:=bs) (G:=rpermP vars out inn c L) k);rw[HS.out] at HSTEP;unfold rpStep at HSTEP;rw[if_neg (show ¬ ((f,false):Int × Bool).2=true from Bool.false_ne_true),hge] at HSTEP;have hbk:=HBS.out.1.ext (HB1.out.trans (HBW.out.mono HB1.out.size));obtain⟨e,hee⟩:∃ e,e=rest[k]:=⟨_,rfl⟩
     rw[← hee] at hcq hge hel HSTEP;have HEK:Hid (e=rest[k]'hkl):=hid hee;have hkc:k≤qc:=by have:=HQ.out.2.1;omega
     have htk:(rest.take k).length=k:=by rw[List.length_take];omega
     obtain⟨b1,hb1⟩:∃ b,b=rfitsP vars bs e s:=⟨_,rfl⟩
     obtain⟨b2,hb2⟩:∃ b,b=decide (e ∈ rest.take k):=⟨_,rfl⟩
     have HCF:Hid (∀ d os,Calls Tryz.prog 81 #[.agg #[.int .i64 st,.int .i64 sym,.slice hA hood.length hc,.slice vA vs.length vc,.slice rA rs.length rc],.int .i64 e,.int .i64 s,.slice bA bs.length bc] (grow (redrawn wr d) os) fun en w''=>en=.returned (.bool b1)∧∃ p:Regrown,w''=grow (redrawn wr p.1) p.2):=hid (fun d os=>by rw[hb1];exact Calls.regrown_of (HFIT.out _ e s bA bc bs (HLW.out.trans ((below_regrown wr d os).mono HLW.out.size)) (hbk.ext (below_regrown wr d os)) HBS.out.2 hel));have HCH:Hid (∀ d os,Calls Tryz.prog 24 #[.slice qA k qc,.int .i64 e] (grow (redrawn wr d) os) fun en w''=>en=.returned (.bool b2)∧∃ p:Regrown,w''=grow (redrawn wr p.1) p.2):=hid (fun d os=>by
      have h9:=has_any qA (rest.take k) qc e (grow (redrawn wr d) os) ((hqk.take k).ext (below_regrown wr d os));rw[htk] at h9;rw[hb2];exact Calls.regrown_of (h9.mono fun _ _ h=>⟨h.1,by rw[h.2];exact Below.refl _ _⟩))
     have HBB:=hid (And.intro hb1 hb2);have hqj:=cell_regrown hcq;have hij:=cell_regrown hci;have hpw:=HP.out.below (HB1.out.trans (HBW.out.mono HB1.out.size)) HP.out.lt;have k0:=cell_regrown (hpw.cell_ 0 (.int .i64 st) rfl);have k1:=cell_regrown (hpw.cell_ 1 (.int .i64 sym) rfl);have k2:=cell_regrown (hpw.cell_ 2 (.slice hA hood.length hc) rfl);have k3:=cell_regrown (hpw.cell_ 3 (.slice vA vs.length vc) rfl);have k4:=cell_regrown (hpw.cell_ 4 (.slice rA rs.length rc) rfl);have HEL:=hid hel;have HQK:=hid hqk;have HBK:=hid hbk;have HKL:=hid hkl;have HCI:=hid hci;have HCQ:=hid hcq;have hil:=HII.out.2.2;subst eq ei;clear hk hwk hgs hge hel hqk hik hbk hee htk hb1 hb2 hpw hcq hci;go_upto_region 12 with fail
     refine wp_region_quiet_below (by kernel_rfl) (by kernel_rfl) ?_;cases b1 with
     | false=>
      have HN:Hid (rpTo vars out s rest bs (rpermP vars out inn c L) (k+1)=(f,false)):=hid (by rw[HSTEP.out,if_pos (.inl HBB.out.1.symm)]);repeat (go_big_quiet_step (first | with_reducible exact HCF.out _ _ | with_reducible exact HCH.out _ _))
      refine wpQuiet_nil ?_;intro _ hw';obtain⟨⟨dq,osq⟩,hw''⟩:=hw';subst hw'';have HBN:=hid (HBW.out.trans ((below_regrown wr dq osq).mono HBW.out.size));clear k0 k1 k2 k3 k4 hqj hij;go_wp2;go_roundw
      case rel=>exact⟨k+1,f,HKL.out,(by first | rfl | (rw[HWK.out];rfl)),rfl,HN,HBN⟩
      case measure=>(try rw[HWK.out]);exact meas_step HKL.out
     | true=>
      cases b2 with
      | true=>
       have HN:Hid (rpTo vars out s rest bs (rpermP vars out inn c L) (k+1)=(f,false)):=hid (by rw[HSTEP.out,if_pos (.inr (of_decide_eq_true HBB.out.2.symm))]);repeat (go_big_quiet_step (first | with_reducible exact HCF.out _ _ | with_reducible exact HCH.out _ _))
       refine wpQuiet_nil ?_;intro _ hw';obtain⟨⟨dq,osq⟩,hw''⟩:=hw';subst hw'';have HBN:=hid (HBW.out.trans ((below_regrown wr dq osq).mono HBW.out.size));clear k0 k1 k2 k3 k4 hqj hij;go_wp2;go_roundw
       case rel=>exact⟨k+1,f,HKL.out,(by first | rfl | (rw[HWK.out];rfl)),rfl,HN,HBN⟩
       case measure=>(try rw[HWK.out]);exact meas_step HKL.out
      | false=>
       obtain⟨G,hG⟩:∃ G,G=leastP f (rpermP vars out inn c L (rest.eraseIdx k) (rsetP bs e s)):=⟨_,rfl⟩
       have HN:Hid (rpTo vars out s rest bs (rpermP vars out inn c L) (k+1)=(G,decide (0≤G) && decide (0≤out))):=hid (by
        rw[HSTEP.out,if_neg (by rintro (h | h);rw[← HBB.out.1] at h;cases h;exact of_decide_eq_false HBB.out.2.symm h),hG])
       have HGG:=hid hG;clear hG;repeat (go_big_quiet_step (first | with_reducible exact HCF.out _ _ | with_reducible exact HCH.out _ _))
       refine wpQuiet_nil ?_;intro _ hw';obtain⟨⟨dq,osq⟩,hw''⟩:=hw';subst hw'';obtain⟨w5,hw5⟩:∃ W,W=grow (redrawn wr dq) osq:=⟨_,rfl⟩
       have hb5:Below wr.heap.size wr w5:=by rw[hw5];exact below_regrown wr dq osq
       rw[← hw5];have HB5:=hid (HBW.out.trans (hb5.mono HBW.out.size));have HQ5:=hid (HQK.out.ext hb5);have HK5:=hid (HBK.out.ext hb5);clear hw5 hb5 k0 k1 k2 k3 k4 hqj hij hkc HQK HBK HCI HCQ;go_upto_region 15 with fail
       go_loopw [16,17] (fun lv jv wl=>∃ j:Nat,j≤rest.length∧jv=.int .i64 j∧Hid (OwnIA wl w5.heap.size lv (leftTo rest k j))∧Hid (Below w5.heap.size w5 wl)) (fun _ jv _=>rest.length - (intOf jv).toNat)
       case atStart=>exact⟨0,Nat.zero_le _,rfl,hid (OwnI.nil _ _ _),hid (Below.refl _ _)⟩
       case round=>
        obtain⟨j,hj,rfl,HLF,HBL⟩:=hrel;by_cases hjl:j < rest.length
        ·have hwj:=(wrap_upP hjl HQ.out.2.2.1).2;have HWJ:=hid hwj;by_cases hjk:j=k
         ·have d2:((j:Int) != (k:Int))=false:=by rw[hjk];simp
          have HL2:Hid (OwnIA wr w5.heap.size u16 (leftTo rest k (j+1))):=hid (by have h:=HLF.out;rw[hjk] at h ⊢;rw[leftTo_skip HKL.out];exact h);have HJ:=hid hjl;clear hj hjk hwj;go_wp2;go_roundw
          case rel=>exact⟨j+1,HJ.out,(by first | rfl | (rw[HWJ.out];rfl)),HL2,HBL⟩
          case measure=>(try rw[HWJ.out]);exact meas_step HJ.out
         ·have d2:((j:Int) != (k:Int))=true:=by simp;omega
          have hstep:=leftTo_step (rest:=rest) (i:=k) hjl hjk;obtain⟨qb',qo',eq',-,hcj⟩:=(HQ5.out.ext HBL.out).at_ hjl;injection eq' with eq'
          injection eq' with e1 e2
          subst e1 e2;obtain⟨x,hx⟩:∃ x,x=rest[j]:=⟨_,rfl⟩
          rw[← hx] at hcj hstep;have HST:=hid hstep;have hown:=HLF.out;have hln:(leftTo rest k j).length < 1000000000000:=by have:=leftTo_len rest k j;have:=HQ.out.2.2.1;omega
          have hbs:=HBL.out.size;have HJ:=hid hjl;clear hj hjk hwj hstep hx;go_wp2_with (at_builtin;refine wpList_pushI rfl _ _ _ rfl w5.heap.size 3 Tryz.underlying30 Tryz.infoInt _ _ rfl hown _ rfl hln hbs ?_);intro v' w7 ho' hb';have HO7:Hid (OwnIA w7 w5.heap.size v' (leftTo rest k (j+1))):=hid (by rw[HST.out];exact ho');have HB7:=hid (HBL.out.trans hb');clear ho' hb' hown hln hbs hcj;go_wp2;go_roundw
          case rel=>exact⟨j+1,HJ.out,(by first | rfl | (rw[HWJ.out];rfl)),HO7,HB7⟩
          case measure=>(try rw[HWJ.out]);exact meas_step HJ.out
        ·obtain rfl:j=rest.length:=Nat.le_antisymm hj (Nat.le_of_not_lt hjl);rw[leftTo_full] at HLF;clear hj hjl;obtain⟨lA,lc,elv,hli,hlc⟩:=HLF.out.capI;subst elv;obtain⟨wl,hwl⟩:∃ W,W=wr:=⟨_,rfl⟩
         rw[← hwl] at HLF HBL hli ⊢;have HLI:=hid (And.intro hli hlc);obtain⟨i0,hi0,hz0,hz1,hz2⟩:=info_parts Tryz.infoInt;have hmw:wl.heap.size≤wl.heap.size:=Nat.le_refl _;have hb40:bs.length≤40:=by have h1:=HBS.out.2;have h2:=H25.out.2.1;omega
         have HB40:=hid hb40;clear hwl hli hlc;go_wp2_with (at_make;refine wpList_make_full _ rfl _ _ 30 rfl wl.heap.size 3 i0 _ 1 Tryz.underlying30 hi0 hz0 hz1 .i64 .i64 bs.length bs.length bs.length rfl rfl rfl rfl (by rw[hz2];omega) (by unfold maxLen;omega) hmw ?_);intro wn ho1 hg1;have hbn:Below wl.heap.size wl wn:=(Below.refl _ wl).grown hg1 (Nat.le_refl _) (by intro k hk;cases hk);have hr1:OwnIA wn wl.heap.size (.slice (some ⟨wl.heap.size,0,none⟩) bs.length bs.length) (fillL bs 0):=by
          unfold OwnIA OwnI;rw[fillL_zero,List.length_replicate,List.map_replicate];rw[toList_madeCells_one] at ho1;exact ho1
         obtain⟨gN,hgN⟩:∃ g,g=wl.heap.size:=⟨_,rfl⟩
         have HGL:Hid (wl.heap.size≤gN):=hid (by rw[hgN];exact Nat.le_refl _);have HR1:Hid (OwnIA wn wl.heap.size (.slice (some ⟨gN,0,none⟩) bs.length bs.length) (fillL bs 0)):=hid (by rw[hgN];exact hr1);rw[← hgN];have HBN:=hid hbn;clear ho1 hg1 hbn hr1 hgN hi0 hz0 hz1 hz2 hmw hb40;go_upto_region 21 with fail
         go_loopw [19] (fun mv wm=>∃ m:Nat,m≤bs.length∧mv=.int .i64 m∧Hid (OwnIA wm wl.heap.size (.slice (some ⟨gN,0,none⟩) bs.length bs.length) (fillL bs m))∧Hid (Below wl.heap.size wl wm)) (fun mv _=>bs.length - (intOf mv).toNat)
         case atStart=>exact⟨0,Nat.zero_le _,rfl,HR1,HBN⟩
         case round=>
          clear HR1 HBN;obtain⟨m,hm,rfl,HO,HBM⟩:=hrel;by_cases hml:m < bs.length
          ·have hwm:wrap64 ((m:Int)+1)=(m:Int)+1:=by have:=HB40.out;unfold wrap64;omega
           have HWM:=hid hwm;obtain⟨bb,bo,eb,-,hcb⟩:=((HK5.out.ext HBL.out).ext HBM.out).at_ hml;have hfs:=fillL_step hml;obtain⟨bz,hbz⟩:∃ z,z=bs[m]:=⟨_,rfl⟩
           rw[← hbz] at hcb hfs;obtain⟨cb,fb⟩:=HO.out.cellk (k:=m) (by rw[fillL_len hm];exact hml);have hset:=HO.out.set (by rw[fillL_len hm]) m bz;rw[hfs] at hset;have HO2:=hid hset;have HB2:=hid (HBM.out.setCell (p:=⟨gN,m,none⟩) HGL.out (.int .i64 bz));have HM:=hid hml;subst eb;clear hm hwm hbz hfs hset;go_wp2;go_roundw
           case rel=>exact⟨m+1,HM.out,(by first | rfl | (rw[HWM.out];rfl)),HO2,HB2⟩
           case measure=>(try rw[HWM.out]);exact meas_step HM.out
          ·obtain rfl:m=bs.length:=Nat.le_antisymm hm (Nat.le_of_not_lt hml);rw[fillL_all] at HO;clear hm hml;obtain⟨wm,hwm⟩:∃ W,W=wr:=⟨_,rfl⟩
           rw[← hwm] at HO HBM ⊢;obtain⟨qb',qo',eq',-,hcq⟩:=((HQ5.out.ext HBL.out).ext HBM.out).at_ HKL.out;injection eq' with eq'
           injection eq' with e1 e2
           subst e1 e2;have hge:rest[k]'HKL.out=e:=HEK.out.symm;rw[hge] at hcq;clear hwm hge;by_cases he0:e < 0
           ·have d3:decide (e < 0)=true:=decide_eq_true he0;have hvl:=HEL.out.1 he0;obtain⟨v,hv⟩:∃ v:Nat,-1 - e=(v:Int):=⟨(-1 - e).toNat,by omega⟩
            have hv':(-1 - e).toNat=v:=by omega
            rw[hv'] at hvl;have hwv:wrap64 (-1 - e)=(v:Int):=by have:=H25.out.2.1;unfold wrap64;omega
            have hrs:rsetP bs e s=bs.set v s:=by unfold rsetP;rw[if_neg (by omega),hv']
            have hvb:v < bs.length:=by rw[HBS.out.2];exact hvl
            obtain⟨cb,fb⟩:=HO.out.cellk (k:=v) hvb;have HSET:=hid (HO.out.set rfl v s);have HBV:=hid (HBM.out.setCell (p:=⟨gN,v,none⟩) HGL.out (.int .i64 s));have H5m:=btr HBL.out HBM.out;have H1m:=btr HB5.out H5m;have H0m:=btr HL1.out H1m;obtain⟨ib',io',ei',-,hci⟩:=(HTOP.out.2.2.1.ext H0m).at_ HII.out.2.2;injection ei' with ei'
            injection ei' with e1 e2
            subst e1 e2;rw[show inn[i]'HII.out.2.2=s from HSI.out.symm] at hci;have hil:=HII.out.2.2;have hkl2:=HKL.out;clear H5m H1m H0m hv hv' hvl he0;go_wp2;go_region
            obtain⟨wz,hwz⟩:∃ W,W=(wm.setCell ⟨gN,v,none⟩ (.int .i64 s)).drew:=⟨_,rfl⟩
            have HNZ:Hid (OwnIA wz wl.heap.size (.slice (some ⟨gN,0,none⟩) bs.length bs.length) (rsetP bs e s)):=hid (by rw[hwz,hrs];exact HSET.out);have HBZ:Hid (Below wl.heap.size wl wz):=hid (by rw[hwz];exact HBV.out.drew);rw[← hwz];clear hwz hrs hci hcq cb fb d3 hwv hvb HSET HBV HO;have H5z:=btr HBL.out HBZ.out;have H1z:=btr HB5.out H5z;have H0z:=btr HL1.out H1z;have hlen:(rsetP bs e s).length=bs.length:=by
             unfold rsetP
             split
             ·rfl
             ·rw[List.length_set]
            have hle:(rest.eraseIdx k).length≤25:=by have h1:=List.length_eraseIdx_le rest k;have h2:=HQ.out.2.2.1;omega
            have hcall:=HIH.out (rest.eraseIdx k) (rsetP bs e s) lA lc (some ⟨gN,0,none⟩) bs.length wz H0z (by have:=HII.out;omega) (HLI.out.1.ext HBZ.out) HLI.out.2 hle (fun x hx=>HQ.out.2.2.2 x (List.mem_of_mem_eraseIdx hx)) (OwnI.reads HNZ.out) (by rw[hlen];exact HBS.out.2);rw[HII.out.2.1,hlen] at hcall;obtain⟨r9,hr9⟩:∃ r,r=rpermP vars out inn c L (rest.eraseIdx k) (rsetP bs e s):=⟨_,rfl⟩
            rw[← hr9] at hcall;have HG9:Hid (G=leastP f r9):=hid (by rw[HGG.out,hr9]);have HCALL:=hid hcall;have hpz:=HP.out.below (btr HB1.out H1z) HP.out.lt;have x0:=hpz.cell_ 0 (.int .i64 st) rfl;have x1:=hpz.cell_ 1 (.int .i64 sym) rfl;have x2:=hpz.cell_ 2 (.slice hA hood.length hc) rfl;have x3:=hpz.cell_ 3 (.slice vA vs.length vc) rfl;have x4:=hpz.cell_ 4 (.slice rA rs.length rc) rfl;have H1Z:=hid H1z;clear hcall hr9 hlen hle H5z H1z H0z hpz;go_wp2_with (go_at_call 82;refine HCALL.out.mono ?_;rintro en w8 ⟨rfl,hb8⟩;refine Hid.out ?_);refine hid ?_;have HB8:=hid (btr H1Z.out hb8);have hls:=(rleast_any f r9 w8).mono (fun e w' h=>(⟨h.1,h.2.symm⟩:e=.returned (.int .i64 (leastP f r9))∧w8=w'));rw[← HG9.out] at hls;have HLS:=hid hls;clear hb8 hls HCALL x0 x1 x2 x3 x4;go_wp2_with (go_at_call 79;refine HLS.out.mono ?_;rintro en w9 ⟨rfl,rfl⟩;refine Hid.out ?_);refine hid ?_;by_cases hg1:0≤G
            ·have d4:decide (0≤G)=true:=decide_eq_true hg1;by_cases hg2:0≤out
             ·have d5:decide (0≤out)=true:=decide_eq_true hg2;have HRS:Hid (rpermP vars out inn c (L+1) rest bs=G):=hid (by
               obtain⟨d,hd⟩:∃ d,rest.length=k+1+d:=⟨rest.length - (k+1),by omega⟩
               rw[HRP.out,hd,rpTo_stop (by rw[HN.out,d4,d5];rfl) d,HN.out])
              clear hg1 hg2;go_wp2;go_ret;exact⟨ret_int HRS.out.symm,HB0.out.trans ((btr HB1.out HB8.out).mono HB0.out.size)⟩
             ·have d5:decide (0≤out)=false:=decide_eq_false hg2;have HN2:Hid (rpTo vars out s rest bs (rpermP vars out inn c L) (k+1)=(G,false)):=hid (by rw[HN.out,d5,Bool.and_false]);clear hg1 hg2;go_wp2;go_roundw
              case rel=>exact⟨k+1,G,HKL.out,(by first | rfl | (rw[HWK.out];rfl)),rfl,HN2,HB8⟩
              case measure=>(try rw[HWK.out]);exact meas_step HKL.out
            ·have d4:decide (0≤G)=false:=decide_eq_false hg1;have HN2:Hid (rpTo vars out s rest bs (rpermP vars out inn c L) (k+1)=(G,false)):=hid (by rw[HN.out,d4,Bool.false_and]);clear hg1;go_wp2;go_roundw
             case rel=>exact⟨k+1,G,HKL.out,(by first | rfl | (rw[HWK.out];rfl)),rfl,HN2,HB8⟩
             case measure=>(try rw[HWK.out]);exact meas_step HKL.out
           ·have d3:decide (e < 0)=false:=decide_eq_false he0;have hrs:rsetP bs e s=bs:=by unfold rsetP;rw[if_pos (by omega)]
            have HNZ:Hid (OwnIA wm wl.heap.size (.slice (some ⟨gN,0,none⟩) bs.length bs.length) (rsetP bs e s)):=hid (by rw[hrs];exact HO.out);have HBZ:=HBM;have hkl2:=HKL.out;clear he0 hrs;go_upto_region 26 with fail
            clear hcq d3;obtain⟨wz,hwz⟩:∃ W,W=wm:=⟨_,rfl⟩
            rw[← hwz] at HNZ HBZ ⊢;clear hwz;have H5z:=btr HBL.out HBZ.out;have H1z:=btr HB5.out H5z;have H0z:=btr HL1.out H1z;have hlen:(rsetP bs e s).length=bs.length:=by
             unfold rsetP
             split
             ·rfl
             ·rw[List.length_set]
            have hle:(rest.eraseIdx k).length≤25:=by have h1:=List.length_eraseIdx_le rest k;have h2:=HQ.out.2.2.1;omega
            have hcall:=HIH.out (rest.eraseIdx k) (rsetP bs e s) lA lc (some ⟨gN,0,none⟩) bs.length wz H0z (by have:=HII.out;omega) (HLI.out.1.ext HBZ.out) HLI.out.2 hle (fun x hx=>HQ.out.2.2.2 x (List.mem_of_mem_eraseIdx hx)) (OwnI.reads HNZ.out) (by rw[hlen];exact HBS.out.2);rw[HII.out.2.1,hlen] at hcall;obtain⟨r9,hr9⟩:∃ r,r=rpermP vars out inn c L (rest.eraseIdx k) (rsetP bs e s):=⟨_,rfl⟩
            rw[← hr9] at hcall;have HG9:Hid (G=leastP f r9):=hid (by rw[HGG.out,hr9]);have HCALL:=hid hcall;have hpz:=HP.out.below (btr HB1.out H1z) HP.out.lt;have x0:=hpz.cell_ 0 (.int .i64 st) rfl;have x1:=hpz.cell_ 1 (.int .i64 sym) rfl;have x2:=hpz.cell_ 2 (.slice hA hood.length hc) rfl;have x3:=hpz.cell_ 3 (.slice vA vs.length vc) rfl;have x4:=hpz.cell_ 4 (.slice rA rs.length rc) rfl;have H1Z:=hid H1z;clear hcall hr9 hlen hle H5z H1z H0z hpz;go_wp2_with (go_at_call 82;refine HCALL.out.mono ?_;rintro en w8 ⟨rfl,hb8⟩;refine Hid.out ?_);refine hid ?_;have HB8:=hid (btr H1Z.out hb8);have hls:=(rleast_any f r9 w8).mono (fun e w' h=>(⟨h.1,h.2.symm⟩:e=.returned (.int .i64 (leastP f r9))∧w8=w'));rw[← HG9.out] at hls;have HLS:=hid hls;clear hb8 hls HCALL x0 x1 x2 x3 x4;go_wp2_with (go_at_call 79;refine HLS.out.mono ?_;rintro en w9 ⟨rfl,rfl⟩;refine Hid.out ?_);refine hid ?_;by_cases hg1:0≤G
            ·have d4:decide (0≤G)=true:=decide_eq_true hg1;by_cases hg2:0≤out
             ·have d5:decide (0≤out)=true:=decide_eq_true hg2;have HRS:Hid (rpermP vars out inn c (L+1) rest bs=G):=hid (by
               obtain⟨d,hd⟩:∃ d,rest.length=k+1+d:=⟨rest.length - (k+1),by omega⟩
               rw[HRP.out,hd,rpTo_stop (by rw[HN.out,d4,d5];rfl) d,HN.out])
              clear hg1 hg2;go_wp2;go_ret;exact⟨ret_int HRS.out.symm,HB0.out.trans ((btr HB1.out HB8.out).mono HB0.out.size)⟩
             ·have d5:decide (0≤out)=false:=decide_eq_false hg2;have HN2:Hid (rpTo vars out s rest bs (rpermP vars out inn c L) (k+1)=(G,false)):=hid (by rw[HN.out,d5,Bool.and_false]);clear hg1 hg2;go_wp2;go_roundw
              case rel=>exact⟨k+1,G,HKL.out,(by first | rfl | (rw[HWK.out];rfl)),rfl,HN2,HB8⟩
              case measure=>(try rw[HWK.out]);exact meas_step HKL.out
            ·have d4:decide (0≤G)=false:=decide_eq_false hg1;have HN2:Hid (rpTo vars out s rest bs (rpermP vars out inn c L) (k+1)=(G,false)):=hid (by rw[HN.out,d4,Bool.false_and]);clear hg1;go_wp2;go_roundw
             case rel=>exact⟨k+1,G,HKL.out,(by first | rfl | (rw[HWK.out];rfl)),rfl,HN2,HB8⟩
             case measure=>(try rw[HWK.out]);exact meas_step HKL.out
    ·obtain rfl:k=rest.length:=Nat.le_antisymm hk (Nat.le_of_not_lt hkl);clear hk hkl;go_wp2;go_ret;exact⟨ret_int (by rw[HRP.out,HS.out]),HB0.out.trans ((HB1.out.trans (HBW.out.mono HB1.out.size)).mono HB0.out.size)⟩
end Go.Proofs.YtcmbdhopmncmnaaGreatDoor
