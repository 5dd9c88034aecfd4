/-
  texts Rwp56 Knd56 Cln56 Rul56 Sts56: parts of the proof; conditions stand with each theorem.
-/
import Derived.Test.YtcfelnhmifkelaaGreatDoorUG17
import Derived.Test.YtcfelnhmifkelaaGreatDoorUG11
import Derived.Test.YtcfelnhmifkelaaGreatDoorUG14
import Derived.Test.YtcfelnhmifkelaaGreatDoorUG0
import Derived.Laws.Rows
namespace Go.Proofs.YtcfelnhmifkelaaGreatDoor
open Lib(hid)
open Go.RowKit
set_option maxRecDepth 100000
set_option linter.unusedVariables false
set_option linter.unusedSimpArgs false
theorem ext_data (s:ByteArray)(a b:Nat):(s.extract a b).data.toList=(s.data.toList.take b).drop a:=by
 rw[Lib.extract_data,List.drop_take]
theorem extract_len (s:ByteArray)(a b:Nat):(s.extract a b).data.toList.length≤s.size:=by
 have h6:s.data.toList.length=s.data.size:=Array.length_toList;rw[ext_data,List.length_drop,List.length_take];show _≤s.data.size;omega
theorem numeral_all {l:List UInt8}(h:numeralB l=true):l.all isDig=true:=by
 unfold numeralB at h;simp only[Bool.and_eq_true] at h;exact h.1.1
theorem hasP_head {l:List UInt8}{c:UInt8}(h:0 < l.length):Lib.hasPrefix l [c]=(l.headD 0 == c):=by
 cases l with
 | nil=>simp at h
 | cons a r=>rw[hasP_cons];show (c == a)=(a == c);exact Bool.beq_comm
set_option maxHeartbeats 16000000 in
theorem rwparse_any (s:ByteArray)(w:World)(hs:s.data.toList.length≤2147483648):Calls Tryz.prog 128 #[.string s] w (RetWp s.data.toList w):=by
 obtain⟨l,hl⟩:∃ l,l=s.data.toList:=⟨_,rfl⟩
 have hlen:l.length=s.size:=by rw[hl];rfl
 have hgb:∀ j (h:j < s.size) (h':j < l.length),l[j]=s[j]:=by subst hl;exact get_byte s
 have hs9:s.size≤2147483648:=by rw[← hl] at hs;omega
 have hex:∀ an:Nat,(s.extract 1 an).data.toList=(l.take an).drop 1∧(s.extract (an+1) s.size).data.toList=l.drop (an+1):=fun an=>⟨by rw[ext_data,← hl],by rw[Lib.extract_to_end,← hl]⟩
 rw[← hl];have HLN:=hid hlen;have HGB:=hid hgb;have HL:=hid hl;have HEX:=hid hex;clear hs hgb hlen hl hex;by_cases h0:0 < s.size
 ·have hln:1≤l.length:=by rw[HLN.out];exact h0
  have e0:l.headD 0=s[0]:=by
   rw[← HGB.out 0 h0 (by omega)];cases l with
   | nil=>simp at hln
   | cons a r=>rfl
  obtain⟨c0,hc0⟩:∃ c0:Int,c0=(s[0]'h0).toNat:=⟨_,rfl⟩
  have hcc:((s[0]'h0).toNat:Int)=c0:=hc0.symm;have hhd:∀ b:UInt8,(l.headD 0=b ↔ c0=(b.toNat:Int)):=fun b=>by
   rw[e0,hc0];constructor
   ·intro e;rw[e]
   ·intro e;exact UInt8.toNat_inj.1 (by omega)
  have HHB:=hid hhd;have HHD:Hid (l.headD 0=84 ↔ c0=84):=hid (hhd 84);clear e0 hc0 hhd;by_cases h87:c0=87
  ·have k87:(c0 == 87)=true:=by rw[h87];rfl
   have hpre:Lib.hasPrefix l [87]=true:=by rw[hasP_head hln,HHB.out 87 |>.2 h87];rfl
   have hwf:wolfF l=numeralB (l.drop 1):=by unfold wolfF;rw[if_pos hpre];unfold Lib.trimPrefix;rw[if_pos hpre];rfl
   obtain⟨n0,hn0⟩:∃ n,n=numeralB (l.drop 1):=⟨_,rfl⟩
   have he1:(s.extract 1 s.size).data.toList=l.drop 1:=by rw[Lib.extract_to_end,← HL.out]
   have hx0:=rnumeral_any (s.extract 1 s.size) w (by rw[he1,List.length_drop,HLN.out];omega);rw[he1,← hn0] at hx0;rw[← hn0] at hwf;have HX0:Hid (Calls Tryz.prog 175 #[.string (s.extract 1 s.size)] w fun e w'=>e=.returned (.bool n0)∧w=w'):=hid (hx0.mono fun e w' h=>⟨h.1,h.2.symm⟩);have HV0:Hid (n0=true→Calls Tryz.prog 176 #[.string (s.extract 1 s.size)] w (RetWv w)):=hid (fun h=>rwvalue_any _ w (by rw[he1,List.length_drop,HLN.out];omega) (by rw[he1];exact numeral_all (by rw[← hn0];exact h)));have HWF:=hid hwf;have H87:=hid h87;clear hx0 he1 hn0 hwf hpre h87 hln;go_enter Tryz.func128,Tryz.ntmps128;go_wp2_with (go_at_call 175;refine HX0.out.mono ?_;rintro e w1 ⟨rfl,rfl⟩;refine Hid.out ?_);refine hid ?_;clear HX0;cases n0 with
   | true=>
    have HW0:=hid (HV0.out rfl);clear HV0;go_wp2_with (go_at_call 176;refine HW0.out.mono ?_;intro e w1 hx;obtain⟨v1,b1,rfl,-,hw1⟩:=hx;subst hw1;refine Hid.out ?_);refine hid ?_;clear HW0;cases b1 with
    | false=>
     go_wp2;(try simp only[Exit.inBlock,Exit.then]);refine bodyPost_ret (results_tmp4 rfl _ _ _) rfl ?_;exact RetWp.good HWF.out (by decide) (Below.refl _ _)
    | true=>
     by_cases h255:255 < v1
     ·have q1:decide (255 < v1)=true:=decide_eq_true h255;go_wp2;(try simp only[Exit.inBlock,Exit.then]);refine bodyPost_ret (results_tmp4 rfl _ _ _) rfl ?_;exact RetWp.good HWF.out (by decide) (Below.refl _ _)
     ·have q1:decide (255 < v1)=false:=decide_eq_false h255;clear h255;go_wp2;(try simp only[Exit.inBlock,Exit.then]);refine bodyPost_ret (results_tmp4 rfl _ _ _) rfl ?_;exact RetWp.good HWF.out (by decide) (Below.refl _ _)
   | false=>
    have HNOAT:Hid (∀ a:Int,atTo l l.length=a→a < 1→Hid (wolfF l=false)):=hid (fun _ _ _=>HWF);have HREST:Hid (∀ an:Nat,atTo l l.length=(an:Int)→1≤an→an < s.size→(l.headD 0≠84→wolfF l=false)∧(l.headD 0=84→wolfF l=(numeralB ((s.extract 1 an).data.toList) && numeralB ((s.extract (an+1) s.size).data.toList)))):=hid (fun an _ _ _=>⟨fun _=>HWF.out,fun h=>by have e1:=HHD.out.1 h;have e2:=H87.out;omega⟩);clear HV0 k87;go_wp2
    go_loop [8,9] (fun av iv=>∃ k:Nat,k≤s.size∧av=.int .i64 (atTo l k)∧iv=.int .i64 k) (fun _ iv=>s.size - (intOf iv).toNat)
    case atStart=>exact⟨0,Nat.zero_le _,rfl,rfl⟩
    case round=>
     obtain⟨k,hk,rfl,rfl⟩:=hrel;by_cases hlt:k < s.size
     ·have hll:k < l.length:=by rw[HLN.out];exact hlt
      have hq:=HGB.out k hlt hll;have hst:atTo l (k+1)=if l[k]=47 then (k:Int) else atTo l k:=by
       show (if l.getD k 0=47 then (k:Int) else atTo l k)=_;rw[List.getD_eq_getElem?_getD,List.getElem?_eq_getElem hll];rfl
      obtain⟨c,hcc2⟩:∃ c:Int,c=(s[k]'hlt).toNat:=⟨_,rfl⟩
      have hc1:((s[k]'hlt).toNat:Int)=c:=hcc2.symm;have h47:l[k]=47 ↔ c=47:=by
       rw[hq,hcc2];constructor
       ·intro e;rw[e];rfl
       ·intro e;exact UInt8.toNat_inj.1 (by have:(47:UInt8).toNat=47:=rfl;omega)
      have HST:=hid hst;have H47:=hid h47;have HLT:=hid hlt;have hwk:wrap64 ((k:Int)+1)=(k:Int)+1:=by unfold wrap64;omega
      clear hcc2 hq hst h47;by_cases h4:c=47
      ·have q1:(c == 47)=true:=by rw[h4];rfl
       have HN:Hid (atTo l (k+1)=(k:Int)):=hid (by rw[HST.out,if_pos (H47.out.2 h4)]);clear h4 HST H47 hll;go_wp2
       go_round
       case rel=>exact⟨k+1,HLT.out,(by rw[HN.out]),(by first | rfl | (rw[hwk];rfl))⟩
       case measure=>(try rw[hwk]);exact meas_step5b HLT.out
      ·have q1:(c == 47)=false:=beq_false_of_ne h4;have HN:Hid (atTo l (k+1)=atTo l k):=hid (by rw[HST.out,if_neg (fun e=>h4 (H47.out.1 e))]);clear h4 HST H47 hll;go_wp2
       go_round
       case rel=>exact⟨k+1,HLT.out,(by rw[HN.out]),(by first | rfl | (rw[hwk];rfl))⟩
       case measure=>(try rw[hwk]);exact meas_step5b HLT.out
     ·obtain rfl:k=s.size:=by omega
      obtain⟨at0,hat0⟩:∃ a,a=atTo l s.size:=⟨_,rfl⟩
      have hal:=atTo_le l s.size;rw[← hat0] at hal ⊢;have HAT:Hid (atTo l l.length=at0):=hid (by rw[HLN.out,hat0]);clear hat0;by_cases ha1:at0 < 1
      ·have q1:decide (at0 < 1)=true:=decide_eq_true ha1;have HX:Hid (wolfF l=false):=HNOAT.out at0 HAT.out ha1;clear ha1;go_wp2;(try simp only[Exit.inBlock,Exit.then]);refine bodyPost_ret (results_tmp4 rfl _ _ _) rfl ?_;exact RetWp.bad HX.out (Below.refl _ _)
      ·have q1:decide (at0 < 1)=false:=decide_eq_false ha1;have ha2:1≤at0:=by omega
       obtain⟨an,han⟩:∃ an:Nat,at0=(an:Int):=⟨at0.toNat,(Int.toNat_of_nonneg (by omega)).symm⟩
       subst han;have HRS:=hid (HREST.out an HAT.out (by omega) (by omega));have hA1:1≤(an:Int):=ha2;have hA2:(an:Int) < (s.size:Int):=hal.2;have hA3:an < s.size:=by omega
       have hA4:1≤an:=by omega
       clear ha1 ha2 hal;by_cases h84:c0=84
       ·have q2:(c0 != 84)=false:=by rw[h84];rfl
        have HRS2:Hid (wolfF l=(numeralB ((s.extract 1 an).data.toList) && numeralB ((s.extract (an+1) s.size).data.toList))):=hid (HRS.out.2 (HHD.out.2 h84));obtain⟨n1,hn1⟩:∃ n,n=numeralB ((s.extract 1 an).data.toList):=⟨_,rfl⟩
        obtain⟨n2,hn2⟩:∃ n,n=numeralB ((s.extract (an+1) s.size).data.toList):=⟨_,rfl⟩
        have hx1:=rnumeral_any (s.extract 1 an) w (by have h6:=extract_len s 1 an;omega);have hx2:=rnumeral_any (s.extract (an+1) s.size) w (by have h6:=extract_len s (an+1) s.size;omega);rw[← hn1] at hx1 HRS2;rw[← hn2] at hx2 HRS2;have HX1:Hid (Calls Tryz.prog 175 #[.string (s.extract 1 an)] w fun e w'=>e=.returned (.bool n1)∧w=w'):=hid (hx1.mono fun e w' h=>⟨h.1,h.2.symm⟩);have HX2:Hid (Calls Tryz.prog 175 #[.string (s.extract (an+1) s.size)] w fun e w'=>e=.returned (.bool n2)∧w=w'):=hid (hx2.mono fun e w' h=>⟨h.1,h.2.symm⟩);have HV1:Hid (n1=true→Calls Tryz.prog 176 #[.string (s.extract 1 an)] w (RetWv w)):=hid (fun h=>rwvalue_any _ w (by have h6:=extract_len s 1 an;omega) (numeral_all (by rw[← hn1];exact h)));have HV2:Hid (n2=true→Calls Tryz.prog 176 #[.string (s.extract (an+1) s.size)] w (RetWv w)):=hid (fun h=>rwvalue_any _ w (by have h6:=extract_len s (an+1) s.size;omega) (numeral_all (by rw[← hn2];exact h)));have hwa:wrap64 ((an:Int)+1)=(an:Int)+1:=by unfold wrap64;omega
        clear hx1 hx2 hn1 hn2 h84;cases n1 with
        | false=>
         have HX:Hid (wolfF l=false):=hid (by rw[HRS2.out];rfl);go_wp2_with (go_at_call 175;refine HX1.out.mono ?_;rintro e w1 ⟨rfl,rfl⟩;refine Hid.out ?_);refine hid ?_;clear HX1 HX2;go_wp2;(try simp only[Exit.inBlock,Exit.then]);refine bodyPost_ret (results_tmp4 rfl _ _ _) rfl ?_;exact RetWp.bad HX.out (Below.refl _ _)
        | true=>
         cases n2 with
         | false=>
          have HX:Hid (wolfF l=false):=hid (by rw[HRS2.out];rfl);go_wp2_with (go_at_call 175;refine HX1.out.mono ?_;rintro e w1 ⟨rfl,rfl⟩;refine Hid.out ?_);refine hid ?_;clear HX1;go_wp2_with (go_at_call 175;refine HX2.out.mono ?_;rintro e w1 ⟨rfl,rfl⟩;refine Hid.out ?_);refine hid ?_;clear HX2;go_wp2;(try simp only[Exit.inBlock,Exit.then]);refine bodyPost_ret (results_tmp4 rfl _ _ _) rfl ?_;exact RetWp.bad HX.out (Below.refl _ _)
         | true=>
          have HX:Hid (wolfF l=true):=hid (by rw[HRS2.out];rfl);go_wp2_with (go_at_call 175;refine HX1.out.mono ?_;rintro e w1 ⟨rfl,rfl⟩;refine Hid.out ?_);refine hid ?_;clear HX1;go_wp2_with (go_at_call 175;refine HX2.out.mono ?_;rintro e w1 ⟨rfl,rfl⟩;refine Hid.out ?_);refine hid ?_;clear HX2;have HW1:=hid (HV1.out (by first | rfl | trivial));have HW2:=hid (HV2.out (by first | rfl | trivial));clear HV1 HV2;go_wp2_with (go_at_call 176;refine HW1.out.mono ?_;intro e w1 hx;obtain⟨v1,b1,rfl,⟨hv1,hv1'⟩,hw1⟩:=hx;subst hw1;refine Hid.out ?_);refine hid ?_;have HB1:=hid hv1';clear hv1 hv1' HW1;go_upto_region 15 with fail
          go_wp2_with (go_at_call 176;refine HW2.out.mono ?_;intro e w2 hx;obtain⟨v2,b2,rfl,⟨hv2,hv2'⟩,hw2⟩:=hx;subst hw2;refine Hid.out ?_);refine hid ?_;clear hv2 hv2' HW2;cases b1 with
          | false=>
           go_wp2;(try simp only[Exit.inBlock,Exit.then]);refine bodyPost_ret (results_tmp4 rfl _ _ _) rfl ?_;exact RetWp.good HX.out (by decide) (Below.refl _ _)
          | true=>
           cases b2 with
           | false=>
            go_wp2;(try simp only[Exit.inBlock,Exit.then]);refine bodyPost_ret (results_tmp4 rfl _ _ _) rfl ?_;exact RetWp.good HX.out (by decide) (Below.refl _ _)
           | true=>
            obtain⟨dr,hdr⟩:∃ dr,dr=digsT v2 v1:=⟨_,rfl⟩
            have hdc:=rdigits_any v2 v1 w2 HB1.out;rw[← hdr] at hdc;have HDC:=hid hdc;clear hdc hdr;go_wp2_with (go_at_call 177;refine HDC.out.mono ?_;intro e w4 hx;obtain⟨dA,dc,rfl,-,hb4⟩:=hx;refine Hid.out ?_);refine hid ?_;have HB4:=hid hb4;clear HDC hb4;obtain⟨dl,de⟩:=dr;by_cases hde:de=0
            ·subst hde;go_wp2;(try simp only[Exit.inBlock,Exit.then]);refine bodyPost_ret (results_tmp4 rfl _ _ _) rfl ?_;exact RetWp.good HX.out (by decide) HB4.out
            ·have q9:(de != 0)=true:=bne_iff_ne.2 hde;clear hde;go_wp2;(try simp only[Exit.inBlock,Exit.then]);refine bodyPost_ret (results_tmp4 rfl _ _ _) rfl ?_;exact RetWp.good HX.out (by decide) HB4.out
       ·have q2:(c0 != 84)=true:=bne_iff_ne.2 h84;have HX:Hid (wolfF l=false):=hid (HRS.out.1 (fun e=>h84 (HHD.out.1 e)));clear h84;go_wp2;(try simp only[Exit.inBlock,Exit.then]);refine bodyPost_ret (results_tmp4 rfl _ _ _) rfl ?_;exact RetWp.bad HX.out (Below.refl _ _)
  ·have k87:(c0 == 87)=false:=beq_false_of_ne h87;have hpre:Lib.hasPrefix l [87]=false:=by rw[hasP_head hln];exact beq_false_of_ne (fun e=>h87 ((HHB.out 87).1 e))
   have hgr:=goodR_eq hpre;have HNOAT:Hid (∀ a:Int,atTo l l.length=a→a < 1→Hid (wolfF l=false)):=hid (fun a h1 h2=>hid (by rw[hgr];unfold goodR;rw[h1,decide_eq_false (by omega)];rfl));have HREST:Hid (∀ an:Nat,atTo l l.length=(an:Int)→1≤an→an < s.size→(l.headD 0≠84→wolfF l=false)∧(l.headD 0=84→wolfF l=(numeralB ((s.extract 1 an).data.toList) && numeralB ((s.extract (an+1) s.size).data.toList)))):=hid (fun an h1 h2 h3=>⟨fun h=>by rw[hgr];unfold goodR;rw[beq_false_of_ne h];simp,fun h=>by rw[hgr];unfold goodR;rw[h1,Int.toNat_natCast,(HEX.out an).1,(HEX.out an).2,h,decide_eq_true (by omega)];rfl⟩);clear hpre hgr h87 hln;go_enter Tryz.func128,Tryz.ntmps128;go_wp2
   go_loop [8,9] (fun av iv=>∃ k:Nat,k≤s.size∧av=.int .i64 (atTo l k)∧iv=.int .i64 k) (fun _ iv=>s.size - (intOf iv).toNat)
   case atStart=>exact⟨0,Nat.zero_le _,rfl,rfl⟩
   case round=>
    obtain⟨k,hk,rfl,rfl⟩:=hrel;by_cases hlt:k < s.size
    ·have hll:k < l.length:=by rw[HLN.out];exact hlt
     have hq:=HGB.out k hlt hll;have hst:atTo l (k+1)=if l[k]=47 then (k:Int) else atTo l k:=by
      show (if l.getD k 0=47 then (k:Int) else atTo l k)=_;rw[List.getD_eq_getElem?_getD,List.getElem?_eq_getElem hll];rfl
     obtain⟨c,hcc2⟩:∃ c:Int,c=(s[k]'hlt).toNat:=⟨_,rfl⟩
     have hc1:((s[k]'hlt).toNat:Int)=c:=hcc2.symm;have h47:l[k]=47 ↔ c=47:=by
      rw[hq,hcc2];constructor
      ·intro e;rw[e];rfl
      ·intro e;exact UInt8.toNat_inj.1 (by have:(47:UInt8).toNat=47:=rfl;omega)
     have HST:=hid hst;have H47:=hid h47;have HLT:=hid hlt;have hwk:wrap64 ((k:Int)+1)=(k:Int)+1:=by unfold wrap64;omega
     clear hcc2 hq hst h47;by_cases h4:c=47
     ·have q1:(c == 47)=true:=by rw[h4];rfl
      have HN:Hid (atTo l (k+1)=(k:Int)):=hid (by rw[HST.out,if_pos (H47.out.2 h4)]);clear h4 HST H47 hll;go_wp2
      go_round
      case rel=>exact⟨k+1,HLT.out,(by rw[HN.out]),(by first | rfl | (rw[hwk];rfl))⟩
      case measure=>(try rw[hwk]);exact meas_step5b HLT.out
     ·have q1:(c == 47)=false:=beq_false_of_ne h4;have HN:Hid (atTo l (k+1)=atTo l k):=hid (by rw[HST.out,if_neg (fun e=>h4 (H47.out.1 e))]);clear h4 HST H47 hll;go_wp2
      go_round
      case rel=>exact⟨k+1,HLT.out,(by rw[HN.out]),(by first | rfl | (rw[hwk];rfl))⟩
      case measure=>(try rw[hwk]);exact meas_step5b HLT.out
    ·obtain rfl:k=s.size:=by omega
     obtain⟨at0,hat0⟩:∃ a,a=atTo l s.size:=⟨_,rfl⟩
     have hal:=atTo_le l s.size;rw[← hat0] at hal ⊢;have HAT:Hid (atTo l l.length=at0):=hid (by rw[HLN.out,hat0]);clear hat0;by_cases ha1:at0 < 1
     ·have q1:decide (at0 < 1)=true:=decide_eq_true ha1;have HX:Hid (wolfF l=false):=HNOAT.out at0 HAT.out ha1;clear ha1;go_wp2;(try simp only[Exit.inBlock,Exit.then]);refine bodyPost_ret (results_tmp4 rfl _ _ _) rfl ?_;exact RetWp.bad HX.out (Below.refl _ _)
     ·have q1:decide (at0 < 1)=false:=decide_eq_false ha1;have ha2:1≤at0:=by omega
      obtain⟨an,han⟩:∃ an:Nat,at0=(an:Int):=⟨at0.toNat,(Int.toNat_of_nonneg (by omega)).symm⟩
      subst han;have HRS:=hid (HREST.out an HAT.out (by omega) (by omega));have hA1:1≤(an:Int):=ha2;have hA2:(an:Int) < (s.size:Int):=hal.2;have hA3:an < s.size:=by omega
      have hA4:1≤an:=by omega
      clear ha1 ha2 hal;by_cases h84:c0=84
      ·have q2:(c0 != 84)=false:=by rw[h84];rfl
       have HRS2:Hid (wolfF l=(numeralB ((s.extract 1 an).data.toList) && numeralB ((s.extract (an+1) s.size).data.toList))):=hid (HRS.out.2 (HHD.out.2 h84));obtain⟨n1,hn1⟩:∃ n,n=numeralB ((s.extract 1 an).data.toList):=⟨_,rfl⟩
       obtain⟨n2,hn2⟩:∃ n,n=numeralB ((s.extract (an+1) s.size).data.toList):=⟨_,rfl⟩
       have hx1:=rnumeral_any (s.extract 1 an) w (by have h6:=extract_len s 1 an;omega);have hx2:=rnumeral_any (s.extract (an+1) s.size) w (by have h6:=extract_len s (an+1) s.size;omega);rw[← hn1] at hx1 HRS2;rw[← hn2] at hx2 HRS2;have HX1:Hid (Calls Tryz.prog 175 #[.string (s.extract 1 an)] w fun e w'=>e=.returned (.bool n1)∧w=w'):=hid (hx1.mono fun e w' h=>⟨h.1,h.2.symm⟩);have HX2:Hid (Calls Tryz.prog 175 #[.string (s.extract (an+1) s.size)] w fun e w'=>e=.returned (.bool n2)∧w=w'):=hid (hx2.mono fun e w' h=>⟨h.1,h.2.symm⟩);have HV1:Hid (n1=true→Calls Tryz.prog 176 #[.string (s.extract 1 an)] w (RetWv w)):=hid (fun h=>rwvalue_any _ w (by have h6:=extract_len s 1 an;omega) (numeral_all (by rw[← hn1];exact h)));have HV2:Hid (n2=true→Calls Tryz.prog 176 #[.string (s.extract (an+1) s.size)] w (RetWv w)):=hid (fun h=>rwvalue_any _ w (by have h6:=extract_len s (an+1) s.size;omega) (numeral_all (by rw[← hn2];exact h)));have hwa:wrap64 ((an:Int)+1)=(an:Int)+1:=by unfold wrap64;omega
       clear hx1 hx2 hn1 hn2 h84;cases n1 with
       | false=>
        have HX:Hid (wolfF l=false):=hid (by rw[HRS2.out];rfl);go_wp2_with (go_at_call 175;refine HX1.out.mono ?_;rintro e w1 ⟨rfl,rfl⟩;refine Hid.out ?_);refine hid ?_;clear HX1 HX2;go_wp2;(try simp only[Exit.inBlock,Exit.then]);refine bodyPost_ret (results_tmp4 rfl _ _ _) rfl ?_;exact RetWp.bad HX.out (Below.refl _ _)
       | true=>
        cases n2 with
        | false=>
         have HX:Hid (wolfF l=false):=hid (by rw[HRS2.out];rfl);go_wp2_with (go_at_call 175;refine HX1.out.mono ?_;rintro e w1 ⟨rfl,rfl⟩;refine Hid.out ?_);refine hid ?_;clear HX1;go_wp2_with (go_at_call 175;refine HX2.out.mono ?_;rintro e w1 ⟨rfl,rfl⟩;refine Hid.out ?_);refine hid ?_;clear HX2;go_wp2;(try simp only[Exit.inBlock,Exit.then]);refine bodyPost_ret (results_tmp4 rfl _ _ _) rfl ?_;exact RetWp.bad HX.out (Below.refl _ _)
        | true=>
         have HX:Hid (wolfF l=true):=hid (by rw[HRS2.out];rfl);go_wp2_with (go_at_call 175;refine HX1.out.mono ?_;rintro e w1 ⟨rfl,rfl⟩;refine Hid.out ?_);refine hid ?_;clear HX1;go_wp2_with (go_at_call 175;refine HX2.out.mono ?_;rintro e w1 ⟨rfl,rfl⟩;refine Hid.out ?_);refine hid ?_;clear HX2;have HW1:=hid (HV1.out (by first | rfl | trivial));have HW2:=hid (HV2.out (by first | rfl | trivial));clear HV1 HV2;go_wp2_with (go_at_call 176;refine HW1.out.mono ?_;intro e w1 hx;obtain⟨v1,b1,rfl,⟨hv1,hv1'⟩,hw1⟩:=hx;subst hw1;refine Hid.out ?_);refine hid ?_;have HB1:=hid hv1';clear hv1 hv1' HW1;go_upto_region 15 with fail
         go_wp2_with (go_at_call 176;refine HW2.out.mono ?_;intro e w2 hx;obtain⟨v2,b2,rfl,⟨hv2,hv2'⟩,hw2⟩:=hx;subst hw2;refine Hid.out ?_);refine hid ?_;clear hv2 hv2' HW2;cases b1 with
         | false=>
          go_wp2;(try simp only[Exit.inBlock,Exit.then]);refine bodyPost_ret (results_tmp4 rfl _ _ _) rfl ?_;exact RetWp.good HX.out (by decide) (Below.refl _ _)
         | true=>
          cases b2 with
          | false=>
           go_wp2;(try simp only[Exit.inBlock,Exit.then]);refine bodyPost_ret (results_tmp4 rfl _ _ _) rfl ?_;exact RetWp.good HX.out (by decide) (Below.refl _ _)
          | true=>
           obtain⟨dr,hdr⟩:∃ dr,dr=digsT v2 v1:=⟨_,rfl⟩
           have hdc:=rdigits_any v2 v1 w2 HB1.out;rw[← hdr] at hdc;have HDC:=hid hdc;clear hdc hdr;go_wp2_with (go_at_call 177;refine HDC.out.mono ?_;intro e w4 hx;obtain⟨dA,dc,rfl,-,hb4⟩:=hx;refine Hid.out ?_);refine hid ?_;have HB4:=hid hb4;clear HDC hb4;obtain⟨dl,de⟩:=dr;by_cases hde:de=0
           ·subst hde;go_wp2;(try simp only[Exit.inBlock,Exit.then]);refine bodyPost_ret (results_tmp4 rfl _ _ _) rfl ?_;exact RetWp.good HX.out (by decide) HB4.out
           ·have q9:(de != 0)=true:=bne_iff_ne.2 hde;clear hde;go_wp2;(try simp only[Exit.inBlock,Exit.then]);refine bodyPost_ret (results_tmp4 rfl _ _ _) rfl ?_;exact RetWp.good HX.out (by decide) HB4.out
      ·have q2:(c0 != 84)=true:=bne_iff_ne.2 h84;have HX:Hid (wolfF l=false):=hid (HRS.out.1 (fun e=>h84 (HHD.out.1 e)));clear h84;go_wp2;(try simp only[Exit.inBlock,Exit.then]);refine bodyPost_ret (results_tmp4 rfl _ _ _) rfl ?_;exact RetWp.bad HX.out (Below.refl _ _)
 ·have hz:l=[]:=List.eq_nil_of_length_eq_zero (by rw[HLN.out];omega);have HX:Hid (wolfF l=false):=hid (by rw[hz];rfl);have hz1:decide (0 < (s.size:Int))=false:=decide_eq_false (by omega);have hsz:s.size=0:=by omega
  clear hz;go_enter Tryz.func128,Tryz.ntmps128;go_wp2
  go_loop [8,9] (fun av iv=>av=.int .i64 (-1)∧iv=.int .i64 0) (fun _ _=>0)
  case atStart=>exact⟨rfl,rfl⟩
  case round=>
   obtain⟨rfl,rfl⟩:=hrel;go_wp2;(try simp only[Exit.inBlock,Exit.then]);refine bodyPost_ret (results_tmp4 rfl _ _ _) rfl ?_;exact RetWp.bad HX.out (Below.refl _ _)
def kindP (l:List UInt8):Int:=if (parseL8 l).2≠15 then 1 else if (parseG l).2≠15 then 2 else if wolfF l=true then (if Lib.hasPrefix l [87]=true then 3 else 4) else if (10:UInt8) ∈ l then 5 else 0
theorem wolf_pre {l:List UInt8}(h:wolfF l=true)(hW:Lib.hasPrefix l [87]=false):Lib.hasPrefix l [84]=true:=by
 unfold wolfF at h;rw[hW] at h;simp only[Bool.false_eq_true,if_false,Bool.and_eq_true] at h;exact h.1.1.1
theorem contains_lf (l:List UInt8):decide (0≤Lib.indexByte l 10)=decide ((10:UInt8) ∈ l):=by
 by_cases h:(10:UInt8) ∈ l
 ·rw[decide_eq_true h];have:¬ Lib.indexByte l 10 = -1:=fun e=>by
   obtain⟨j,hj,hj2⟩:=List.getElem_of_mem h;exact Lib.indexByte_none e j (by rw[List.getElem?_eq_getElem hj,hj2])
  have h2:=Lib.indexByte_ge l 10
  simp;omega
 ·rw[decide_eq_false h];cases hi:decide (0≤Lib.indexByte l 10) with
  | false=>simp
  | true=>
   have h0:=of_decide_eq_true hi;obtain⟨o,ho⟩:∃ o:Nat,Lib.indexByte l 10=(o:Int):=⟨(Lib.indexByte l 10).toNat,(Int.toNat_of_nonneg h0).symm⟩
   exact absurd (List.mem_of_getElem? (Lib.indexByte_some ho).1) h
theorem ret_i56 {a b:Int}(h:a=b):Ending.returned (.int .i64 a)=.returned (.int .i64 b):=by rw[h]
set_option maxHeartbeats 16000000 in
theorem kind_any (s:ByteArray)(w:World)(hg:GCell w)(he:ErrV w)(hs:s.data.toList.length≤2147483648):Calls Tryz.prog 87 #[.string s] w fun e w'=>e=.returned (.int .i64 (kindP s.data.toList))∧Below w.heap.size w w':=by
 obtain⟨l,hl⟩:∃ l,l=s.data.toList:=⟨_,rfl⟩
 obtain⟨e1,he1⟩:∃ e,e=(parseL8 l).2:=⟨_,rfl⟩
 obtain⟨e2,he2⟩:∃ e,e=(parseG l).2:=⟨_,rfl⟩
 obtain⟨wf,hwf⟩:∃ e,e=wolfF l:=⟨_,rfl⟩
 obtain⟨r,hr⟩:∃ r,r=kindP l:=⟨_,rfl⟩
 rw[← hl,← hr];have HR:Hid (r=if e1≠15 then 1 else if e2≠15 then 2 else if wf=true then (if Lib.hasPrefix l [87]=true then 3 else 4) else if (10:UInt8) ∈ l then 5 else 0):=hid (by rw[hr,he1,he2,hwf];rfl);have HE1:=hid he1;have HE2:=hid he2;have HWF:=hid hwf;have HL:=hid hl;have HS:=hid hs;have HG:=hid hg;have HE:=hid he;have HB:Hid (Below w.heap.size w w):=hid (Below.refl _ _);clear he1 he2 hwf hl hr hg he;go_enter Tryz.func87,Tryz.ntmps87;have HC1:=hid (parse_any8 s w HG.out HS.out);rw[← HL.out] at HC1;have HC2:=hid (fun W (h:GCell W)=>gparse_any s W h HS.out);rw[← HL.out] at HC2;have HC3:=hid (fun W (h:GCell W) (h2:ErrV W)=>wparse_any l W h h2 (by rw[HL.out];exact HS.out));have hsl:(⟨l.toArray⟩:ByteArray)=s:=by rw[HL.out]
 rw[hsl] at HC3;clear hsl hs;have HCALL:=HC1;go_wp2_with (go_at_call 120;refine HCALL.out.mono ?_;intro e w10 hx;obtain⟨A1,a1,B1,b1,C1,c1,rfl,-,hb⟩:=hx;refine Hid.out ?_);refine hid ?_;clear HCALL;replace HB:=hid (HB.out.trans (hb.mono HB.out.size));replace HG:=hid (HG.out.ext hb);replace HE:=hid (HE.out.ext hb);clear hb;obtain⟨tt,htt⟩:∃ tt,tt=((parseL8 l).1:TotL):=⟨_,rfl⟩
 rw[← htt];clear htt;unfold totV;obtain⟨w1,hw⟩:∃ W,W=w10.alloc (.cells #[.slice A1 tt.hood.length a1,.int .i64 tt.states,.slice B1 tt.birth.length b1,.slice C1 tt.survive.length c1] 144):=⟨_,rfl⟩
 have hb:Below w10.heap.size w10 w1:=by rw[hw];exact below_new _ _
 replace HB:=hid (HB.out.trans (hb.mono HB.out.size));replace HG:=hid (HG.out.ext hb);replace HE:=hid (HE.out.ext hb);clear hb;go_upto_region 2 with fail
 rw[← hw];clear hw;rw[← HE1.out];by_cases k1:e1=15
 ·have q1:(e1 != 15)=false:=by rw[k1];rfl
  have HK1:=hid k1;clear k1 HC1;have HCALL:=hid (HC2.out w1 HG.out);go_wp2_with (go_at_call 121;refine HCALL.out.mono ?_;intro e w20 hx;obtain⟨A2,a2,B2,b2,C2,c2,rfl,-,hb⟩:=hx;refine Hid.out ?_);refine hid ?_;clear HCALL;replace HB:=hid (HB.out.trans (hb.mono HB.out.size));replace HG:=hid (HG.out.ext hb);replace HE:=hid (HE.out.ext hb);clear hb;obtain⟨tt,htt⟩:∃ tt,tt=((parseG l).1:TotL):=⟨_,rfl⟩
  rw[← htt];clear htt;unfold totV;obtain⟨w2,hw⟩:∃ W,W=w20.alloc (.cells #[.slice A2 tt.hood.length a2,.int .i64 tt.states,.slice B2 tt.birth.length b2,.slice C2 tt.survive.length c2] 144):=⟨_,rfl⟩
  have hb:Below w20.heap.size w20 w2:=by rw[hw];exact below_new _ _
  replace HB:=hid (HB.out.trans (hb.mono HB.out.size));replace HG:=hid (HG.out.ext hb);replace HE:=hid (HE.out.ext hb);clear hb;go_upto_region 5 with fail
  rw[← hw];clear hw;rw[← HE2.out];by_cases k2:e2=15
  ·have q2:(e2 != 15)=false:=by rw[k2];rfl
   have HK2:=hid k2;clear k2 HC2;have HCALL:=hid (HC3.out w2 HG.out HE.out);go_wp2_with (go_at_call 122;refine HCALL.out.mono ?_;intro e w3 hx;obtain⟨va,vb,vc,ev,rfl,hev,hb⟩:=hx;refine Hid.out ?_);refine hid ?_;clear HCALL HC3;replace HB:=hid (HB.out.trans (hb.mono HB.out.size));replace HG:=hid (HG.out.ext hb);replace HE:=hid (HE.out.ext hb);clear hb;have HEV:Hid (ev=15 ↔ wf=false):=hid (by rw[HWF.out];exact hev);clear hev;have HP:=hid (fun (W:World) (p:ByteArray)=>(Tryz.strings_HasPrefix s p W).mono (fun e w' h=>(⟨h.1,h.2.symm⟩:_∧W=w')));by_cases k3:ev=15
   ·have q3:(ev != 15)=false:=by rw[k3];rfl
    have HW:Hid (wf=false):=hid (HEV.out.1 k3);clear k3;have HCC:=hid ((Tryz.strings_Contains_one s 10 w3).mono (fun e w' h=>(⟨h.1,h.2.symm⟩:_∧w3=w')));rw[← HL.out,contains_lf] at HCC;by_cases k4:(10:UInt8) ∈ l
    ·rw[decide_eq_true k4] at HCC;have HK:Hid (r=5):=hid (by rw[HR.out,if_neg (by rw[HK1.out];simp),if_neg (by rw[HK2.out];simp),HW.out,if_neg (by decide),if_pos k4]);clear k4;go_wp2_with (go_at_call 123;refine HCC.out.mono ?_;rintro e w4 ⟨rfl,rfl⟩;refine Hid.out ?_);refine hid ?_;clear HCC;go_wp2;go_ret;exact⟨ret_i56 HK.out.symm,HB.out⟩
    ·rw[decide_eq_false k4] at HCC;have HK:Hid (r=0):=hid (by rw[HR.out,if_neg (by rw[HK1.out];simp),if_neg (by rw[HK2.out];simp),HW.out,if_neg (by decide),if_neg k4]);clear k4;go_wp2_with (go_at_call 123;refine HCC.out.mono ?_;rintro e w4 ⟨rfl,rfl⟩;refine Hid.out ?_);refine hid ?_;clear HCC;go_wp2;go_ret;exact⟨ret_i56 HK.out.symm,HB.out⟩
   ·have q3:(ev != 15)=true:=bne_iff_ne.2 k3;have HW:Hid (wf=true):=hid (by
     cases hx:wf
     ·exact absurd (HEV.out.2 hx) k3
     ·rfl)
    clear k3;have HPW:=hid (HP.out w3 ⟨#[87]⟩);rw[← HL.out] at HPW;cases k4:Lib.hasPrefix l [87] with
    | true=>
     have HK:Hid (r=3):=hid (by rw[HR.out,if_neg (by rw[HK1.out];simp),if_neg (by rw[HK2.out];simp),if_pos HW.out,if_pos k4]);rw[show Lib.hasPrefix l (⟨#[87]⟩:ByteArray).data.toList=true from k4] at HPW;clear k4;go_wp2_with (go_at_call 65;refine HPW.out.mono ?_;rintro e w4 ⟨rfl,rfl⟩;refine Hid.out ?_);refine hid ?_;clear HPW;go_wp2;go_ret;exact⟨ret_i56 HK.out.symm,HB.out⟩
    | false=>
     have HK:Hid (r=4):=hid (by rw[HR.out,if_neg (by rw[HK1.out];simp),if_neg (by rw[HK2.out];simp),if_pos HW.out,if_neg (by rw[k4];decide)]);have HPT:=hid (HP.out w3 ⟨#[84]⟩);rw[← HL.out,show Lib.hasPrefix l (⟨#[84]⟩:ByteArray).data.toList=true from wolf_pre (by rw[← HWF.out];exact HW.out) k4] at HPT;rw[show Lib.hasPrefix l (⟨#[87]⟩:ByteArray).data.toList=false from k4] at HPW;clear k4;go_wp2_with (go_at_call 65;refine HPW.out.mono ?_;rintro e w4 ⟨rfl,rfl⟩;refine Hid.out ?_);refine hid ?_;clear HPW;go_wp2_with (go_at_call 65;refine HPT.out.mono ?_;rintro e w4 ⟨rfl,rfl⟩;refine Hid.out ?_);refine hid ?_;clear HPT;go_wp2;go_ret;exact⟨ret_i56 HK.out.symm,HB.out⟩
  ·have q2:(e2 != 15)=true:=bne_iff_ne.2 k2;have HK:Hid (r=2):=hid (by rw[HR.out,if_neg (by rw[HK1.out];simp),if_pos k2]);clear k2;go_wp2;go_ret;exact⟨ret_i56 HK.out.symm,HB.out⟩
 ·have q1:(e1 != 15)=true:=bne_iff_ne.2 k1;have HK:Hid (r=1):=hid (by rw[HR.out,if_pos k1]);clear k1;go_wp2;go_ret;exact⟨ret_i56 HK.out.symm,HB.out⟩
theorem wolf_len {l:List UInt8}(h:wolfF l=true):0 < l.length:=by
 cases l with
 | nil=>exact absurd h (by decide)
 | cons a r=>simp
set_option maxHeartbeats 16000000 in
theorem rkind_any (s:ByteArray)(w:World)(hs:s.data.toList.length≤2147483648):Calls Tryz.prog 92 #[.string s] w fun e w'=>e=.returned (.int .i64 (kindP s.data.toList))∧Below w.heap.size w w':=by
 have hsz:s.size≤2147483648:=by have h6:s.data.toList.length=s.data.size:=Array.length_toList;show s.data.size≤_;omega
 obtain⟨l,hl⟩:∃ l,l=s.data.toList:=⟨_,rfl⟩
 obtain⟨e1,he1⟩:∃ e,e=(parseL8 l).2:=⟨_,rfl⟩
 obtain⟨e2,he2⟩:∃ e,e=(parseG l).2:=⟨_,rfl⟩
 obtain⟨wf,hwf⟩:∃ e,e=wolfF l:=⟨_,rfl⟩
 obtain⟨r,hr⟩:∃ r,r=kindP l:=⟨_,rfl⟩
 rw[← hl,← hr];have HR:Hid (r=if e1≠15 then 1 else if e2≠15 then 2 else if wf=true then (if Lib.hasPrefix l [87]=true then 3 else 4) else if (10:UInt8) ∈ l then 5 else 0):=hid (by rw[hr,he1,he2,hwf];rfl);have HE1:=hid he1;have HE2:=hid he2;have HWF:=hid hwf;have HL:=hid hl;have HS:=hid hs;have HB:Hid (Below w.heap.size w w):=hid (Below.refl _ _);clear he1 he2 hwf hl hr;go_enter Tryz.func92,Tryz.ntmps92;have HC1:=hid (rparse_any8 s w hsz);rw[← parse_eq8,← HL.out] at HC1;have HC2:=hid (fun W=>rparse_any9 s W hsz);simp only[← parse_eq9,← HL.out] at HC2;have HC3:=hid (fun W=>rwparse_any s W HS.out);rw[← HL.out] at HC3;have hlen:l.length=s.size:=by rw[HL.out];rfl
 have HLN:=hid hlen;have hgb:∀ j (h:j < s.size) (h':j < l.length),l[j]=s[j]:=by have:=HL.out;subst this;exact get_byte s
 have HGB:=hid hgb;clear hs hlen hgb;have HCALL:=HC1;go_wp2_with (go_at_call 126;refine HCALL.out.mono ?_;intro e w10 hx;obtain⟨A1,a1,B1,b1,C1,c1,rfl,-,hb⟩:=hx;refine Hid.out ?_);refine hid ?_;clear HCALL;replace HB:=hid (HB.out.trans (hb.mono HB.out.size));clear hb;obtain⟨tt,htt⟩:∃ tt,tt=((parseL8 l).1:TotL):=⟨_,rfl⟩
 rw[← htt];clear htt;unfold totV;obtain⟨w1,hw⟩:∃ W,W=w10.alloc (.cells #[.slice A1 tt.hood.length a1,.int .i64 tt.states,.slice B1 tt.birth.length b1,.slice C1 tt.survive.length c1] 144):=⟨_,rfl⟩
 have hb:Below w10.heap.size w10 w1:=by rw[hw];exact below_new _ _
 replace HB:=hid (HB.out.trans (hb.mono HB.out.size));clear hb;go_upto_region 2 with fail
 rw[← hw];clear hw;rw[← HE1.out];by_cases k1:e1=15
 ·have q1:(e1 != 15)=false:=by rw[k1];rfl
  have HK1:=hid k1;clear k1 HC1;have HCALL:=hid (HC2.out w1);go_wp2_with (go_at_call 127;refine HCALL.out.mono ?_;intro e w20 hx;obtain⟨A2,a2,B2,b2,C2,c2,rfl,-,hb⟩:=hx;refine Hid.out ?_);refine hid ?_;clear HCALL;replace HB:=hid (HB.out.trans (hb.mono HB.out.size));clear hb;obtain⟨tt,htt⟩:∃ tt,tt=((parseG l).1:TotL):=⟨_,rfl⟩
  rw[← htt];clear htt;unfold totV;go_upto_region 5 with fail
  rw[← HE2.out];by_cases k2:e2=15
  ·have q2:(e2 != 15)=false:=by rw[k2];rfl
   have HK2:=hid k2;clear k2 HC2;have HCALL:=hid (HC3.out w20);go_wp2_with (go_at_call 128;refine HCALL.out.mono ?_;intro e w3 hx;obtain⟨va,vb,vc,ev,rfl,hev,hb⟩:=hx;refine Hid.out ?_);refine hid ?_;clear HCALL HC3;replace HB:=hid (HB.out.trans (hb.mono HB.out.size));clear hb;have HEV:Hid (ev=15 ↔ wf=false):=hid (by rw[HWF.out];exact hev);clear hev;by_cases k3:ev=15
   ·have q3:(ev != 15)=false:=by rw[k3];rfl
    have HW:Hid (wf=false):=hid (HEV.out.1 k3);clear k3;go_wp2
    go_loop [5] (fun iv=>∃ k:Nat,k≤s.size∧iv=.int .i64 k∧Hid ((10:UInt8) ∉ l.take k)) (fun iv=>s.size - (intOf iv).toNat)
    case atStart=>exact⟨0,Nat.zero_le _,rfl,hid (by simp)⟩
    case round=>
     obtain⟨k,hk,rfl,HT⟩:=hrel;by_cases hlt:k < s.size
     ·have hll:k < l.length:=by rw[HLN.out];exact hlt
      have hq:=HGB.out k hlt hll;obtain⟨c,hcc2⟩:∃ c:Int,c=(s[k]'hlt).toNat:=⟨_,rfl⟩
      have hc1:((s[k]'hlt).toNat:Int)=c:=hcc2.symm;have h10:l[k]=10 ↔ c=10:=by
       rw[hq,hcc2];constructor
       ·intro e;rw[e];rfl
       ·intro e;exact UInt8.toNat_inj.1 (by have:(10:UInt8).toNat=10:=rfl;omega)
      have htk:l.take (k+1)=l.take k ++ [l[k]]:=List.take_succ_eq_append_getElem hll;have H10:=hid h10;have HTK:=hid htk;have HME:Hid (l[k] ∈ l):=hid (List.getElem_mem hll);have HLT:=hid hlt;have hwk:wrap64 ((k:Int)+1)=(k:Int)+1:=by unfold wrap64;omega
      clear hcc2 hq h10 htk;by_cases h4:c=10
      ·have q4:(c == 10)=true:=by rw[h4];rfl
       have HK:Hid (r=5):=hid (by rw[HR.out,if_neg (by rw[HK1.out];simp),if_neg (by rw[HK2.out];simp),HW.out,if_neg (by decide),if_pos (by rw[← H10.out.2 h4];exact HME.out)]);clear h4 H10 HTK HME hll;go_wp2;go_ret;exact⟨ret_i56 HK.out.symm,HB.out⟩
      ·have q4:(c == 10)=false:=beq_false_of_ne h4;have HN:Hid ((10:UInt8) ∉ l.take (k+1)):=hid (by
        rw[HTK.out];intro hm;rcases List.mem_append.1 hm with h | h
        ·exact HT.out h
        ·exact h4 (H10.out.1 (List.mem_singleton.1 h).symm))
       clear h4 H10 HTK HME hll;go_wp2
       go_round
       case rel=>exact⟨k+1,HLT.out,(by first | rfl | (rw[hwk];rfl)),HN⟩
       case measure=>(try rw[hwk]);exact meas_step5b HLT.out
     ·obtain rfl:k=s.size:=by omega
      have HK:Hid (r=0):=hid (by rw[HR.out,if_neg (by rw[HK1.out];simp),if_neg (by rw[HK2.out];simp),HW.out,if_neg (by decide),if_neg (by have:=HT.out;rw[← HLN.out,List.take_length] at this;exact this)]);clear HT;go_wp2;go_ret;exact⟨ret_i56 HK.out.symm,HB.out⟩
   ·have q3:(ev != 15)=true:=bne_iff_ne.2 k3;have HW:Hid (wf=true):=hid (by
     cases hx:wf
     ·exact absurd (HEV.out.2 hx) k3
     ·rfl)
    have hln:0 < l.length:=wolf_len (by rw[← HWF.out];exact HW.out);have h0:0 < s.size:=by rw[← HLN.out];exact hln
    have hpre:=hasP_head (c:=87) hln;have e0:l.headD 0=s[0]:=by
     rw[← HGB.out 0 h0 hln];cases l with
     | nil=>simp at hln
     | cons a r=>rfl
    obtain⟨c0,hc0⟩:∃ c0:Int,c0=(s[0]'h0).toNat:=⟨_,rfl⟩
    have hcc:((s[0]'h0).toNat:Int)=c0:=hc0.symm;have hhd:l.headD 0=87 ↔ c0=87:=by
     rw[e0,hc0];constructor
     ·intro e;rw[e];rfl
     ·intro e;exact UInt8.toNat_inj.1 (by have:(87:UInt8).toNat=87:=rfl;omega)
    have HPR:=hid hpre;have HHD:=hid hhd;clear k3 hpre hhd e0 hc0 hln;by_cases k4:c0=87
    ·have q4:(c0 == 87)=true:=by rw[k4];rfl
     have HK:Hid (r=3):=hid (by rw[HR.out,if_neg (by rw[HK1.out];simp),if_neg (by rw[HK2.out];simp),if_pos HW.out,if_pos (by rw[HPR.out,HHD.out.2 k4];rfl)]);clear k4;go_wp2;go_ret;exact⟨ret_i56 HK.out.symm,HB.out⟩
    ·have q4:(c0 == 87)=false:=beq_false_of_ne k4;have HK:Hid (r=4):=hid (by rw[HR.out,if_neg (by rw[HK1.out];simp),if_neg (by rw[HK2.out];simp),if_pos HW.out,if_neg (by rw[HPR.out,beq_false_of_ne (fun e=>k4 (HHD.out.1 e))];decide)]);clear k4;go_wp2;go_ret;exact⟨ret_i56 HK.out.symm,HB.out⟩
  ·have q2:(e2 != 15)=true:=bne_iff_ne.2 k2;have HK:Hid (r=2):=hid (by rw[HR.out,if_neg (by rw[HK1.out];simp),if_pos k2]);clear k2;go_wp2;go_ret;exact⟨ret_i56 HK.out.symm,HB.out⟩
 ·have q1:(e1 != 15)=true:=bne_iff_ne.2 k1;have HK:Hid (r=1):=hid (by rw[HR.out,if_pos k1]);clear k1;go_wp2;go_ret;exact⟨ret_i56 HK.out.symm,HB.out⟩
end Go.Proofs.YtcfelnhmifkelaaGreatDoor
namespace Go.Proofs.YtcfelnhmifkelaaGreatDoor
open Go.RowKit
set_option maxRecDepth 100000
set_option linter.unusedVariables false
set_option linter.unusedSimpArgs false
def okC (c:UInt8):Bool:=isDig c || [47,66,67,72,83,84,86,87].contains c
theorem okC_dig {c:UInt8}(h:isDig c=true):okC c=true:=by unfold okC;rw[h];rfl
theorem all_dig {l:List UInt8}(h:l.all isDig=true):l.all okC=true:=by
 rw[List.all_eq_true] at h ⊢;exact fun x hx=>okC_dig (h x hx)
theorem all_suffix {l:List UInt8}{x:UInt8}(hs:Lib.hasSuffix l [x]=true)(hx:okC x=true)(h:(Lib.trimSuffix l [x]).all okC=true):l.all okC=true:=by
 unfold Lib.trimSuffix at h;rw[if_pos hs] at h;unfold Lib.hasSuffix at hs;obtain⟨t,rfl⟩:=List.isSuffixOf_iff_suffix.1 hs;rw[List.length_append,Nat.add_sub_cancel,List.take_left] at h;rw[List.all_append,h,List.all_cons,hx];rfl
theorem all_prefix {l:List UInt8}{x:UInt8}(hs:Lib.hasPrefix l [x]=true)(hx:okC x=true)(h:(Lib.trimPrefix l [x]).all okC=true):l.all okC=true:=by
 unfold Lib.trimPrefix at h;rw[if_pos hs] at h;unfold Lib.hasPrefix at hs;obtain⟨t,rfl⟩:=List.isPrefixOf_iff_prefix.1 hs;rw[show ([x] ++ t).drop [x].length=t from rfl] at h;rw[List.all_append,h,List.all_cons,hx];rfl
theorem cut_join {a sep:List UInt8}(h:(Lib.cut a sep).2.2=true):a=(Lib.cut a sep).1 ++ sep ++ (Lib.cut a sep).2.1:=by
 unfold Lib.cut at h ⊢;by_cases h0:0≤Lib.index a sep
 ·rw[if_pos h0];rcases Lib.index_spec a sep with ⟨h1,-⟩ | ⟨i,h1,h2,h3,-⟩
  ·omega
  ·rw[h1,Int.toNat_natCast];unfold Lib.occAt at h3;obtain⟨t,ht⟩:=List.isPrefixOf_iff_prefix.1 h3;dsimp only;rw[← List.drop_drop,← ht,List.drop_left,List.append_assoc,ht,List.take_append_drop]
 ·rw[if_neg h0] at h;cases h
theorem cut_all {a sep:List UInt8}(h:(Lib.cut a sep).2.2=true) (hs:sep.all okC=true)(h1:(Lib.cut a sep).1.all okC=true) (h2:(Lib.cut a sep).2.1.all okC=true):a.all okC=true:=by
 rw[cut_join h,List.all_append,List.all_append,h1,hs,h2];rfl
theorem digL_all {l:List UInt8}(h:(digL l).2=true):l.all okC=true:=by
 unfold digL at h
 split at h
 ·rename_i hd;exact all_dig hd
 ·cases h
theorem numeral_ok {l:List UInt8}(h:numeralB l=true):l.all okC=true:=all_dig (numeral_all h)
theorem clean8 {l:List UInt8}(h:(parseL8 l).2≠15):l.all okC=true:=by
 unfold parseL8 at h;by_cases h1:startB8 l=true
 ·rw[if_pos h1] at h;by_cases h2:(cut3 (restB8 l)).2.2=true
  ·rw[if_pos h2] at h;unfold endP at h;by_cases h3:(digL (cut3 (restB8 l)).1).2=true
   ·rw[if_pos h3] at h;by_cases h4:(digL (hoodP8 (cut3 (restB8 l)).2.1).1).2=true
    ·refine all_prefix h1 (by decide) ?_;refine cut_all (sep:=[47,83]) h2 (by decide) (digL_all h3) ?_;have h5:=digL_all h4;unfold hoodP8 at h5
     split at h5
     ·rename_i hv;exact all_suffix hv (by decide) h5
     ·split at h5
      ·rename_i hv;exact all_suffix hv (by decide) h5
      ·exact h5
    ·rw[if_neg h4] at h;exact absurd rfl h
   ·rw[if_neg h3] at h;exact absurd rfl h
  ·rw[if_neg h2] at h;exact absurd rfl h
 ·rw[if_neg h1] at h;exact absurd rfl h
theorem cleanW {l:List UInt8}(h:wolfF l=true):l.all okC=true:=by
 unfold wolfF at h
 split at h
 ·rename_i hw;exact all_prefix hw (by decide) (numeral_ok h)
 ·simp only[Bool.and_eq_true] at h;exact all_prefix h.1.1.1 (by decide) (cut_all h.1.1.2 (by decide) (numeral_ok h.1.2) (numeral_ok h.2))
theorem digAsc_all:∀ (l:List UInt8)(last:Int),(digAsc9 last l).length=l.length→l.all isDig=true
 | [],_,_=>rfl
 | c :: l,last,h=>by
  unfold digAsc9 at h
  split at h
  ·rename_i hc;rw[Bool.and_eq_true] at hc;rw[List.all_cons,digAsc_all l _ (by simpa using h),Bool.and_true];exact hc.1
  ·simp at h
theorem digG_all {l:List UInt8}(h:(digG l).2=true):l.all okC=true:=by
 unfold digG at h
 split at h
 ·rename_i hd;exact all_dig (digAsc_all l _ hd)
 ·cases h
theorem numG_ok {l:List UInt8}(h:numG l=true):l.all okC=true:=by
 unfold numG at h;simp only[Bool.and_eq_true] at h;exact all_dig h.1.1.1
theorem all_three {a b c:List UInt8}(ha:a.all okC=true)(hb:b.all okC=true)(hc:c.all okC=true):(a ++ 47 :: (b ++ 47 :: c)).all okC=true:=by
 rw[List.all_append,List.all_cons,List.all_append,List.all_cons,ha,hb,hc];rfl
theorem clean9 {l:List UInt8}(h:(parseG l).2≠15):l.all okC=true:=by
 have hm:(hoodP9 l).1.all okC=true:=by
  unfold parseG at h;obtain⟨m,hmm⟩:∃ m,m=(hoodP9 l).1:=⟨_,rfl⟩
  rw[← hmm] at h ⊢;by_cases hc:m.count 47=2
  ·obtain⟨a,b,c,e,h1,h2,h3⟩:=three_of hc;rw[e,parts_three h1 h2 h3] at h;rw[e];unfold form3 at h;by_cases hB:startB9 (a ++ 47 :: (b ++ 47 :: c))=true
   ·rw[if_pos hB] at h;by_cases hS:startS b=true
    ·rw[if_pos hS] at h;by_cases hC:startC c=true
     ·rw[if_pos hC] at h;unfold partG endG at h;dsimp only at h;by_cases k1:(digG (a.drop 1)).2=true
      ·rw[if_pos k1] at h;by_cases k2:(digG (restS b)).2=true
       ·rw[if_pos k2] at h;by_cases k3:numG (restC c)=true
        ·obtain⟨a',ea,-⟩:=startB_cons hB;refine all_three ?_ (all_prefix hS (by decide) (digG_all k2)) (all_prefix hC (by decide) (numG_ok k3));rw[ea] at k1 ⊢;have:=digG_all k1;rw[show (66 :: a':List UInt8).drop 1=a' from rfl] at this;rw[List.all_cons,this];rfl
        ·rw[if_neg k3] at h;exact absurd rfl h
       ·rw[if_neg k2] at h;exact absurd rfl h
      ·rw[if_neg k1] at h;exact absurd rfl h
     ·rw[if_neg hC] at h;exact absurd rfl h
    ·rw[if_neg hS] at h;exact absurd rfl h
   ·rw[if_neg hB] at h;unfold partG endG at h;dsimp only at h;by_cases k1:(digG b).2=true
    ·rw[if_pos k1] at h;by_cases k2:(digG a).2=true
     ·rw[if_pos k2] at h;by_cases k3:numG c=true
      ·exact all_three (digG_all k2) (digG_all k1) (numG_ok k3)
      ·rw[if_neg k3] at h;exact absurd rfl h
     ·rw[if_neg k2] at h;exact absurd rfl h
    ·rw[if_neg k1] at h;exact absurd rfl h
  ·rw[parts_none hc] at h;exact absurd rfl h
 unfold hoodP9 at hm
 split at hm
 ·rename_i hv;exact all_suffix hv (by decide) hm
 ·split at hm
  ·rename_i hv;exact all_suffix hv (by decide) hm
  ·exact hm
def ruleV (l:List UInt8):Bool:=decide (1≤kindP l) && decide (kindP l≤4)
theorem ruleV_clean {l:List UInt8}(h:ruleV l=true):l.all okC=true:=by
 unfold ruleV kindP at h;by_cases h1:(parseL8 l).2≠15
 ·exact clean8 h1
 ·rw[if_neg h1] at h;by_cases h2:(parseG l).2≠15
  ·exact clean9 h2
  ·rw[if_neg h2] at h;by_cases h3:wolfF l=true
   ·exact cleanW h3
   ·rw[if_neg h3] at h;by_cases h4:(10:UInt8) ∈ l
    ·rw[if_pos h4] at h;exact absurd h (by decide)
    ·rw[if_neg h4] at h;exact absurd h (by decide)
theorem ok_ascii (c:UInt8)(h:okC c=true):c.toNat < 128∧c≠32∧c≠10∧c≠35:=by
 have hh:∀ n:Fin 256,okC (UInt8.ofNat n.1)=true→(UInt8.ofNat n.1).toNat < 128∧UInt8.ofNat n.1≠32∧UInt8.ofNat n.1≠10∧UInt8.ofNat n.1≠35:=by decide
 have:=hh ⟨c.toNat,c.toNat_lt⟩;rw[UInt8.ofNat_toNat] at this;exact this h
end Go.Proofs.YtcfelnhmifkelaaGreatDoor
namespace Go.Proofs.YtcfelnhmifkelaaGreatDoor
open Lib(hid)
open Go.RowKit
set_option maxRecDepth 100000
set_option linter.unusedVariables false
set_option linter.unusedSimpArgs false
theorem noAny:∀ {l:List UInt8},l.all okC=true→Lib.indexAny l [32,10] = -1
 | [],_=>rfl
 | c :: l,h=>by
  rw[List.all_cons,Bool.and_eq_true] at h;obtain⟨-,h1,h2,-⟩:=ok_ascii c h.1;rw[Lib.indexAny,noAny h.2];have:([32,10]:List UInt8).contains c=false:=by simp[h1,h2]
  rw[this];rfl
theorem noHash {l:List UInt8}(h:l.all okC=true):Lib.hasPrefix l [35]=false:=by
 cases l with
 | nil=>rfl
 | cons a r=>
  rw[List.all_cons,Bool.and_eq_true] at h;obtain⟨-,-,-,h3⟩:=ok_ascii a h.1;rw[hasP_cons];exact beq_false_of_ne (fun e=>h3 e.symm)
set_option maxHeartbeats 4000000 in
theorem isRule_any (s:ByteArray)(w:World)(hg:GCell w)(he:ErrV w)(hs:s.data.toList.length≤2147483648):Calls Tryz.prog 42 #[.string s] w fun e w'=>e=.returned (.bool (ruleV s.data.toList))∧Below w.heap.size w w':=by
 have hk:=kind_any s w hg he hs;have h6:s.data.toList.length=s.data.size:=Array.length_toList;have hsz:s.size < 4294967281:=by show s.data.size < _;omega
 obtain⟨l,hl⟩:∃ l,l=s.data.toList:=⟨_,rfl⟩
 rw[← hl] at hk ⊢;obtain⟨r,hr⟩:∃ r,r=ruleV l:=⟨_,rfl⟩
 obtain⟨k,hkk⟩:∃ k,k=kindP l:=⟨_,rfl⟩
 rw[← hr];rw[← hkk] at hk;have HR:Hid (r=(decide (1≤k) && decide (k≤4))):=hid (by rw[hr,hkk];rfl);have HRV:=hid hr;have HK:=hid hk;have HL:=hid hl;clear hk hl hr hkk h6 hg he hs;by_cases h1:1≤k
 ·have d1:decide (1≤k)=true:=decide_eq_true h1;by_cases h4:k≤4
  ·have d4:decide (k≤4)=true:=decide_eq_true h4;have HT:Hid (r=true):=hid (by rw[HR.out,d1,d4];rfl);have hcl:=ruleV_clean (l:=l) (by rw[← HRV.out];exact HT.out);have hca:=fun W=>Tryz.strings_ContainsAny_laid s ⟨#[32,10]⟩ W hsz (by decide) (fun j b hb=>by
    rw[← HL.out] at hb;exact (ok_ascii b (List.all_eq_true.1 hcl b (List.mem_of_getElem? hb))).1) (fun j b hb=>by
    have hm:=List.mem_of_getElem? hb;simp at hm;rcases hm with rfl | rfl <;> decide)
   rw[← HL.out] at hca;have hcf:Lib.containsAny l (⟨#[32,10]⟩:ByteArray).data.toList=false:=by
    show Lib.containsAny l [32,10]=false;unfold Lib.containsAny;rw[noAny hcl];rfl
   rw[hcf] at hca;have hpf:=fun W=>(Tryz.strings_HasPrefix s ⟨#[35]⟩ W).mono (fun e w' h=>(⟨h.1,h.2.symm⟩:_∧W=w'));rw[← HL.out,show Lib.hasPrefix l (⟨#[35]⟩:ByteArray).data.toList=false from noHash hcl] at hpf;have HCA:=hid hca;have HPF:=hid hpf;clear hca hpf hcf hcl h1 h4;go_enter Tryz.func42,Tryz.ntmps42;go_wp2_with (go_at_call 87;refine HK.out.mono ?_;intro e w1 hx;obtain⟨rfl,hb1⟩:=hx;refine Hid.out ?_);refine hid ?_;have HB1:=hid hb1;clear hb1 HK;go_wp2_with (go_at_call 88;refine (HCA.out w1).mono ?_;intro e w2 hx;obtain⟨rfl,hb2⟩:=hx;refine Hid.out ?_);refine hid ?_;have HB2:=hid (HB1.out.trans (hb2.mono HB1.out.size));clear hb2 HCA;go_wp2_with (go_at_call 65;refine (HPF.out w2).mono ?_;rintro e w3 ⟨rfl,rfl⟩;refine Hid.out ?_);refine hid ?_;clear HPF;go_wp2;go_ret;exact⟨ret_b56 HT.out.symm,HB2.out⟩
  ·have d4:decide (k≤4)=false:=decide_eq_false h4;have HT:Hid (r=false):=hid (by rw[HR.out,d4,Bool.and_false]);clear h1 h4;go_enter Tryz.func42,Tryz.ntmps42;go_wp2_with (go_at_call 87;refine HK.out.mono ?_;intro e w1 hx;obtain⟨rfl,hb1⟩:=hx;refine Hid.out ?_);refine hid ?_;have HB1:=hid hb1;clear hb1 HK;go_wp2;go_ret;exact⟨ret_b56 HT.out.symm,HB1.out⟩
 ·have d1:decide (1≤k)=false:=decide_eq_false h1;have HT:Hid (r=false):=hid (by rw[HR.out,d1];rfl);clear h1;go_enter Tryz.func42,Tryz.ntmps42;go_wp2_with (go_at_call 87;refine HK.out.mono ?_;intro e w1 hx;obtain⟨rfl,hb1⟩:=hx;refine Hid.out ?_);refine hid ?_;have HB1:=hid hb1;clear hb1 HK;go_wp2;go_ret;exact⟨ret_b56 HT.out.symm,HB1.out⟩
set_option maxHeartbeats 4000000 in
theorem rrule_any (s:ByteArray)(w:World)(hs:s.data.toList.length≤2147483648):Calls Tryz.prog 46 #[.string s] w fun e w'=>e=.returned (.bool (ruleV s.data.toList))∧Below w.heap.size w w':=by
 have hk:=rkind_any s w hs;obtain⟨l,hl⟩:∃ l,l=s.data.toList:=⟨_,rfl⟩
 rw[← hl] at hk ⊢;obtain⟨r,hr⟩:∃ r,r=ruleV l:=⟨_,rfl⟩
 obtain⟨k,hkk⟩:∃ k,k=kindP l:=⟨_,rfl⟩
 rw[← hr];rw[← hkk] at hk;have HR:Hid (r=(decide (1≤k) && decide (k≤4))):=hid (by rw[hr,hkk];rfl);have HK:=hid hk;clear hk hl hr hkk hs;by_cases h1:1≤k
 ·have d1:decide (1≤k)=true:=decide_eq_true h1;have HT:Hid (r=decide (k≤4)):=hid (by rw[HR.out,d1];rfl);obtain⟨b4,hb4⟩:∃ b,b=decide (k≤4):=⟨_,rfl⟩
  have d4:decide (k≤4)=b4:=hb4.symm;have HD:=hid d4;clear hb4 h1;go_enter Tryz.func46,Tryz.ntmps46;go_wp2_with (go_at_call 92;refine HK.out.mono ?_;intro e w1 hx;obtain⟨rfl,hb1⟩:=hx;refine Hid.out ?_);refine hid ?_;have HB1:=hid hb1;clear hb1 HK;go_wp2;go_ret;exact⟨ret_b56 (HD.out.symm.trans HT.out.symm),HB1.out⟩
 ·have d1:decide (1≤k)=false:=decide_eq_false h1;have HT:Hid (r=false):=hid (by rw[HR.out,d1];rfl);clear h1;go_enter Tryz.func46,Tryz.ntmps46;go_wp2_with (go_at_call 92;refine HK.out.mono ?_;intro e w1 hx;obtain⟨rfl,hb1⟩:=hx;refine Hid.out ?_);refine hid ?_;have HB1:=hid hb1;clear hb1 HK;go_wp2;go_ret;exact⟨ret_b56 HT.out.symm,HB1.out⟩
end Go.Proofs.YtcfelnhmifkelaaGreatDoor
namespace Go.Proofs.YtcfelnhmifkelaaGreatDoor
open Go.RowKit
set_option maxRecDepth 100000
set_option linter.unusedVariables false
set_option linter.unusedSimpArgs false
def Sts (w:World)(A:Option Addr)(bs:List ByteArray):Prop:=Reads w w.heap.size 1 A bs.length (bs.map Value.string)∧bs.length≤9223372036854775807
section
variable {w w' : World} {A : Option Addr} {bs : List ByteArray}
theorem Sts.at_ {k:Nat}(h:Sts w A bs)(hk:k < bs.length):∃ b o,A=some ⟨b,o,none⟩∧b < w.heap.size∧w.cell? ⟨b,o+k,none⟩=some (.string bs[k]):=by
 obtain⟨ad,e,hb,hc⟩:=h.1.2 (by omega);have h0:=hc 0 (.string bs[0]) (by simp);have hk':=hc k (.string bs[k]) (by simp[List.getElem?_eq_getElem hk]);obtain⟨b,o,sp⟩:=ad;obtain rfl:=spot_none h0;rw[addr_add] at hk';exact⟨b,o,e,hb,hk'⟩
theorem Sts.ext (h:Sts w A bs)(hb:Below w.heap.size w w'):Sts w' A bs:=⟨(Reads.below h.1 hb).more hb.size,h.2⟩
theorem Sts.nil:Sts w A []:=⟨Reads.none_,by simp⟩
end
def OwnS (T:TypeId)(w:World)(base:Nat)(v:Value)(bs:List ByteArray):Prop:=w.ownsRow base T 1 v bs.length (bs.map Value.string)
theorem OwnS.sts {T:TypeId}{w:World}{base:Nat}{v:Value}{bs:List ByteArray}(h:OwnS T w base v bs):∃ A c,v=.slice A bs.length c∧Sts w A bs∧NewA base A:=own_form h
theorem OwnS.nil (T:TypeId)(w:World)(base:Nat):OwnS T w base (.slice none 0 0) []:=World.ownsRow_nil _ _ _ _
theorem OwnS.ext {T:TypeId}{w w':World}{base:Nat}{v:Value}{bs:List ByteArray}(h:OwnS T w base v bs)(hb:Below w.heap.size w w'):OwnS T w' base v bs:=own_below h hb
end Go.Proofs.YtcfelnhmifkelaaGreatDoor
