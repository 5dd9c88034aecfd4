/-
  texts Val56 Nam56 Nbr56 Wolf: parts of the proof; conditions stand with each theorem.
-/
import Derived.Test.YtcfelnhmifkelaaGreatDoorUG14
import Derived.Test.YtcfelnhmifkelaaGreatDoorUG7
import Derived.Test.YtcfelnhmifkelaaGreatDoorUG1
import Derived.Test.YtcfelnhmifkelaaGreatDoorUShelf
import Derived.Test.YtcfelnhmifkelaaGreatDoorUG10
namespace Go.Proofs.YtcfelnhmifkelaaGreatDoor
open Lib(hid)
open Go.RowKit
set_option maxRecDepth 100000
set_option linter.unusedVariables false
set_option linter.unusedSimpArgs false
theorem decFrom_digits:∀ (l:List UInt8)(acc:Nat),l.all isDig=true→Lib.decFrom acc l=some (l.foldl (fun n c=>10*n+digOf c) (acc:Int)).toNat∧0≤l.foldl (fun n c=>10*n+digOf c) (acc:Int)
 | [],acc,_=>⟨by simp[Lib.decFrom],by simp⟩
 | c :: l,acc,h=>by
  rw[List.all_cons,Bool.and_eq_true] at h;have hc:=h.1;unfold isDig at hc;simp only[Bool.and_eq_true,decide_eq_true_eq] at hc;have ih:=decFrom_digits l (acc*10+(c.toNat - 48)) h.2;have e:(((acc*10+(c.toNat - 48):Nat)):Int)=10*(acc:Int)+digOf c:=by unfold digOf;omega
  rw[e] at ih;rw[List.foldl_cons];refine⟨?_,ih.2⟩;rw[← ih.1];have hd:Lib.digitVal c=some (c.toNat - 48):=by unfold Lib.digitVal;rw[if_pos (by omega)]
  simp only[Lib.decFrom,hd]
theorem decNat_digits {l:List UInt8}(h:l.all isDig=true)(hn:1≤l.length):∃ m:Nat,Lib.decNat l=some m∧(m:Int)=numL l:=by
 obtain⟨h1,h2⟩:=decFrom_digits l 0 h;refine⟨(numL l).toNat,?_,Int.toNat_of_nonneg h2⟩;unfold Lib.decNat;rw[show l.isEmpty=false by cases l with | nil=>simp at hn | cons a l=>rfl];exact h1
theorem okW_parts {s:List UInt8}(h:okW s=true):(digsW s).all isDig=true∧1≤(digsW s).length∧(digsW s).length≤9∧¬ ((digsW s).headD 0=48∧s≠[48]):=by
 unfold okW at h;simp only[Bool.and_eq_true,decide_eq_true_eq,Bool.not_eq_true',Bool.and_eq_false_iff,beq_eq_false_iff_ne,decide_eq_false_iff_not] at h;exact⟨h.1.1.1,h.1.1.2,h.1.2,fun hh=>h.2.elim (fun e=>e hh.1) (fun e=>e hh.2)⟩
theorem digsW_len (s:List UInt8):(digsW s).length≤s.length∧s.length≤(digsW s).length+1:=by
 unfold digsW
 split
 ·rw[List.length_tail];omega
 ·omega
theorem atoi_val {s:List UInt8}(h:okW s=true):Lib.atoi s=some (valW s).1:=by
 obtain⟨h1,h2,-,-⟩:=okW_parts h;obtain⟨m,hm,hv⟩:=decNat_digits h1 h2;unfold valW;rw[if_pos h];cases s with
 | nil=>simp[digsW,minusW] at h2
 | cons b r=>
  by_cases hb:b=45
  ·subst hb;have e1:minusW (45 :: r)=true:=rfl;have e2:digsW (45 :: r)=r:=rfl;rw[e2] at hm hv;rw[if_pos e1,e2];simp only[Lib.atoi,beq_self_eq_true,if_true,hm,Option.map_some,hv]
  ·have e1:minusW (b :: r)=false:=by unfold minusW;simpa using hb
   have e2:digsW (b :: r)=b :: r:=by unfold digsW;rw[e1];rfl
   rw[e2] at hm hv h1;rw[e1,e2];have hd:isDig b=true:=by rw[List.all_cons,Bool.and_eq_true] at h1;exact h1.1
   have hb2:(b == 45)=false:=by simpa using hb
   have hb3:(b == 43)=false:=by
    cases hx:b == 43
    ·rfl
    ·rw[eq_of_beq hx] at hd;exact absurd hd (by decide)
   simp only[Lib.atoi,hb2,hb3,Bool.false_eq_true,if_false,hm,Option.map_some,hv]
theorem trim_minus (s:List UInt8):Lib.trimPrefix s [45]=digsW s:=by
 cases s with
 | nil=>rfl
 | cons b r=>
  unfold Lib.trimPrefix digsW minusW Lib.hasPrefix;by_cases hb:b=45
  ·subst hb;simp
  ·simp[hb,Ne.symm hb]
theorem meas_step5b {n k:Nat}(h:k < n):n - (intOf (.int .i64 ((k:Int)+1))).toNat < n - (intOf (.int .i64 (k:Int))).toNat:=by
 show n - ((k:Int)+1).toNat < n - (k:Int).toNat;omega
theorem below_bytes56 (w:World)(e:TypeId)(t:ByteArray):Below w.heap.size w (Lib.bytesWorld w e t):=
 ⟨rfl,rfl,rfl,by rw[Lib.bytesWorld_size];omega,fun j hj=>Lib.bytesWorld_at_old w e t j hj⟩
theorem valW_no {s:List UInt8}(h:okW s=false):valW s=(0,false):=by unfold valW;rw[h];rfl
theorem all_snoc56 {l:List UInt8}{k:Nat}(hk:k < l.length)(h:(l.take k).all isDig=true) (hb:isDig l[k]=true):(l.take (k+1)).all isDig=true:=by
 rw[List.take_succ_eq_append_getElem hk,List.all_append,h];simp[hb]
theorem all_bad56 {l:List UInt8}{k:Nat}(hk:k < l.length)(hb:isDig l[k]=false):l.all isDig=false:=by
 cases h:l.all isDig
 ·rfl
 ·rw[List.all_eq_true] at h;rw[h _ (List.getElem_mem hk)] at hb;cases hb
theorem ret_ib {b:Int × Bool}{x:Int}{y:Bool}(h:b=(x,y)):Ending.returned (.tuple #[.int .i64 x,.bool y])=.returned (.tuple #[.int .i64 b.1,.bool b.2]):=by rw[h]
theorem str_eq56 (s:ByteArray)(l:List UInt8):(s.toList == l)=decide (s.data.toList=l):=by
 rw[ByteArray.toList_eq];by_cases h:s.data.toList=l
 ·rw[h,decide_eq_true rfl];simp
 ·rw[decide_eq_false h];simpa using h
set_option maxHeartbeats 4000000 in
theorem value_any (s:ByteArray)(w:World)(hs:s.data.toList.length≤2147483648) :
  Calls Tryz.prog 66 #[.string s] w fun e w'=>e=.returned (.tuple #[.int .i64 (valW s.data.toList).1,.bool (valW s.data.toList).2])∧Below w.heap.size w w':=by
 obtain⟨ls,hls⟩:∃ ls,ls=s.data.toList:=⟨_,rfl⟩
 obtain⟨l,hl⟩:∃ l,l=digsW ls:=⟨_,rfl⟩
 have hTP:=(Tryz.strings_TrimPrefix s ⟨#[45]⟩ w).mono (fun e w' h=>(⟨h.1,h.2.symm⟩:_∧w=w'));rw[show (⟨#[45]⟩:ByteArray).data.toList=[45] from rfl,trim_minus,← hls,← hl] at hTP;have HTP:=hid hTP;have hlen:=digsW_len ls;rw[← hl,hls] at hlen;obtain⟨cap,W,hcv,hbW,hsz,hcells⟩:=bytes_conv ⟨l.toArray⟩ w;rw[show (⟨l.toArray⟩:ByteArray).data.toList=l by simp] at hcv hcells;obtain⟨b,hb⟩:∃ b,b=valW ls:=⟨_,rfl⟩
 rw[← hls,← hb];have HB:=hid hb;have HL:=hid hl;have HLS:=hid hls;have HLN:=hid hlen;have HC:=hid hcells;have hl31:l.length≤2147483648:=by omega
 clear hTP hcells hl hls hb hlen hs;go_enter Tryz.func66,Tryz.ntmps66;go_wp2_with (go_at_call 102;refine HTP.out.mono ?_;rintro e w1 ⟨rfl,rfl⟩;refine Hid.out ?_);refine hid ?_;clear HTP;go_wp2;go_loopw [14] (fun i wr=>∃ k:Nat,k≤l.length∧i=.int .i64 k∧wr=W∧Hid ((l.take k).all isDig=true)) (fun i _=>l.length - (intOf i).toNat)
 case atStart=>exact⟨0,Nat.zero_le _,rfl,rfl,hid rfl⟩
 case round=>
  obtain⟨k,hk,rfl,hw,HT⟩:=hrel;have hw2:=hw.symm;clear hw;subst hw2;by_cases hlt:k < l.length
  ·have hc:=HC.out k hlt;have hc0:(l[k].toNat:Int)≤255:=by have:=l[k].toNat_lt;omega
   cases hd:isDig l[k]
   ·have HN:Hid (b=(0,false)):=hid (by rw[HB.out,valW_no];unfold okW;rw[← HL.out,all_bad56 hlt hd];rfl);by_cases h1:(l[k].toNat:Int) < 48
    ·clear hd;go_wp2;go_ret2;exact⟨ret_ib HN.out,hbW⟩
    ·have h2:(57:Int) < l[k].toNat:=by
      unfold isDig at hd;rw[decide_eq_true (by omega)] at hd;simpa using hd
     clear hd;go_wp2;go_ret2;exact⟨ret_ib HN.out,hbW⟩
   ·have hall:=hid (all_snoc56 hlt HT.out hd);obtain⟨h1,h2⟩:48≤(l[k].toNat:Int)∧(l[k].toNat:Int)≤57:=by simpa [isDig] using hd
    clear hd;go_wp2;go_roundw
    case rel=>exact⟨k+1,by omega,by go_num,(by first | rfl | trivial),hall⟩
    case measure=>simp[intOf];omega
  ·obtain rfl:k=l.length:=by omega
   have HA:Hid (l.all isDig=true):=hid (by have:=HT.out;rwa [List.take_length] at this);clear HT;by_cases h1:1≤l.length
   ·by_cases h2:l.length≤9
    ·have hz0:0 < l.length:=h1;have e0:∀ h:0 < (⟨l.toArray⟩:ByteArray).size,(⟨l.toArray⟩:ByteArray)[0]'h=l.headD 0:=fun h=>by
      cases l with
      | nil=>simp at h1
      | cons a r=>rfl
     have hs9:s.size≤18:=by have h5:=HLN.out;have h6:s.data.toList.length=s.data.size:=Array.length_toList;show s.data.size≤18;omega
     obtain⟨ok,hok⟩:∃ ok,ok=okW ls:=⟨_,rfl⟩
     have HOK:Hid (ok = !((l.headD 0 == 48) && decide (ls≠[48]))):=hid (by rw[hok];unfold okW;rw[← HL.out,HA.out,decide_eq_true h1,decide_eq_true h2];rfl);have HOW:=hid hok;clear hok;by_cases hA:l.headD 0=48
     ·have dA:∀ h:0 < (⟨l.toArray⟩:ByteArray).size,(((⟨l.toArray⟩:ByteArray)[0]'h).toNat:Int)=48:=fun h=>by rw[e0 h,hA];rfl
      by_cases hB:ls=[48]
      ·have dB:(s.toList == [48])=true:=by rw[str_eq56,← HLS.out];exact decide_eq_true hB
       have HK:Hid (okW ls=true):=hid (by rw[← HOW.out,HOK.out,decide_eq_false (by simpa using hB)];simp);clear e0 hA hB hz0;have HAT:Hid (Lib.atoi s.data.toList=some (valW ls).1):=hid (by rw[← HLS.out];exact atoi_val HK.out);have HC2:=hid ((Tryz.strconv_Atoi s (valW ls).1 hs9 HAT.out W).mono (fun e w' h=>(⟨h.1,by obtain⟨t,e2⟩:=h.2;rw[e2];exact below_bytes56 _ _ _⟩:_∧Below W.heap.size W w')));have HV:Hid (b=((valW ls).1,true)):=hid (by rw[HB.out];unfold valW;rw[if_pos HK.out]);go_wp2_with (go_at_call 103;refine HC2.out.mono ?_;intro e w2 hx;obtain⟨rfl,hb2⟩:=hx;refine Hid.out ?_);refine hid ?_;have HB2:=hid (hbW.trans (hb2.mono hbW.size));clear hb2 HC2 hcv hbW hsz;go_upto_region 11 with fail
       go_quiet (fail)
       go_wp2;go_ret2;exact⟨ret_ib HV.out,below_drewN HB2.out _⟩
      ·have dB:(s.toList == [48])=false:=by rw[str_eq56,← HLS.out];exact decide_eq_false hB
       have HN:Hid (b=(0,false)):=hid (by rw[HB.out,valW_no];rw[← HOW.out,HOK.out,hA,decide_eq_true hB];rfl);clear e0 hA hB hz0;go_wp2;go_ret2;exact⟨ret_ib HN.out,hbW⟩
     ·have dA:∀ h:0 < (⟨l.toArray⟩:ByteArray).size,((((⟨l.toArray⟩:ByteArray)[0]'h).toNat:Int) == 48)=false:=fun h=>by
       rw[e0 h];refine beq_false_of_ne fun e=>hA (UInt8.toNat_inj.1 ?_);have:(48:UInt8).toNat=48:=rfl;omega
      have HK:Hid (okW ls=true):=hid (by rw[← HOW.out,HOK.out,beq_false_of_ne hA];rfl);clear e0 hA hz0;have HAT:Hid (Lib.atoi s.data.toList=some (valW ls).1):=hid (by rw[← HLS.out];exact atoi_val HK.out);have HC2:=hid ((Tryz.strconv_Atoi s (valW ls).1 hs9 HAT.out W).mono (fun e w' h=>(⟨h.1,by obtain⟨t,e2⟩:=h.2;rw[e2];exact below_bytes56 _ _ _⟩:_∧Below W.heap.size W w')));have HV:Hid (b=((valW ls).1,true)):=hid (by rw[HB.out];unfold valW;rw[if_pos HK.out]);go_wp2_with (go_at_call 103;refine HC2.out.mono ?_;intro e w2 hx;obtain⟨rfl,hb2⟩:=hx;refine Hid.out ?_);refine hid ?_;have HB2:=hid (hbW.trans (hb2.mono hbW.size));clear hb2 HC2 hcv hbW hsz;go_upto_region 11 with fail
      go_quiet (fail)
      go_wp2;go_ret2;exact⟨ret_ib HV.out,below_drewN HB2.out _⟩
    ·have HN:Hid (b=(0,false)):=hid (by rw[HB.out,valW_no];unfold okW;rw[← HL.out,decide_eq_false h2];simp);go_wp2;go_ret2;exact⟨ret_ib HN.out,hbW⟩
   ·have HN:Hid (b=(0,false)):=hid (by rw[HB.out,valW_no];unfold okW;rw[← HL.out,decide_eq_false h1];simp);go_wp2;go_ret2;exact⟨ret_ib HN.out,hbW⟩
def ltrI (c:Int):Prop:=97≤c∧c≤122∨65≤c∧c≤90
def goodI (k:Nat)(c:Int):Prop:=ltrI c∨0 < k∧48≤c∧c≤57
theorem nm_good {k:Nat}{c:UInt8}:(letterB c || (decide (0 < k) && isDig c))=true ↔ goodI k (c.toNat:Int):=by
 unfold letterB isDig goodI ltrI;simp only[Bool.or_eq_true,Bool.and_eq_true,decide_eq_true_eq];omega
theorem nmTo_step {l:List UInt8}{k:Nat}(hk:k < l.length)(h:goodI k (l[k].toNat:Int)):nmTo k (l.drop k)=nmTo (k+1) (l.drop (k+1)):=by
 rw[List.drop_eq_getElem_cons hk,nmTo,nm_good.2 h,Bool.true_and]
theorem nmTo_bad {l:List UInt8}{k:Nat}(hk:k < l.length)(h:¬ goodI k (l[k].toNat:Int)):nmTo k (l.drop k)=false:=by
 rw[List.drop_eq_getElem_cons hk,nmTo,show (letterB l[k] || (decide (0 < k) && isDig l[k]))=false by
  cases hx:(letterB l[k] || (decide (0 < k) && isDig l[k]))
  ·rfl
  ·exact absurd (nm_good.1 hx) h,Bool.false_and]
theorem ret_b56 {a b:Bool}(h:a=b):Ending.returned (.bool a)=.returned (.bool b):=by rw[h]
set_option maxHeartbeats 8000000 in
theorem isName_any (s:ByteArray)(w:World)(hs:s.data.toList.length≤2147483648) :
  Calls Tryz.prog 43 #[.string s] w fun e w'=>e=.returned (.bool (nmW s.data.toList))∧Below w.heap.size w w':=by
 obtain⟨cap,W,hcv,hbW,hsz,hcells⟩:=bytes_conv s w;obtain⟨l,hl⟩:∃ l,l=s.data.toList:=⟨_,rfl⟩
 have hlen:l.length=s.size:=by rw[hl];rfl
 rw[← hl] at hcv hcells hs ⊢;obtain⟨r,hr⟩:∃ r,r=nmW l:=⟨_,rfl⟩
 rw[← hr];have HR:Hid (r=(nmTo 0 l && decide (1≤l.length) && decide (l.length≤20))):=hid hr;have HG:=hid hlen;have HC:=hid hcells;clear hcells hl hlen hr;go_enter Tryz.func43,Tryz.ntmps43;go_wp2;go_loopw [9] (fun i wr=>∃ k:Nat,k≤l.length∧i=.int .i64 k∧wr=W∧Hid (nmTo 0 l=nmTo k (l.drop k))) (fun i _=>l.length - (intOf i).toNat)
 case atStart=>exact⟨0,Nat.zero_le _,rfl,rfl,hid rfl⟩
 case round=>
  obtain⟨k,hk,rfl,hw,HT⟩:=hrel;have hw2:=hw.symm;clear hw;subst hw2;by_cases hlt:k < l.length
  ·have hc:=HC.out k hlt;have hc0:(l[k].toNat:Int)≤255:=by have:=l[k].toNat_lt;omega
   have HST:=hid (fun h=>nmTo_step hlt h);have HBD:=hid (fun h=>nmTo_bad hlt h);obtain⟨c,hcc⟩:∃ c:Int,c=(l[k]'hlt).toNat:=⟨_,rfl⟩
   rw[← hcc] at hc hc0 HST HBD;have HLT:=hid hlt;have hwk:wrap64 ((k:Int)+1)=(k:Int)+1:=by unfold wrap64;omega
   clear hcc hs;rcases Int.lt_or_le c 97 with a | a
   ·rcases Int.lt_or_le c 65 with b | b
    ·skip
     by_cases hk0:k=0
     ·have e0:((k:Int) == 0)=true:=by rw[hk0];rfl
      have HN:Hid (r=false):=hid (by rw[HR.out,HT.out,HBD.out (by unfold goodI ltrI;omega)];rfl);clear hk0;go_wp2;go_ret;exact⟨ret_b56 HN.out.symm,hbW⟩
     ·have e0:((k:Int) == 0)=false:=beq_false_of_ne (by omega);rcases Int.lt_or_le c 48 with x | x
      ·skip
       have HN:Hid (r=false):=hid (by rw[HR.out,HT.out,HBD.out (by unfold goodI ltrI;omega)];rfl);go_wp2;go_ret;exact⟨ret_b56 HN.out.symm,hbW⟩
      ·rcases Int.lt_or_le 57 c with y | y
       ·skip
        have HN:Hid (r=false):=hid (by rw[HR.out,HT.out,HBD.out (by unfold goodI ltrI;omega)];rfl);go_wp2;go_ret;exact⟨ret_b56 HN.out.symm,hbW⟩
       ·skip
        have HGI:Hid (goodI k c):=hid (by unfold goodI ltrI;omega);go_wp2;go_roundw
        case rel=>exact⟨k+1,HLT.out,(by first | rfl | (rw[hwk];rfl)),(by first | rfl | trivial),hid (HT.out.trans (HST.out HGI.out))⟩
        case measure=>(try rw[hwk]);exact meas_step5b HLT.out
    ·rcases Int.lt_or_le 90 c with b2 | b2
     ·have z2:decide (c≤90)=false:=decide_eq_false (by omega);by_cases hk0:k=0
      ·have e0:((k:Int) == 0)=true:=by rw[hk0];rfl
       have HN:Hid (r=false):=hid (by rw[HR.out,HT.out,HBD.out (by unfold goodI ltrI;omega)];rfl);clear hk0;go_wp2;go_ret;exact⟨ret_b56 HN.out.symm,hbW⟩
      ·have e0:((k:Int) == 0)=false:=beq_false_of_ne (by omega);have x:48≤c:=by omega
       have y:57 < c:=by omega
       have HN:Hid (r=false):=hid (by rw[HR.out,HT.out,HBD.out (by unfold goodI ltrI;omega)];rfl);go_wp2;go_ret;exact⟨ret_b56 HN.out.symm,hbW⟩
     ·have z2:decide (c≤90)=true:=decide_eq_true b2;have HGI:Hid (goodI k c):=hid (by unfold goodI ltrI;omega);go_wp2;go_roundw
      case rel=>exact⟨k+1,HLT.out,(by first | rfl | (rw[hwk];rfl)),(by first | rfl | trivial),hid (HT.out.trans (HST.out HGI.out))⟩
      case measure=>(try rw[hwk]);exact meas_step5b HLT.out
   ·rcases Int.lt_or_le 122 c with b | b
    ·have b1:65≤c:=by omega
     have b3:90 < c:=by omega
     have z1:decide (c≤122)=false:=decide_eq_false (by omega);have z2:decide (c≤90)=false:=decide_eq_false (by omega);by_cases hk0:k=0
     ·have e0:((k:Int) == 0)=true:=by rw[hk0];rfl
      have HN:Hid (r=false):=hid (by rw[HR.out,HT.out,HBD.out (by unfold goodI ltrI;omega)];rfl);clear hk0;go_wp2;go_ret;exact⟨ret_b56 HN.out.symm,hbW⟩
     ·have e0:((k:Int) == 0)=false:=beq_false_of_ne (by omega);have x:48≤c:=by omega
      have y:57 < c:=by omega
      have HN:Hid (r=false):=hid (by rw[HR.out,HT.out,HBD.out (by unfold goodI ltrI;omega)];rfl);go_wp2;go_ret;exact⟨ret_b56 HN.out.symm,hbW⟩
    ·have z1:decide (c≤122)=true:=decide_eq_true b;have HGI:Hid (goodI k c):=hid (by unfold goodI ltrI;omega);go_wp2;go_roundw
     case rel=>exact⟨k+1,HLT.out,(by first | rfl | (rw[hwk];rfl)),(by first | rfl | trivial),hid (HT.out.trans (HST.out HGI.out))⟩
     case measure=>(try rw[hwk]);exact meas_step5b HLT.out
  ·obtain rfl:k=l.length:=by omega
   have hall:nmTo 0 l=true:=by have:=HT.out;rw[List.drop_length] at this;rw[this];rfl
   have HA:=hid hall;clear hall HT;by_cases h1:1≤s.size
   ·by_cases h2:s.size≤20
    ·have HN:Hid (r=true):=hid (by rw[HR.out,HA.out,decide_eq_true (show 1≤l.length by rw[HG.out];exact h1),decide_eq_true (show l.length≤20 by rw[HG.out];exact h2)];rfl);have d1:decide (1≤(s.size:Int))=true:=decide_eq_true (by omega);have d2:decide ((s.size:Int)≤20)=true:=decide_eq_true (by omega);go_wp2;go_ret;exact⟨ret_b56 HN.out.symm,hbW⟩
    ·have HN:Hid (r=false):=hid (by rw[HR.out,decide_eq_false (show ¬ l.length≤20 by rw[HG.out];exact h2),Bool.and_false]);have d1:decide (1≤(s.size:Int))=true:=decide_eq_true (by omega);have d2:decide ((s.size:Int)≤20)=false:=decide_eq_false (by omega);go_wp2;go_ret;exact⟨(by simp only[d2];exact ret_b56 HN.out.symm),hbW⟩
   ·have HN:Hid (r=false):=hid (by rw[HR.out,decide_eq_false (show ¬ 1≤l.length by rw[HG.out];exact h1)];simp);have d1:decide (1≤(s.size:Int))=false:=decide_eq_false (by omega);go_wp2;go_ret;exact⟨ret_b56 HN.out.symm,hbW⟩
set_option maxHeartbeats 8000000 in
theorem rname_any (s:ByteArray)(w:World)(hs:s.data.toList.length≤2147483648) :
  Calls Tryz.prog 47 #[.string s] w fun e w'=>e=.returned (.bool (nmW s.data.toList))∧w'=w:=by
 obtain⟨l,hl⟩:∃ l,l=s.data.toList:=⟨_,rfl⟩
 have hlen:l.length=s.size:=by rw[hl];rfl
 have hgb:∀ j (h:j < s.size) (h':j < l.length),l[j]=s[j]:=by subst hl;exact get_byte s
 rw[← hl] at hs ⊢;obtain⟨r,hr⟩:∃ r,r=nmW l:=⟨_,rfl⟩
 rw[← hr];have HR:Hid (r=(nmTo 0 l && decide (1≤l.length) && decide (l.length≤20))):=hid hr;have HG:=hid hlen;have HGB:=hid hgb;have hs2:s.size≤2147483648:=by omega
 clear hl hlen hr hgb hs;go_enter Tryz.func47,Tryz.ntmps47;go_wp2
 go_loop [3] (fun i=>∃ k:Nat,k≤s.size∧i=.int .i64 k∧Hid (nmTo 0 l=nmTo k (l.drop k))) (fun i=>s.size - (intOf i).toNat)
 case atStart=>exact⟨0,Nat.zero_le _,rfl,hid rfl⟩
 case round=>
  obtain⟨k,hk,rfl,HT⟩:=hrel;by_cases hlt:k < s.size
  ·have hll:k < l.length:=by rw[HG.out];exact hlt
   have HST:=hid (fun h=>nmTo_step hll h);have HBD:=hid (fun h=>nmTo_bad hll h);have hq:=HGB.out k hlt hll;obtain⟨c,hcc⟩:∃ c:Int,c=(s[k]'hlt).toNat:=⟨_,rfl⟩
   rw[hq,← hcc] at HST HBD;have hc1:((s[k]'hlt).toNat:Int)=c:=hcc.symm;have hwk:wrap64 ((k:Int)+1)=(k:Int)+1:=by unfold wrap64;omega
   have HLT:=hid hlt;clear hcc hq hll;rcases Int.lt_or_le c 97 with a | a
   ·rcases Int.lt_or_le c 65 with b | b
    ·skip
     by_cases hk0:k=0
     ·have e0:((k:Int) == 0)=true:=by rw[hk0];rfl
      have HN:Hid (r=false):=hid (by rw[HR.out,HT.out,HBD.out (by unfold goodI ltrI;omega)];rfl);clear hk0;go_wp2;go_ret;exact⟨ret_b56 HN.out.symm,rfl⟩
     ·have e0:((k:Int) == 0)=false:=beq_false_of_ne (by omega);rcases Int.lt_or_le c 48 with x | x
      ·skip
       have HN:Hid (r=false):=hid (by rw[HR.out,HT.out,HBD.out (by unfold goodI ltrI;omega)];rfl);go_wp2;go_ret;exact⟨ret_b56 HN.out.symm,rfl⟩
      ·rcases Int.lt_or_le 57 c with y | y
       ·skip
        have HN:Hid (r=false):=hid (by rw[HR.out,HT.out,HBD.out (by unfold goodI ltrI;omega)];rfl);go_wp2;go_ret;exact⟨ret_b56 HN.out.symm,rfl⟩
       ·skip
        have HGI:Hid (goodI k c):=hid (by unfold goodI ltrI;omega);go_wp2
        go_round
        case rel=>exact⟨k+1,HLT.out,(by first | rfl | (rw[hwk];rfl)),hid (HT.out.trans (HST.out HGI.out))⟩
        case measure=>(try rw[hwk]);exact meas_step5b HLT.out
    ·rcases Int.lt_or_le 90 c with b2 | b2
     ·have z2:decide (c≤90)=false:=decide_eq_false (by omega);by_cases hk0:k=0
      ·have e0:((k:Int) == 0)=true:=by rw[hk0];rfl
       have HN:Hid (r=false):=hid (by rw[HR.out,HT.out,HBD.out (by unfold goodI ltrI;omega)];rfl);clear hk0;go_wp2;go_ret;exact⟨ret_b56 HN.out.symm,rfl⟩
      ·have e0:((k:Int) == 0)=false:=beq_false_of_ne (by omega);have x:48≤c:=by omega
       have y:57 < c:=by omega
       have HN:Hid (r=false):=hid (by rw[HR.out,HT.out,HBD.out (by unfold goodI ltrI;omega)];rfl);go_wp2;go_ret;exact⟨ret_b56 HN.out.symm,rfl⟩
     ·have z2:decide (c≤90)=true:=decide_eq_true b2;have HGI:Hid (goodI k c):=hid (by unfold goodI ltrI;omega);go_wp2
      go_round
      case rel=>exact⟨k+1,HLT.out,(by first | rfl | (rw[hwk];rfl)),hid (HT.out.trans (HST.out HGI.out))⟩
      case measure=>(try rw[hwk]);exact meas_step5b HLT.out
   ·rcases Int.lt_or_le 122 c with b | b
    ·have b1:65≤c:=by omega
     have b3:90 < c:=by omega
     have z1:decide (c≤122)=false:=decide_eq_false (by omega);have z2:decide (c≤90)=false:=decide_eq_false (by omega);by_cases hk0:k=0
     ·have e0:((k:Int) == 0)=true:=by rw[hk0];rfl
      have HN:Hid (r=false):=hid (by rw[HR.out,HT.out,HBD.out (by unfold goodI ltrI;omega)];rfl);clear hk0;go_wp2;go_ret;exact⟨ret_b56 HN.out.symm,rfl⟩
     ·have e0:((k:Int) == 0)=false:=beq_false_of_ne (by omega);have x:48≤c:=by omega
      have y:57 < c:=by omega
      have HN:Hid (r=false):=hid (by rw[HR.out,HT.out,HBD.out (by unfold goodI ltrI;omega)];rfl);go_wp2;go_ret;exact⟨ret_b56 HN.out.symm,rfl⟩
    ·have z1:decide (c≤122)=true:=decide_eq_true b;have HGI:Hid (goodI k c):=hid (by unfold goodI ltrI;omega);go_wp2
     go_round
     case rel=>exact⟨k+1,HLT.out,(by first | rfl | (rw[hwk];rfl)),hid (HT.out.trans (HST.out HGI.out))⟩
     case measure=>(try rw[hwk]);exact meas_step5b HLT.out
  ·obtain rfl:k=s.size:=by omega
   have hall:nmTo 0 l=true:=by have:=HT.out;rw[← HG.out,List.drop_length] at this;rw[this];rfl
   have HA:=hid hall;clear hall HT;by_cases h1:1≤s.size
   ·by_cases h2:s.size≤20
    ·have HN:Hid (r=true):=hid (by rw[HR.out,HA.out,decide_eq_true (show 1≤l.length by rw[HG.out];exact h1),decide_eq_true (show l.length≤20 by rw[HG.out];exact h2)];rfl);have d1:decide (1≤(s.size:Int))=true:=decide_eq_true (by omega);have d2:decide ((s.size:Int)≤20)=true:=decide_eq_true (by omega);go_wp2;go_ret;exact⟨ret_b56 HN.out.symm,rfl⟩
    ·have HN:Hid (r=false):=hid (by rw[HR.out,decide_eq_false (show ¬ l.length≤20 by rw[HG.out];exact h2),Bool.and_false]);have d1:decide (1≤(s.size:Int))=true:=decide_eq_true (by omega);have d2:decide ((s.size:Int)≤20)=false:=decide_eq_false (by omega);go_wp2;go_ret;exact⟨(by simp only[d2];exact ret_b56 HN.out.symm),rfl⟩
   ·have HN:Hid (r=false):=hid (by rw[HR.out,decide_eq_false (show ¬ 1≤l.length by rw[HG.out];exact h1)];simp);have d1:decide (1≤(s.size:Int))=false:=decide_eq_false (by omega);go_wp2;go_ret;exact⟨ret_b56 HN.out.symm,rfl⟩
end Go.Proofs.YtcfelnhmifkelaaGreatDoor
namespace Go.Proofs.YtcfelnhmifkelaaGreatDoor
open Go.RowKit
set_option maxRecDepth 100000
set_option linter.unusedVariables false
set_option linter.unusedSimpArgs false
end Go.Proofs.YtcfelnhmifkelaaGreatDoor
namespace Go.Proofs.YtcfelnhmifkelaaGreatDoor
open Lib(hid)
open Go.RowKit
set_option maxRecDepth 100000
set_option linter.unusedVariables false
set_option linter.unusedSimpArgs false

def digT (q:Int):Nat→Int→List Int
 | 0,_=>[]
 | k+1,n=>(n % q) :: digT q k (n / q)
def digR (q:Int):Nat→Int→Int
 | 0,n=>n
 | k+1,n=>digR q k (n / q)
theorem digT_snoc (q:Int):∀ (k:Nat)(n:Int),digT q (k+1) n=digT q k n ++ [digR q k n % q]
 | 0,n=>rfl
 | k+1,n=>by
  show (n % q) :: digT q (k+1) (n / q)=_;rw[digT_snoc q k (n / q)];rfl
theorem digR_snoc (q:Int):∀ (k:Nat)(n:Int),digR q (k+1) n=digR q k n / q
 | 0,n=>rfl
 | k+1,n=>digR_snoc q k (n / q)
theorem digT_len (q:Int):∀ (k:Nat)(n:Int),(digT q k n).length=k
 | 0,n=>rfl
 | k+1,n=>by rw[digT,List.length_cons,digT_len q k]
theorem digR_rng {q:Int}(hq:1≤q):∀ (k:Nat)(n:Int),0≤n→0≤digR q k n∧digR q k n≤n
 | 0,n,h=>⟨h,Int.le_refl _⟩
 | k+1,n,h=>by
  have h1:0≤n / q:=Int.ediv_nonneg h (by omega);have h2:n / q≤n:=Int.ediv_le_self q h;obtain⟨a,b⟩:=digR_rng hq k (n / q) h1;exact⟨a,Int.le_trans b h2⟩
def digsT (q n:Int):List Int × Int:=
 if q < 2∨8 < q then ([],2) else if n < 0 then ([],5) else if 0 < digR q (3*q - 2).toNat n then ([],5) else (digT q (3*q - 2).toNat n,0)
def RetIE (ze:List Int × Int)(w:World)(e:Ending)(w':World):Prop:=∃ A c,e=.returned (.tuple #[.slice A ze.1.length c,.int .i64 ze.2])∧Ints w' A ze.1∧Below w.heap.size w w'
set_option maxHeartbeats 4000000 in
theorem sums_any (q:Int)(w:World)(h1:2≤q)(h2:q≤8):Calls Tryz.prog 199 #[.int .i64 q] w fun e w'=>e=.returned (.int .i64 (3*q - 2))∧w'=w:=by
 have e1:wrap64 (3*q)=3*q:=by unfold wrap64;omega
 have e2:wrap64 (3*q - 2)=3*q - 2:=by unfold wrap64;omega
 clear h1 h2;go_enter Tryz.func199,Tryz.ntmps199;go_wp2;go_ret;exact⟨ret_int e2,rfl⟩
theorem quo_ok {r q n:Int}(h0:0≤r)(h1:r≤n)(hn:n≤9223372036854775807)(hq:2≤q):wrap64 (r.tdiv q)=r / q:=by
 rw[Int.tdiv_eq_ediv_of_nonneg h0];have h2:0≤r / q:=Int.ediv_nonneg h0 (by omega);have h3:r / q≤r:=Int.ediv_le_self q h0;generalize r / q=t at *;unfold wrap64;omega
set_option maxHeartbeats 4000000 in
theorem digits_any (q n:Int)(w:World)(hn64:n≤9223372036854775807):Calls Tryz.prog 160 #[.int .i64 q,.int .i64 n] w (RetIE (digsT q n) w):=by
 have HN:=hid hn64;clear hn64;by_cases h2:q < 2
 ·have d1:decide (q < 2)=true:=decide_eq_true h2;have HE:Hid (digsT q n=([],2)):=hid (by unfold digsT;rw[if_pos (.inl h2)]);clear h2;go_enter Tryz.func160,Tryz.ntmps160;go_wp2;go_ret2;rw[HE.out];exact⟨none,0,rfl,Ints.nil,Below.refl _ _⟩
 have d1:decide (q < 2)=false:=decide_eq_false h2;by_cases h8:8 < q
 ·have d2:decide (8 < q)=true:=decide_eq_true h8;have HE:Hid (digsT q n=([],2)):=hid (by unfold digsT;rw[if_pos (.inr h8)]);clear h2 h8;go_enter Tryz.func160,Tryz.ntmps160;go_wp2;go_ret2;rw[HE.out];exact⟨none,0,rfl,Ints.nil,Below.refl _ _⟩
 have d2:decide (8 < q)=false:=decide_eq_false h8;by_cases hn:n < 0
 ·have d3:decide (n < 0)=true:=decide_eq_true hn;have HE:Hid (digsT q n=([],5)):=hid (by unfold digsT;rw[if_neg (by omega),if_pos hn]);clear h2 h8 hn;go_enter Tryz.func160,Tryz.ntmps160;go_wp2;go_ret2;rw[HE.out];exact⟨none,0,rfl,Ints.nil,Below.refl _ _⟩
 have d3:decide (n < 0)=false:=decide_eq_false hn;have HS:=hid (sums_any q w (by omega) (by omega));have HQ:Hid (2≤q∧q≤8∧0≤n):=hid (by omega);obtain⟨K,hK⟩:∃ K:Nat,K=(3*q - 2).toNat:=⟨_,rfl⟩
 have hKi:3*q - 2=(K:Int):=by omega
 have HK:Hid (K≤22):=hid (by omega);have HE0:Hid (digsT q n=if 0 < digR q K n then ([],5) else (digT q K n,0)):=hid (by unfold digsT;rw[if_neg (by omega),if_neg hn,hK]);rw[hKi] at HS;clear h2 h8 hn hK hKi;go_enter Tryz.func160,Tryz.ntmps160;go_wp2_with (go_at_call 199;refine HS.out.mono ?_;intro e w9 hx9;obtain⟨rfl,hw9⟩:=hx9;subst hw9;refine Hid.out ?_);refine hid ?_;clear d1 d2 d3;go_wp2;go_loopw [1,6,17] (fun nv lv iv wr=>∃ k:Nat,k≤K∧iv=.int .i64 k∧nv=.int .i64 (digR q k n)∧Hid (OwnI 3 wr w9.heap.size lv (digT q k n))∧Hid (Below w9.heap.size w9 wr)) (fun _ _ iv _=>K - (intOf iv).toNat)
 case atStart=>exact⟨0,Nat.zero_le _,rfl,rfl,hid (OwnI.nil _ _ _),hid (Below.refl _ _)⟩
 case round=>
  obtain⟨k,hk,rfl,rfl,HO,HB⟩:=hrel;have hwk:wrap64 ((k:Int)+1)=(k:Int)+1:=by have:=HK.out;unfold wrap64;omega
  obtain⟨r,hr⟩:∃ r,r=digR q k n:=⟨_,rfl⟩
  have hrr:=digR_rng (q:=q) (by have:=HQ.out;omega) k n HQ.out.2.2;rw[← hr] at hrr ⊢;by_cases hkK:k < K
  ·have hown:=HO.out;have hln:(digT q k n).length < 4294967296:=by rw[digT_len];have:=HK.out;omega
   have hq0:¬ q=0:=by have:=HQ.out;omega
   have HKK:=hid hkK;have HR:=hid hr;have HRR:=hid hrr;have hws:w9.heap.size≤wr.heap.size:=HB.out.size;clear hr hk;go_wp2_with (at_builtin;refine wpList_pushI rfl _ _ _ rfl w9.heap.size 3 Tryz.underlying142 Tryz.infoInt _ _ rfl hown _ rfl hln hws ?_);intro v6 w6 ho6 hb6;have HO6:Hid (OwnI 3 w6 w9.heap.size v6 (digT q (k+1) n)):=hid (by rw[digT_snoc,← HR.out];exact ho6);have HB6:Hid (Below w9.heap.size w9 w6):=hid (HB.out.trans hb6);clear ho6 hb6 hown hws hln;go_wp2;go_roundw
   case rel=>exact⟨k+1,HKK.out,(by first | rfl | (rw[hwk];rfl)),(by rw[digR_snoc,HR.out];exact congrArg (Value.int .i64) (by rw[← HR.out];exact quo_ok HRR.out.1 HRR.out.2 HN.out HQ.out.1)),HO6,HB6⟩
   case measure=>(try rw[hwk]);exact meas_step5b HKK.out
  ·have hke:k=K:=Nat.le_antisymm hk (Nat.le_of_not_lt hkK);have HO2:=HO;obtain⟨dA,dc,edv,hdi,-⟩:=HO.out.ints;have HDI:=hid hdi;subst edv;clear hdi hk;by_cases hpos:0 < r
   ·have d4:decide (0 < r)=true:=decide_eq_true hpos;have HE:Hid (digsT q n=([],5)):=hid (by rw[HE0.out,← hke,← hr,if_pos hpos]);clear hpos hke hr;go_wp2;go_ret2;rw[HE.out];exact⟨none,0,rfl,Ints.nil,HB.out⟩
   ·have d4:decide (0 < r)=false:=decide_eq_false hpos;have HE:Hid (digsT q n=(digT q k n,0)):=hid (by rw[HE0.out,← hke,← hr,if_neg hpos]);clear hpos hke hr;go_wp2;go_ret2;rw[HE.out];exact⟨dA,dc,rfl,HDI.out,HB.out⟩
set_option maxHeartbeats 4000000 in
theorem rdigits_any (q n:Int)(w:World)(hn64:n≤9223372036854775807):Calls Tryz.prog 177 #[.int .i64 q,.int .i64 n] w (RetIE (digsT q n) w):=by
 have HN:=hid hn64;clear hn64;by_cases h2:q < 2
 ·have d1:decide (q < 2)=true:=decide_eq_true h2;have HE:Hid (digsT q n=([],2)):=hid (by unfold digsT;rw[if_pos (.inl h2)]);clear h2;go_enter Tryz.func177,Tryz.ntmps177;go_wp2;go_ret2;rw[HE.out];exact⟨none,0,rfl,Ints.nil,Below.refl _ _⟩
 have d1:decide (q < 2)=false:=decide_eq_false h2;by_cases h8:8 < q
 ·have d2:decide (8 < q)=true:=decide_eq_true h8;have HE:Hid (digsT q n=([],2)):=hid (by unfold digsT;rw[if_pos (.inr h8)]);clear h2 h8;go_enter Tryz.func177,Tryz.ntmps177;go_wp2;go_ret2;rw[HE.out];exact⟨none,0,rfl,Ints.nil,Below.refl _ _⟩
 have d2:decide (8 < q)=false:=decide_eq_false h8;by_cases hn:n < 0
 ·have d3:decide (n < 0)=true:=decide_eq_true hn;have HE:Hid (digsT q n=([],5)):=hid (by unfold digsT;rw[if_neg (by omega),if_pos hn]);clear h2 h8 hn;go_enter Tryz.func177,Tryz.ntmps177;go_wp2;go_ret2;rw[HE.out];exact⟨none,0,rfl,Ints.nil,Below.refl _ _⟩
 have d3:decide (n < 0)=false:=decide_eq_false hn;have HQ:Hid (2≤q∧q≤8∧0≤n):=hid (by omega);obtain⟨K,hK⟩:∃ K:Nat,K=(3*q - 2).toNat:=⟨_,rfl⟩
 have hKi:3*q - 2=(K:Int):=by omega
 have HK:Hid (K≤22):=hid (by omega);have HE0:Hid (digsT q n=if 0 < digR q K n then ([],5) else (digT q K n,0)):=hid (by unfold digsT;rw[if_neg (by omega),if_neg hn,hK]);obtain⟨w9,hw9⟩:∃ w9,w9=w:=⟨_,rfl⟩
 subst hw9;have HKI:=hid hKi;have e1:wrap64 (q - 1)=q - 1:=by unfold wrap64;omega
 have e2:wrap64 (3*(q - 1))=3*(q - 1):=by unfold wrap64;omega
 have E12:=hid (And.intro e1 e2);clear e1 e2;clear h2 h8 hn hK hKi;go_enter Tryz.func177,Tryz.ntmps177;go_wp2;clear d1 d2 d3;go_loopw [1,6,7] (fun nv lv iv wr=>∃ k:Nat,k≤K∧iv=.int .i64 k∧nv=.int .i64 (digR q k n)∧Hid (OwnI 3 wr w9.heap.size lv (digT q k n))∧Hid (Below w9.heap.size w9 wr)) (fun _ _ iv _=>K - (intOf iv).toNat)
 case atStart=>exact⟨0,Nat.zero_le _,rfl,rfl,hid (OwnI.nil _ _ _),hid (Below.refl _ _)⟩
 case round=>
  obtain⟨k,hk,rfl,rfl,HO,HB⟩:=hrel;have hwk:wrap64 ((k:Int)+1)=(k:Int)+1:=by have:=HK.out;unfold wrap64;omega
  obtain⟨r,hr⟩:∃ r,r=digR q k n:=⟨_,rfl⟩
  have hrr:=digR_rng (q:=q) (by have:=HQ.out;omega) k n HQ.out.2.2;rw[← hr] at hrr ⊢;obtain⟨e1,e2⟩:=E12.out;by_cases hkK:k < K
  ·have hle:decide ((k:Int)≤3*(q - 1))=true:=decide_eq_true (by have:=HKI.out;omega);have hown:=HO.out;have hln:(digT q k n).length < 4294967296:=by rw[digT_len];have:=HK.out;omega
   have hq0:¬ q=0:=by have:=HQ.out;omega
   have HKK:=hid hkK;have HR:=hid hr;have HRR:=hid hrr;have hws:w9.heap.size≤wr.heap.size:=HB.out.size;clear hr hk;go_wp2_with (at_builtin;refine wpList_pushI rfl _ _ _ rfl w9.heap.size 3 Tryz.underlying142 Tryz.infoInt _ _ rfl hown _ rfl hln hws ?_);intro v6 w6 ho6 hb6;have HO6:Hid (OwnI 3 w6 w9.heap.size v6 (digT q (k+1) n)):=hid (by rw[digT_snoc,← HR.out];exact ho6);have HB6:Hid (Below w9.heap.size w9 w6):=hid (HB.out.trans hb6);clear ho6 hb6 hown hws hln;go_wp2;go_roundw
   case rel=>exact⟨k+1,HKK.out,(by first | rfl | (rw[hwk];rfl)),(by rw[digR_snoc,HR.out];exact congrArg (Value.int .i64) (by rw[← HR.out];exact quo_ok HRR.out.1 HRR.out.2 HN.out HQ.out.1)),HO6,HB6⟩
   case measure=>(try rw[hwk]);exact meas_step5b HKK.out
  ·have hle:decide ((k:Int)≤3*(q - 1))=false:=decide_eq_false (by have:=HKI.out;omega);have hke:k=K:=Nat.le_antisymm hk (Nat.le_of_not_lt hkK);have HO2:=HO;obtain⟨dA,dc,edv,hdi,-⟩:=HO.out.ints;have HDI:=hid hdi;subst edv;clear hdi hk;by_cases hpos:0 < r
   ·have d4:decide (0 < r)=true:=decide_eq_true hpos;have HE:Hid (digsT q n=([],5)):=hid (by rw[HE0.out,← hke,← hr,if_pos hpos]);clear hpos hke hr;go_wp2;go_ret2;rw[HE.out];exact⟨none,0,rfl,Ints.nil,HB.out⟩
   ·have d4:decide (0 < r)=false:=decide_eq_false hpos;have HE:Hid (digsT q n=(digT q k n,0)):=hid (by rw[HE0.out,← hke,← hr,if_neg hpos]);clear hpos hke hr;go_wp2;go_ret2;rw[HE.out];exact⟨dA,dc,rfl,HDI.out,HB.out⟩
end Go.Proofs.YtcfelnhmifkelaaGreatDoor
