/-
  texts Val56 Nam56 Nbr56 Wolf Wlf56 Wpa56: parts of the proof; conditions stand with each theorem.
-/
import Derived.Test.YtcfelnhmifkelaaGreatDoorVG11
import Derived.Test.YtcfelnhmifkelaaGreatDoorVG4
import Derived.Test.YtcfelnhmifkelaaGreatDoorVG0
import Derived.Test.YtcfelnhmifkelaaGreatDoorVShelf
import Derived.Test.YtcfelnhmifkelaaGreatDoorVG8
import Derived.Shelf.Strings.SlTrimAscii
import Derived.Test.YtcfelnhmifkelaaGreatDoorVG5
namespace Go.Proofs.YtcfelnhmifkelaaGreatDoor
open Lib(hid)
open Go.RowKit
set_option maxRecDepth 100000
set_option linter.unusedVariables false
set_option linter.unusedSimpArgs false
theorem decFrom_digits:∀ (l:List UInt8)(acc:Nat),l.all isDig=true→Lib.decFrom acc l=some (l.foldl (fun n c=>10*n+digOf c) (acc:Int)).toNat∧0≤l.foldl (fun n c=>10*n+digOf c) (acc:Int)
 | [],acc,_=>⟨by simp[Lib.decFrom],by simp⟩
 | c :: l,acc,h=>by
  rw[List.all_cons,Bool.and_eq_true] at h;have hc:=h.1;unfold isDig at hc;simp only[Bool.and_eq_true,decide_eq_true_eq] at hc;have ih:=decFrom_digits l (acc*10+(c.toNat - 48)) h.2;have e:(((acc*10+(c.toNat - 48):Nat)):Int)=10*(acc:Int)+digOf c:=by unfold digOf;omega
  rw[e] at ih;rw[List.foldl_cons];refine⟨?_,ih.2⟩;rw[← ih.1];have hd:Lib.digitVal c=some (c.toNat - 48):=by unfold Lib.digitVal;rw[if_pos (by omega)]
  simp only[Lib.decFrom,hd]
theorem decNat_digits {l:List UInt8}(h:l.all isDig=true)(hn:1≤l.length):∃ m:Nat,Lib.decNat l=some m∧(m:Int)=numL l:=by
 obtain⟨h1,h2⟩:=decFrom_digits l 0 h;refine⟨(numL l).toNat,?_,Int.toNat_of_nonneg h2⟩;unfold Lib.decNat;rw[show l.isEmpty=false by cases l with | nil=>simp at hn | cons a l=>rfl];exact h1
theorem okW_parts {s:List UInt8}(h:okW s=true):(digsW s).all isDig=true∧1≤(digsW s).length∧(digsW s).length≤9∧¬ ((digsW s).headD 0=48∧s≠[48]):=by
 unfold okW at h;simp only[Bool.and_eq_true,decide_eq_true_eq,Bool.not_eq_true',Bool.and_eq_false_iff,beq_eq_false_iff_ne,decide_eq_false_iff_not] at h;exact⟨h.1.1.1,h.1.1.2,h.1.2,fun hh=>h.2.elim (fun e=>e hh.1) (fun e=>e hh.2)⟩
theorem digsW_len (s:List UInt8):(digsW s).length≤s.length∧s.length≤(digsW s).length+1:=by
 unfold digsW
 split
 ·rw[List.length_tail];omega
 ·omega
theorem atoi_val {s:List UInt8}(h:okW s=true):Lib.atoi s=some (valW s).1:=by
 obtain⟨h1,h2,-,-⟩:=okW_parts h;obtain⟨m,hm,hv⟩:=decNat_digits h1 h2;unfold valW;rw[if_pos h];cases s with
 | nil=>simp[digsW,minusW] at h2
 | cons b r=>
  by_cases hb:b=45
  ·subst hb;have e1:minusW (45 :: r)=true:=rfl;have e2:digsW (45 :: r)=r:=rfl;rw[e2] at hm hv;rw[if_pos e1,e2];simp only[Lib.atoi,beq_self_eq_true,if_true,hm,Option.map_some,hv]
  ·have e1:minusW (b :: r)=false:=by unfold minusW;simpa using hb
   have e2:digsW (b :: r)=b :: r:=by unfold digsW;rw[e1];rfl
   rw[e2] at hm hv h1;rw[e1,e2];have hd:isDig b=true:=by rw[List.all_cons,Bool.and_eq_true] at h1;exact h1.1
   have hb2:(b == 45)=false:=by simpa using hb
   have hb3:(b == 43)=false:=by
    cases hx:b == 43
    ·rfl
    ·rw[eq_of_beq hx] at hd;exact absurd hd (by decide)
   simp only[Lib.atoi,hb2,hb3,Bool.false_eq_true,if_false,hm,Option.map_some,hv]
theorem trim_minus (s:List UInt8):Lib.trimPrefix s [45]=digsW s:=by
 cases s with
 | nil=>rfl
 | cons b r=>
  unfold Lib.trimPrefix digsW minusW Lib.hasPrefix;by_cases hb:b=45
  ·subst hb;simp
  ·simp[hb,Ne.symm hb]
theorem meas_step5b {n k:Nat}(h:k < n):n - (intOf (.int .i64 ((k:Int)+1))).toNat < n - (intOf (.int .i64 (k:Int))).toNat:=by
 show n - ((k:Int)+1).toNat < n - (k:Int).toNat;omega
theorem below_bytes56 (w:World)(e:TypeId)(t:ByteArray):Below w.heap.size w (Lib.bytesWorld w e t):=
 ⟨rfl,rfl,rfl,by rw[Lib.bytesWorld_size];omega,fun j hj=>Lib.bytesWorld_at_old w e t j hj⟩
theorem valW_no {s:List UInt8}(h:okW s=false):valW s=(0,false):=by unfold valW;rw[h];rfl
theorem all_snoc56 {l:List UInt8}{k:Nat}(hk:k < l.length)(h:(l.take k).all isDig=true) (hb:isDig l[k]=true):(l.take (k+1)).all isDig=true:=by
 rw[List.take_succ_eq_append_getElem hk,List.all_append,h];simp[hb]
theorem all_bad56 {l:List UInt8}{k:Nat}(hk:k < l.length)(hb:isDig l[k]=false):l.all isDig=false:=by
 cases h:l.all isDig
 ·rfl
 ·rw[List.all_eq_true] at h;rw[h _ (List.getElem_mem hk)] at hb;cases hb
theorem ret_ib {b:Int × Bool}{x:Int}{y:Bool}(h:b=(x,y)):Ending.returned (.tuple #[.int .i64 x,.bool y])=.returned (.tuple #[.int .i64 b.1,.bool b.2]):=by rw[h]
theorem str_eq56 (s:ByteArray)(l:List UInt8):(s.toList == l)=decide (s.data.toList=l):=by
 rw[ByteArray.toList_eq];by_cases h:s.data.toList=l
 ·rw[h,decide_eq_true rfl];simp
 ·rw[decide_eq_false h];simpa using h
set_option maxHeartbeats 4000000 in
theorem value_any (s:ByteArray)(w:World)(hs:s.data.toList.length≤2147483648) :
  Calls Tryz.prog 66 #[.string s] w fun e w'=>e=.returned (.tuple #[.int .i64 (valW s.data.toList).1,.bool (valW s.data.toList).2])∧Below w.heap.size w w':=by
 obtain⟨ls,hls⟩:∃ ls,ls=s.data.toList:=⟨_,rfl⟩
 obtain⟨l,hl⟩:∃ l,l=digsW ls:=⟨_,rfl⟩
 have hTP:=(Tryz.strings_TrimPrefix s ⟨#[45]⟩ w).mono (fun e w' h=>(⟨h.1,h.2.symm⟩:_∧w=w'));rw[show (⟨#[45]⟩:ByteArray).data.toList=[45] from rfl,trim_minus,← hls,← hl] at hTP;have HTP:=hid hTP;have hlen:=digsW_len ls;rw[← hl,hls] at hlen;obtain⟨cap,W,hcv,hbW,hsz,hcells⟩:=bytes_conv ⟨l.toArray⟩ w;rw[show (⟨l.toArray⟩:ByteArray).data.toList=l by simp] at hcv hcells;obtain⟨b,hb⟩:∃ b,b=valW ls:=⟨_,rfl⟩
 rw[← hls,← hb];have HB:=hid hb;have HL:=hid hl;have HLS:=hid hls;have HLN:=hid hlen;have HC:=hid hcells;have hl31:l.length≤2147483648:=by omega
 clear hTP hcells hl hls hb hlen hs;go_enter Tryz.func66,Tryz.ntmps66;go_wp2_with (go_at_call 102;refine HTP.out.mono ?_;rintro e w1 ⟨rfl,rfl⟩;refine Hid.out ?_);refine hid ?_;clear HTP;go_wp2;go_loopw [14] (fun i wr=>∃ k:Nat,k≤l.length∧i=.int .i64 k∧wr=W∧Hid ((l.take k).all isDig=true)) (fun i _=>l.length - (intOf i).toNat)
 case atStart=>exact⟨0,Nat.zero_le _,rfl,rfl,hid rfl⟩
 case round=>
  obtain⟨k,hk,rfl,hw,HT⟩:=hrel;have hw2:=hw.symm;clear hw;subst hw2;by_cases hlt:k < l.length
  ·have hc:=HC.out k hlt;have hc0:(l[k].toNat:Int)≤255:=by have:=l[k].toNat_lt;omega
   cases hd:isDig l[k]
   ·have HN:Hid (b=(0,false)):=hid (by rw[HB.out,valW_no];unfold okW;rw[← HL.out,all_bad56 hlt hd];rfl);by_cases h1:(l[k].toNat:Int) < 48
    ·clear hd;go_wp2;go_ret2;exact⟨ret_ib HN.out,hbW⟩
    ·have h2:(57:Int) < l[k].toNat:=by
      unfold isDig at hd;rw[decide_eq_true (by omega)] at hd;simpa using hd
     clear hd;go_wp2;go_ret2;exact⟨ret_ib HN.out,hbW⟩
   ·have hall:=hid (all_snoc56 hlt HT.out hd);obtain⟨h1,h2⟩:48≤(l[k].toNat:Int)∧(l[k].toNat:Int)≤57:=by simpa [isDig] using hd
    clear hd;go_wp2;go_roundw
    case rel=>exact⟨k+1,by omega,by go_num,(by first | rfl | trivial),hall⟩
    case measure=>simp[intOf];omega
  ·obtain rfl:k=l.length:=by omega
   have HA:Hid (l.all isDig=true):=hid (by have:=HT.out;rwa [List.take_length] at this);clear HT;by_cases h1:1≤l.length
   ·by_cases h2:l.length≤9
    ·have hz0:0 < l.length:=h1;have e0:∀ h:0 < (⟨l.toArray⟩:ByteArray).size,(⟨l.toArray⟩:ByteArray)[0]'h=l.headD 0:=fun h=>by
      cases l with
      | nil=>simp at h1
      | cons a r=>rfl
     have hs9:s.size≤18:=by have h5:=HLN.out;have h6:s.data.toList.length=s.data.size:=Array.length_toList;show s.data.size≤18;omega
     obtain⟨ok,hok⟩:∃ ok,ok=okW ls:=⟨_,rfl⟩
     have HOK:Hid (ok = !((l.headD 0 == 48) && decide (ls≠[48]))):=hid (by rw[hok];unfold okW;rw[← HL.out,HA.out,decide_eq_true h1,decide_eq_true h2];rfl);have HOW:=hid hok;clear hok;by_cases hA:l.headD 0=48
     ·have dA:∀ h:0 < (⟨l.toArray⟩:ByteArray).size,(((⟨l.toArray⟩:ByteArray)[0]'h).toNat:Int)=48:=fun h=>by rw[e0 h,hA];rfl
      by_cases hB:ls=[48]
      ·have dB:(s.toList == [48])=true:=by rw[str_eq56,← HLS.out];exact decide_eq_true hB
       have HK:Hid (okW ls=true):=hid (by rw[← HOW.out,HOK.out,decide_eq_false (by simpa using hB)];simp);clear e0 hA hB hz0;have HAT:Hid (Lib.atoi s.data.toList=some (valW ls).1):=hid (by rw[← HLS.out];exact atoi_val HK.out);have HC2:=hid ((Tryz.strconv_Atoi s (valW ls).1 hs9 HAT.out W).mono (fun e w' h=>(⟨h.1,by obtain⟨t,e2⟩:=h.2;rw[e2];exact below_bytes56 _ _ _⟩:_∧Below W.heap.size W w')));have HV:Hid (b=((valW ls).1,true)):=hid (by rw[HB.out];unfold valW;rw[if_pos HK.out]);go_wp2_with (go_at_call 103;refine HC2.out.mono ?_;intro e w2 hx;obtain⟨rfl,hb2⟩:=hx;refine Hid.out ?_);refine hid ?_;have HB2:=hid (hbW.trans (hb2.mono hbW.size));clear hb2 HC2 hcv hbW hsz;go_upto_region 11 with fail
       go_quiet (fail)
       go_wp2;go_ret2;exact⟨ret_ib HV.out,below_drewN HB2.out _⟩
      ·have dB:(s.toList == [48])=false:=by rw[str_eq56,← HLS.out];exact decide_eq_false hB
       have HN:Hid (b=(0,false)):=hid (by rw[HB.out,valW_no];rw[← HOW.out,HOK.out,hA,decide_eq_true hB];rfl);clear e0 hA hB hz0;go_wp2;go_ret2;exact⟨ret_ib HN.out,hbW⟩
     ·have dA:∀ h:0 < (⟨l.toArray⟩:ByteArray).size,((((⟨l.toArray⟩:ByteArray)[0]'h).toNat:Int) == 48)=false:=fun h=>by
       rw[e0 h];refine beq_false_of_ne fun e=>hA (UInt8.toNat_inj.1 ?_);have:(48:UInt8).toNat=48:=rfl;omega
      have HK:Hid (okW ls=true):=hid (by rw[← HOW.out,HOK.out,beq_false_of_ne hA];rfl);clear e0 hA hz0;have HAT:Hid (Lib.atoi s.data.toList=some (valW ls).1):=hid (by rw[← HLS.out];exact atoi_val HK.out);have HC2:=hid ((Tryz.strconv_Atoi s (valW ls).1 hs9 HAT.out W).mono (fun e w' h=>(⟨h.1,by obtain⟨t,e2⟩:=h.2;rw[e2];exact below_bytes56 _ _ _⟩:_∧Below W.heap.size W w')));have HV:Hid (b=((valW ls).1,true)):=hid (by rw[HB.out];unfold valW;rw[if_pos HK.out]);go_wp2_with (go_at_call 103;refine HC2.out.mono ?_;intro e w2 hx;obtain⟨rfl,hb2⟩:=hx;refine Hid.out ?_);refine hid ?_;have HB2:=hid (hbW.trans (hb2.mono hbW.size));clear hb2 HC2 hcv hbW hsz;go_upto_region 11 with fail
      go_quiet (fail)
      go_wp2;go_ret2;exact⟨ret_ib HV.out,below_drewN HB2.out _⟩
    ·have HN:Hid (b=(0,false)):=hid (by rw[HB.out,valW_no];unfold okW;rw[← HL.out,decide_eq_false h2];simp);go_wp2;go_ret2;exact⟨ret_ib HN.out,hbW⟩
   ·have HN:Hid (b=(0,false)):=hid (by rw[HB.out,valW_no];unfold okW;rw[← HL.out,decide_eq_false h1];simp);go_wp2;go_ret2;exact⟨ret_ib HN.out,hbW⟩
def ltrI (c:Int):Prop:=97≤c∧c≤122∨65≤c∧c≤90
def goodI (k:Nat)(c:Int):Prop:=ltrI c∨0 < k∧48≤c∧c≤57
theorem nm_good {k:Nat}{c:UInt8}:(letterB c || (decide (0 < k) && isDig c))=true ↔ goodI k (c.toNat:Int):=by
 unfold letterB isDig goodI ltrI;simp only[Bool.or_eq_true,Bool.and_eq_true,decide_eq_true_eq];omega
theorem nmTo_step {l:List UInt8}{k:Nat}(hk:k < l.length)(h:goodI k (l[k].toNat:Int)):nmTo k (l.drop k)=nmTo (k+1) (l.drop (k+1)):=by
 rw[List.drop_eq_getElem_cons hk,nmTo,nm_good.2 h,Bool.true_and]
theorem nmTo_bad {l:List UInt8}{k:Nat}(hk:k < l.length)(h:¬ goodI k (l[k].toNat:Int)):nmTo k (l.drop k)=false:=by
 rw[List.drop_eq_getElem_cons hk,nmTo,show (letterB l[k] || (decide (0 < k) && isDig l[k]))=false by
  cases hx:(letterB l[k] || (decide (0 < k) && isDig l[k]))
  ·rfl
  ·exact absurd (nm_good.1 hx) h,Bool.false_and]
theorem ret_b56 {a b:Bool}(h:a=b):Ending.returned (.bool a)=.returned (.bool b):=by rw[h]
set_option maxHeartbeats 8000000 in
theorem isName_any (s:ByteArray)(w:World)(hs:s.data.toList.length≤2147483648) :
  Calls Tryz.prog 43 #[.string s] w fun e w'=>e=.returned (.bool (nmW s.data.toList))∧Below w.heap.size w w':=by
 obtain⟨cap,W,hcv,hbW,hsz,hcells⟩:=bytes_conv s w;obtain⟨l,hl⟩:∃ l,l=s.data.toList:=⟨_,rfl⟩
 have hlen:l.length=s.size:=by rw[hl];rfl
 rw[← hl] at hcv hcells hs ⊢;obtain⟨r,hr⟩:∃ r,r=nmW l:=⟨_,rfl⟩
 rw[← hr];have HR:Hid (r=(nmTo 0 l && decide (1≤l.length) && decide (l.length≤20))):=hid hr;have HG:=hid hlen;have HC:=hid hcells;clear hcells hl hlen hr;go_enter Tryz.func43,Tryz.ntmps43;go_wp2;go_loopw [9] (fun i wr=>∃ k:Nat,k≤l.length∧i=.int .i64 k∧wr=W∧Hid (nmTo 0 l=nmTo k (l.drop k))) (fun i _=>l.length - (intOf i).toNat)
 case atStart=>exact⟨0,Nat.zero_le _,rfl,rfl,hid rfl⟩
 case round=>
  obtain⟨k,hk,rfl,hw,HT⟩:=hrel;have hw2:=hw.symm;clear hw;subst hw2;by_cases hlt:k < l.length
  ·have hc:=HC.out k hlt;have hc0:(l[k].toNat:Int)≤255:=by have:=l[k].toNat_lt;omega
   have HST:=hid (fun h=>nmTo_step hlt h);have HBD:=hid (fun h=>nmTo_bad hlt h);obtain⟨c,hcc⟩:∃ c:Int,c=(l[k]'hlt).toNat:=⟨_,rfl⟩
   rw[← hcc] at hc hc0 HST HBD;have HLT:=hid hlt;have hwk:wrap64 ((k:Int)+1)=(k:Int)+1:=by unfold wrap64;omega
   clear hcc hs;rcases Int.lt_or_le c 97 with a | a
   ·rcases Int.lt_or_le c 65 with b | b
    ·skip
     by_cases hk0:k=0
     ·have e0:((k:Int) == 0)=true:=by rw[hk0];rfl
      have HN:Hid (r=false):=hid (by rw[HR.out,HT.out,HBD.out (by unfold goodI ltrI;omega)];rfl);clear hk0;go_wp2;go_ret;exact⟨ret_b56 HN.out.symm,hbW⟩
     ·have e0:((k:Int) == 0)=false:=beq_false_of_ne (by omega);rcases Int.lt_or_le c 48 with x | x
      ·skip
       have HN:Hid (r=false):=hid (by rw[HR.out,HT.out,HBD.out (by unfold goodI ltrI;omega)];rfl);go_wp2;go_ret;exact⟨ret_b56 HN.out.symm,hbW⟩
      ·rcases Int.lt_or_le 57 c with y | y
       ·skip
        have HN:Hid (r=false):=hid (by rw[HR.out,HT.out,HBD.out (by unfold goodI ltrI;omega)];rfl);go_wp2;go_ret;exact⟨ret_b56 HN.out.symm,hbW⟩
       ·skip
        have HGI:Hid (goodI k c):=hid (by unfold goodI ltrI;omega);go_wp2;go_roundw
        case rel=>exact⟨k+1,HLT.out,(by first | rfl | (rw[hwk];rfl)),(by first | rfl | trivial),hid (HT.out.trans (HST.out HGI.out))⟩
        case measure=>(try rw[hwk]);exact meas_step5b HLT.out
    ·rcases Int.lt_or_le 90 c with b2 | b2
     ·have z2:decide (c≤90)=false:=decide_eq_false (by omega);by_cases hk0:k=0
      ·have e0:((k:Int) == 0)=true:=by rw[hk0];rfl
       have HN:Hid (r=false):=hid (by rw[HR.out,HT.out,HBD.out (by unfold goodI ltrI;omega)];rfl);clear hk0;go_wp2;go_ret;exact⟨ret_b56 HN.out.symm,hbW⟩
      ·have e0:((k:Int) == 0)=false:=beq_false_of_ne (by omega);have x:48≤c:=by omega
       have y:57 < c:=by omega
       have HN:Hid (r=false):=hid (by rw[HR.out,HT.out,HBD.out (by unfold goodI ltrI;omega)];rfl);go_wp2;go_ret;exact⟨ret_b56 HN.out.symm,hbW⟩
     ·have z2:decide (c≤90)=true:=decide_eq_true b2;have HGI:Hid (goodI k c):=hid (by unfold goodI ltrI;omega);go_wp2;go_roundw
      case rel=>exact⟨k+1,HLT.out,(by first | rfl | (rw[hwk];rfl)),(by first | rfl | trivial),hid (HT.out.trans (HST.out HGI.out))⟩
      case measure=>(try rw[hwk]);exact meas_step5b HLT.out
   ·rcases Int.lt_or_le 122 c with b | b
    ·have b1:65≤c:=by omega
     have b3:90 < c:=by omega
     have z1:decide (c≤122)=false:=decide_eq_false (by omega);have z2:decide (c≤90)=false:=decide_eq_false (by omega);by_cases hk0:k=0
     ·have e0:((k:Int) == 0)=true:=by rw[hk0];rfl
      have HN:Hid (r=false):=hid (by rw[HR.out,HT.out,HBD.out (by unfold goodI ltrI;omega)];rfl);clear hk0;go_wp2;go_ret;exact⟨ret_b56 HN.out.symm,hbW⟩
     ·have e0:((k:Int) == 0)=false:=beq_false_of_ne (by omega);have x:48≤c:=by omega
      have y:57 < c:=by omega
      have HN:Hid (r=false):=hid (by rw[HR.out,HT.out,HBD.out (by unfold goodI ltrI;omega)];rfl);go_wp2;go_ret;exact⟨ret_b56 HN.out.symm,hbW⟩
    ·have z1:decide (c≤122)=true:=decide_eq_true b;have HGI:Hid (goodI k c):=hid (by unfold goodI ltrI;omega);go_wp2;go_roundw
     case rel=>exact⟨k+1,HLT.out,(by first | rfl | (rw[hwk];rfl)),(by first | rfl | trivial),hid (HT.out.trans (HST.out HGI.out))⟩
     case measure=>(try rw[hwk]);exact meas_step5b HLT.out
  ·obtain rfl:k=l.length:=by omega
   have hall:nmTo 0 l=true:=by have:=HT.out;rw[List.drop_length] at this;rw[this];rfl
   have HA:=hid hall;clear hall HT;by_cases h1:1≤s.size
   ·by_cases h2:s.size≤20
    ·have HN:Hid (r=true):=hid (by rw[HR.out,HA.out,decide_eq_true (show 1≤l.length by rw[HG.out];exact h1),decide_eq_true (show l.length≤20 by rw[HG.out];exact h2)];rfl);have d1:decide (1≤(s.size:Int))=true:=decide_eq_true (by omega);have d2:decide ((s.size:Int)≤20)=true:=decide_eq_true (by omega);go_wp2;go_ret;exact⟨ret_b56 HN.out.symm,hbW⟩
    ·have HN:Hid (r=false):=hid (by rw[HR.out,decide_eq_false (show ¬ l.length≤20 by rw[HG.out];exact h2),Bool.and_false]);have d1:decide (1≤(s.size:Int))=true:=decide_eq_true (by omega);have d2:decide ((s.size:Int)≤20)=false:=decide_eq_false (by omega);go_wp2;go_ret;exact⟨(by simp only[d2];exact ret_b56 HN.out.symm),hbW⟩
   ·have HN:Hid (r=false):=hid (by rw[HR.out,decide_eq_false (show ¬ 1≤l.length by rw[HG.out];exact h1)];simp);have d1:decide (1≤(s.size:Int))=false:=decide_eq_false (by omega);go_wp2;go_ret;exact⟨ret_b56 HN.out.symm,hbW⟩
set_option maxHeartbeats 8000000 in
theorem rname_any (s:ByteArray)(w:World)(hs:s.data.toList.length≤2147483648) :
  Calls Tryz.prog 47 #[.string s] w fun e w'=>e=.returned (.bool (nmW s.data.toList))∧w'=w:=by
 obtain⟨l,hl⟩:∃ l,l=s.data.toList:=⟨_,rfl⟩
 have hlen:l.length=s.size:=by rw[hl];rfl
 have hgb:∀ j (h:j < s.size) (h':j < l.length),l[j]=s[j]:=by subst hl;exact get_byte s
 rw[← hl] at hs ⊢;obtain⟨r,hr⟩:∃ r,r=nmW l:=⟨_,rfl⟩
 rw[← hr];have HR:Hid (r=(nmTo 0 l && decide (1≤l.length) && decide (l.length≤20))):=hid hr;have HG:=hid hlen;have HGB:=hid hgb;have hs2:s.size≤2147483648:=by omega
 clear hl hlen hr hgb hs;go_enter Tryz.func47,Tryz.ntmps47;go_wp2
 go_loop [3] (fun i=>∃ k:Nat,k≤s.size∧i=.int .i64 k∧Hid (nmTo 0 l=nmTo k (l.drop k))) (fun i=>s.size - (intOf i).toNat)
 case atStart=>exact⟨0,Nat.zero_le _,rfl,hid rfl⟩
 case round=>
  obtain⟨k,hk,rfl,HT⟩:=hrel;by_cases hlt:k < s.size
  ·have hll:k < l.length:=by rw[HG.out];exact hlt
   have HST:=hid (fun h=>nmTo_step hll h);have HBD:=hid (fun h=>nmTo_bad hll h);have hq:=HGB.out k hlt hll;obtain⟨c,hcc⟩:∃ c:Int,c=(s[k]'hlt).toNat:=⟨_,rfl⟩
   rw[hq,← hcc] at HST HBD;have hc1:((s[k]'hlt).toNat:Int)=c:=hcc.symm;have hwk:wrap64 ((k:Int)+1)=(k:Int)+1:=by unfold wrap64;omega
   have HLT:=hid hlt;clear hcc hq hll;rcases Int.lt_or_le c 97 with a | a
   ·rcases Int.lt_or_le c 65 with b | b
    ·skip
     by_cases hk0:k=0
     ·have e0:((k:Int) == 0)=true:=by rw[hk0];rfl
      have HN:Hid (r=false):=hid (by rw[HR.out,HT.out,HBD.out (by unfold goodI ltrI;omega)];rfl);clear hk0;go_wp2;go_ret;exact⟨ret_b56 HN.out.symm,rfl⟩
     ·have e0:((k:Int) == 0)=false:=beq_false_of_ne (by omega);rcases Int.lt_or_le c 48 with x | x
      ·skip
       have HN:Hid (r=false):=hid (by rw[HR.out,HT.out,HBD.out (by unfold goodI ltrI;omega)];rfl);go_wp2;go_ret;exact⟨ret_b56 HN.out.symm,rfl⟩
      ·rcases Int.lt_or_le 57 c with y | y
       ·skip
        have HN:Hid (r=false):=hid (by rw[HR.out,HT.out,HBD.out (by unfold goodI ltrI;omega)];rfl);go_wp2;go_ret;exact⟨ret_b56 HN.out.symm,rfl⟩
       ·skip
        have HGI:Hid (goodI k c):=hid (by unfold goodI ltrI;omega);go_wp2
        go_round
        case rel=>exact⟨k+1,HLT.out,(by first | rfl | (rw[hwk];rfl)),hid (HT.out.trans (HST.out HGI.out))⟩
        case measure=>(try rw[hwk]);exact meas_step5b HLT.out
    ·rcases Int.lt_or_le 90 c with b2 | b2
     ·have z2:decide (c≤90)=false:=decide_eq_false (by omega);by_cases hk0:k=0
      ·have e0:((k:Int) == 0)=true:=by rw[hk0];rfl
       have HN:Hid (r=false):=hid (by rw[HR.out,HT.out,HBD.out (by unfold goodI ltrI;omega)];rfl);clear hk0;go_wp2;go_ret;exact⟨ret_b56 HN.out.symm,rfl⟩
      ·have e0:((k:Int) == 0)=false:=beq_false_of_ne (by omega);have x:48≤c:=by omega
       have y:57 < c:=by omega
       have HN:Hid (r=false):=hid (by rw[HR.out,HT.out,HBD.out (by unfold goodI ltrI;omega)];rfl);go_wp2;go_ret;exact⟨ret_b56 HN.out.symm,rfl⟩
     ·have z2:decide (c≤90)=true:=decide_eq_true b2;have HGI:Hid (goodI k c):=hid (by unfold goodI ltrI;omega);go_wp2
      go_round
      case rel=>exact⟨k+1,HLT.out,(by first | rfl | (rw[hwk];rfl)),hid (HT.out.trans (HST.out HGI.out))⟩
      case measure=>(try rw[hwk]);exact meas_step5b HLT.out
   ·rcases Int.lt_or_le 122 c with b | b
    ·have b1:65≤c:=by omega
     have b3:90 < c:=by omega
     have z1:decide (c≤122)=false:=decide_eq_false (by omega);have z2:decide (c≤90)=false:=decide_eq_false (by omega);by_cases hk0:k=0
     ·have e0:((k:Int) == 0)=true:=by rw[hk0];rfl
      have HN:Hid (r=false):=hid (by rw[HR.out,HT.out,HBD.out (by unfold goodI ltrI;omega)];rfl);clear hk0;go_wp2;go_ret;exact⟨ret_b56 HN.out.symm,rfl⟩
     ·have e0:((k:Int) == 0)=false:=beq_false_of_ne (by omega);have x:48≤c:=by omega
      have y:57 < c:=by omega
      have HN:Hid (r=false):=hid (by rw[HR.out,HT.out,HBD.out (by unfold goodI ltrI;omega)];rfl);go_wp2;go_ret;exact⟨ret_b56 HN.out.symm,rfl⟩
    ·have z1:decide (c≤122)=true:=decide_eq_true b;have HGI:Hid (goodI k c):=hid (by unfold goodI ltrI;omega);go_wp2
     go_round
     case rel=>exact⟨k+1,HLT.out,(by first | rfl | (rw[hwk];rfl)),hid (HT.out.trans (HST.out HGI.out))⟩
     case measure=>(try rw[hwk]);exact meas_step5b HLT.out
  ·obtain rfl:k=s.size:=by omega
   have hall:nmTo 0 l=true:=by have:=HT.out;rw[← HG.out,List.drop_length] at this;rw[this];rfl
   have HA:=hid hall;clear hall HT;by_cases h1:1≤s.size
   ·by_cases h2:s.size≤20
    ·have HN:Hid (r=true):=hid (by rw[HR.out,HA.out,decide_eq_true (show 1≤l.length by rw[HG.out];exact h1),decide_eq_true (show l.length≤20 by rw[HG.out];exact h2)];rfl);have d1:decide (1≤(s.size:Int))=true:=decide_eq_true (by omega);have d2:decide ((s.size:Int)≤20)=true:=decide_eq_true (by omega);go_wp2;go_ret;exact⟨ret_b56 HN.out.symm,rfl⟩
    ·have HN:Hid (r=false):=hid (by rw[HR.out,decide_eq_false (show ¬ l.length≤20 by rw[HG.out];exact h2),Bool.and_false]);have d1:decide (1≤(s.size:Int))=true:=decide_eq_true (by omega);have d2:decide ((s.size:Int)≤20)=false:=decide_eq_false (by omega);go_wp2;go_ret;exact⟨(by simp only[d2];exact ret_b56 HN.out.symm),rfl⟩
   ·have HN:Hid (r=false):=hid (by rw[HR.out,decide_eq_false (show ¬ 1≤l.length by rw[HG.out];exact h1)];simp);have d1:decide (1≤(s.size:Int))=false:=decide_eq_false (by omega);go_wp2;go_ret;exact⟨ret_b56 HN.out.symm,rfl⟩
def RetNum (l:List UInt8)(w:World)(e:Ending)(w':World):Prop:=∃ v:Int,e=.returned (.tuple #[.int .i64 v,.bool (valW l).2])∧((valW l).2=true→v=(valW l).1)∧(-1000000000 < v∧v < 1000000000)∧w'=w
theorem numL_pos {l:List UInt8}(h:l.all isDig=true)(h0:l≠[])(h1:l.headD 0≠48):0 < numL l:=by
 cases l with
 | nil=>exact absurd rfl h0
 | cons c r=>
  rw[List.all_cons,Bool.and_eq_true] at h;have hc:=h.1;unfold isDig at hc;simp only[Bool.and_eq_true,decide_eq_true_eq] at hc;have hc1:c≠48:=h1;have hc2:c.toNat≠48:=fun e=>hc1 (UInt8.toNat_inj.1 (by have:(48:UInt8).toNat=48:=rfl;omega));have hd:1≤digOf c:=by unfold digOf;omega
  have hmono:∀ (r:List UInt8) (n:Int),r.all isDig=true→1≤n→1≤r.foldl (fun n c=>10*n+digOf c) n:=by
   intro r;induction r with
   | nil=>intro n _ h;exact h
   | cons a r ih=>
    intro n hr hn;rw[List.all_cons,Bool.and_eq_true] at hr;have ha:=hr.1;unfold isDig at ha;simp only[Bool.and_eq_true,decide_eq_true_eq] at ha;rw[List.foldl_cons];exact ih _ hr.2 (by unfold digOf;omega)
  have:=hmono r (10*0+digOf c) h.2 (by omega);unfold numL;rw[List.foldl_cons];omega
theorem valW_neg {t:List UInt8}(ht:t≠[]):(valW (45 :: t)).2=((valW t).2 && decide (0 < (valW t).1))∧((valW (45 :: t)).2=true→(valW (45 :: t)).1 = -(valW t).1):=by
 have e1:minusW (45 :: t)=true:=rfl;have e2:digsW (45 :: t)=t:=rfl;have e3:decide ((45:UInt8) :: t≠[48])=true:=by
  refine decide_eq_true fun e=>?_;injection e with e
  exact absurd e (by decide)
 cases hm:minusW t with
 | true=>
  have hbad:okW (45 :: t)=false:=by
   unfold okW;rw[e2];have:t.all isDig=false:=by
    cases t with
    | nil=>exact absurd rfl ht
    | cons a r=>
     have ha:a=45:=by unfold minusW at hm;simpa using hm
     subst ha;rfl
   rw[this];rfl
  rw[valW_no hbad];refine⟨?_,fun h=>by cases h⟩;show false=_;cases ho:okW t with
  | false=>rw[valW_no ho];rfl
  | true=>
   have hv:(valW t).1 = -(numL (digsW t)):=by unfold valW;rw[if_pos ho,hm];rfl
   have hp:=numL_bd9 (List.all_eq_true.1 (okW_parts ho).1) (okW_parts ho).2.2.1;rw[hv,decide_eq_false (by omega),Bool.and_false]
 | false=>
  have e4:digsW t=t:=by unfold digsW;rw[hm];rfl
  cases ho:okW t with
  | false=>
   have hbad:okW (45 :: t)=false:=by
    cases hx:okW (45 :: t)
    ·rfl
    ·obtain⟨p1,p2,p3,p4⟩:=okW_parts hx;rw[e2] at p1 p2 p3 p4;have hh:¬ t.headD 0=48:=fun e=>p4 ⟨e,of_decide_eq_true e3⟩;have:okW t=true:=by
      unfold okW;rw[e4,p1,decide_eq_true p2,decide_eq_true p3,beq_false_of_ne hh];rfl
     rw[this] at ho;cases ho
   rw[valW_no hbad,valW_no ho];exact⟨rfl,fun h=>by cases h⟩
  | true=>
   obtain⟨p1,p2,p3,p4⟩:=okW_parts ho;rw[e4] at p1 p2 p3 p4;have hv:valW t=(numL t,true):=by unfold valW;rw[if_pos ho,hm,e4];rfl
   rw[hv];by_cases hh:t.headD 0=48
   ·have ht1:t=[48]:=Decidable.byContradiction fun hne=>p4 ⟨hh,hne⟩;subst ht1;exact⟨rfl,fun h=>by cases h⟩
   ·have hg:okW (45 :: t)=true:=by
     unfold okW;rw[e2,p1,decide_eq_true p2,decide_eq_true p3,beq_false_of_ne hh];rfl
    have hp:=numL_pos p1 ht hh;have hv2:valW (45 :: t)=(-(numL t),true):=by unfold valW;rw[if_pos hg,e1,e2];rfl
    rw[hv2];dsimp only;exact⟨by rw[decide_eq_true hp];rfl,fun _=>rfl⟩
theorem valW_plain {l:List UInt8}(h:minusW l=false∨l.length≤1):(valW l).2=(l.all isDig && decide (1≤l.length) && decide (l.length≤9) && !(decide (1 < l.length) && (l.headD 0 == 48)))∧((valW l).2=true→(valW l).1=numL l):=by
 cases hm:minusW l with
 | true=>
  have hl:l=[45]:=by
   rcases h with h | h
   ·rw[h] at hm;cases hm
   ·cases l with
    | nil=>cases hm
    | cons a r=>
     have ha:a=45:=by unfold minusW at hm;simpa using hm
     have hr:r=[]:=List.eq_nil_of_length_eq_zero (by rw[List.length_cons] at h;omega);rw[ha,hr]
  subst hl;exact⟨rfl,fun h=>by cases h⟩
 | false=>
  have e4:digsW l=l:=by unfold digsW;rw[hm];rfl
  have e5:okW l=(l.all isDig && decide (1≤l.length) && decide (l.length≤9) && !(decide (1 < l.length) && (l.headD 0 == 48))):=by
   unfold okW;rw[e4];cases l with
   | nil=>rfl
   | cons a r=>
    by_cases ha:a=48
    ·subst ha;cases r with
     | nil=>rfl
     | cons b r=>rw[decide_eq_true (show (48:UInt8) :: b :: r≠[48] by simp),decide_eq_true (show 1 < (48 :: b :: r:List UInt8).length by simp)];simp
    ·rw[show ((a :: r).headD 0 == 48)=false from beq_false_of_ne ha];simp
  rw[← e5];unfold valW;cases ho:okW l with
  | false=>exact⟨rfl,fun h=>by simp at h⟩
  | true=>exact⟨rfl,fun _=>by rw[hm,e4];rfl⟩
theorem RetNum.mk {l:List UInt8}{w:World}{v:Int}{b:Bool}(hb:b=(valW l).2) (hv:b=true→v=(valW l).1) (h:-1000000000 < v∧v < 1000000000):RetNum l w (.returned (.tuple #[.int .i64 v,.bool b])) w:=⟨v,by rw[hb],fun h=>hv (by rw[hb];exact h),h,rfl⟩
theorem numL_step56 {l:List UInt8}{k:Nat}(hk:k < l.length):numL (l.take (k+1))=10*numL (l.take k)+digOf l[k]:=by
 rw[List.take_succ_eq_append_getElem hk,numL_snoc]
set_option maxHeartbeats 8000000 in
theorem rnumber_any:∀ (n:Nat)(s:ByteArray)(w:World),s.data.toList.length=n→n≤2147483648→Calls Tryz.prog 70 #[.string s] w (RetNum s.data.toList w):=by
 intro n;induction n with
 | zero=>
  intro s w hs _;have hz:s.data.toList=[]:=List.eq_nil_of_length_eq_zero hs;have hsz:s.size=0:=by have h6:s.data.toList.length=s.data.size:=Array.length_toList;show s.data.size=0;omega
  have d0:(s.toList == [])=true:=by rw[str_eq56,hz];rfl
  have d1:s.toList.isEmpty=true:=by rw[ByteArray.toList_eq,hz];rfl
  rw[hz];have HZ:=hid hz;have hlt:decide (1 < (s.size:Int))=false:=decide_eq_false (by omega);have HSZ:=hid hsz;clear hz hs hsz;go_enter Tryz.func70,Tryz.ntmps70;go_wp2;go_ret2;exact RetNum.mk rfl (fun h=>by cases h) (by decide)
 | succ n ih=>
  intro s w hs hn;obtain⟨l,hl⟩:∃ l,l=s.data.toList:=⟨_,rfl⟩
  have hlen:l.length=s.size:=by rw[hl];rfl
  have hgb:∀ j (h:j < s.size) (h':j < l.length),l[j]=s[j]:=by subst hl;exact get_byte s
  rw[← hl] at hs ⊢;have h0:0 < s.size:=by omega
  have hs31:s.size≤2147483648:=by omega
  have e0:l.headD 0=s[0]:=by
   rw[← hgb 0 h0 (by omega)];cases l with
   | nil=>simp at hs
   | cons a r=>rfl
  have d1:s.toList.isEmpty=false:=by
   rw[ByteArray.toList_eq,← hl];cases l with
   | nil=>simp at hs
   | cons a r=>rfl
  have d0:(s.toList == [])=false:=by
   rw[ByteArray.toList_eq,← hl];cases l with
   | nil=>simp at hs
   | cons a r=>rfl
  obtain⟨c0,hc0⟩:∃ c0:Int,c0=(s[0]'h0).toNat:=⟨_,rfl⟩
  have hcc:((s[0]'h0).toNat:Int)=c0:=hc0.symm;have hhead:∀ b:UInt8,(l.headD 0=b ↔ c0=(b.toNat:Int)):=fun b=>by
   rw[e0,hc0];constructor
   ·intro e;rw[e]
   ·intro e;exact UInt8.toNat_inj.1 (by omega)
  have HHD:=hid hhead;have HL:=hid hl;have HLN:=hid hlen;have HGB:=hid hgb;have HS:=hid hs;clear e0 hc0 hhead hlen hgb hs hl;by_cases hm:1 < s.size∧c0=45
  ·obtain⟨hm1,hm2⟩:=hm;have k1:(c0 == 45)=true:=by rw[hm2];rfl
   have hle:l=45 :: l.tail:=by
    have:=(HHD.out 45).2 hm2;cases l with
    | nil=>simp at HS;exact absurd HS.out (by simp)
    | cons a r=>have ha:a=45:=this;rw[ha];rfl
   have hte:(s.extract 1 s.size).data.toList=l.tail:=by rw[Lib.extract_to_end,← HL.out,List.drop_one]
   have htn:l.tail≠[]:=by
    intro e;have:=HS.out;have h2:=HLN.out;rw[hle,e] at h2;simp at h2;omega
   have hcall:=ih (s.extract 1 s.size) w (by rw[hte,List.length_tail,HS.out];rfl) (by omega);rw[hte] at hcall;obtain⟨p1,p2⟩:=valW_neg htn;rw[← hle] at p1 p2;have HCALL:=hid hcall;have HP1:=hid p1;have HP2:=hid p2;clear hcall p1 p2 htn hte hle ih hm2;go_enter Tryz.func70,Tryz.ntmps70;go_wp2_with (go_at_call 70;refine HCALL.out.mono ?_;intro e w1 hx;obtain⟨v,rfl,hv1,⟨hv2,hv3⟩,rfl⟩:=hx;refine Hid.out ?_);refine hid ?_;have HV1:=hid hv1;have hwv:wrap64 (-v) = -v:=by unfold wrap64;omega
   clear hv1 HCALL;obtain⟨ok,hok⟩:∃ ok,ok=(valW l.tail).2:=⟨_,rfl⟩
   rw[← hok] at HV1 HP1 ⊢;clear hok;cases ok with
   | false=>
    go_wp2;go_ret2;exact RetNum.mk (by rw[HP1.out];rfl) (fun h=>by cases h) (by omega)
   | true=>
    have hvv:=HV1.out rfl;rw[← hvv] at HP1 HP2;have HP1':=hid HP1.out;have HP2':=hid HP2.out;clear hvv HP1 HP2;go_wp2;go_ret2;exact RetNum.mk (by rw[HP1'.out];simp) (fun h=>by rw[HP2'.out (by rw[HP1'.out];simpa using h)]) (by omega)
  ·have hpl:=valW_plain (l:=l) (by
    by_cases h1:1 < s.size
    ·refine .inl ?_;cases hx:minusW l
     ·rfl
     ·refine absurd ⟨h1,(HHD.out 45).1 ?_⟩ hm;unfold minusW at hx;cases l with
      | nil=>cases hx
      | cons a r=>simpa using hx
    ·exact .inr (by rw[HLN.out];omega))
   have HQ1:=hid hpl.1;have HQ2:=hid hpl.2;clear hpl ih;by_cases h1:1 < s.size
   ·have k45:(c0 == 45)=false:=beq_false_of_ne (fun e=>hm ⟨h1,e⟩);clear hm;by_cases h9:s.size≤9
    ·by_cases h48:c0=48
     ·have k48:(c0 == 48)=true:=by rw[h48];rfl
      have HN:Hid ((valW l).2=false):=hid (by rw[HQ1.out,decide_eq_true (show 1 < l.length by rw[HLN.out];exact h1),(HHD.out 48).2 h48];simp);clear h48;go_enter Tryz.func70,Tryz.ntmps70;go_wp2;go_ret2;exact RetNum.mk HN.out.symm (fun h=>by cases h) (by decide)
     ·have k48:(c0 == 48)=false:=beq_false_of_ne h48;have HX:Hid ((decide (1 < l.length) && (l.headD 0 == 48))=false):=hid (by rw[show (l.headD 0 == 48)=false from beq_false_of_ne (fun e=>h48 ((HHD.out 48).1 e)),Bool.and_false]);clear h48;obtain⟨r,hr⟩:∃ r,r=(valW l).2:=⟨_,rfl⟩
      have HRB:Hid (r=l.all isDig):=hid (by rw[hr,HQ1.out,decide_eq_true (show 1≤l.length by rw[HLN.out];omega),decide_eq_true (show l.length≤9 by rw[HLN.out];omega),HX.out];simp);have HR:=hid hr;clear hr;go_enter Tryz.func70,Tryz.ntmps70;go_wp2
      go_loop [6,7] (fun nv iv=>∃ k:Nat,k≤s.size∧nv=.int .i64 (numL (l.take k))∧iv=.int .i64 k∧Hid ((l.take k).all isDig=true)) (fun _ iv=>s.size - (intOf iv).toNat)
      case atStart=>exact⟨0,Nat.zero_le _,rfl,rfl,hid rfl⟩
      case round=>
       obtain⟨k,hk,rfl,rfl,HT⟩:=hrel;by_cases hlt:k < s.size
       ·have hll:k < l.length:=by rw[HLN.out];exact hlt
        have hq:=HGB.out k hlt hll;have HBADD:=hid (fun h=>all_bad56 (l:=l) hll h);have HGOOD:=hid (fun h=>all_snoc56 (l:=l) hll HT.out h);have HNS:=hid (numL_step56 hll);have hnb:=numL_bd9 (List.all_eq_true.1 HT.out) (by rw[List.length_take];omega);obtain⟨c,hcc2⟩:∃ c:Int,c=(s[k]'hlt).toNat:=⟨_,rfl⟩
        have hc1:((s[k]'hlt).toNat:Int)=c:=hcc2.symm;have HDC:Hid (isDig l[k]=(decide (48≤c) && decide (c≤57))∧digOf l[k]=c - 48):=hid (by rw[hq,hcc2];exact⟨rfl,rfl⟩);have hc255:0≤c∧c≤255:=by have:=(s[k]'hlt).toNat_lt;omega
        obtain⟨nk,hnk⟩:∃ nk,nk=numL (l.take k):=⟨_,rfl⟩
        rw[← hnk] at HNS hnb ⊢;obtain⟨hnb1,hnb2⟩:=hnb;obtain⟨hcA,hcB⟩:=hc255;have HLT:=hid hlt;have hwk:wrap64 ((k:Int)+1)=(k:Int)+1:=by unfold wrap64;omega
        clear hcc2 hq hnk;rcases Int.lt_or_le c 48 with x | x
        ·have HN:Hid (r=false):=hid (by rw[HRB.out,HBADD.out (by rw[HDC.out.1,decide_eq_false (by omega)];rfl)]);clear hll HNS HGOOD HBADD HDC;go_wp2;go_ret2;exact RetNum.mk (by rw[← HR.out,HN.out]) (fun h=>by cases h) (by decide)
        ·rcases Int.lt_or_le 57 c with y | y
         ·have HN:Hid (r=false):=hid (by rw[HRB.out,HBADD.out (by rw[HDC.out.1,decide_eq_false (show ¬ c≤57 by omega),Bool.and_false])]);clear hll HNS HGOOD HBADD HDC;go_wp2;go_ret2;exact RetNum.mk (by rw[← HR.out,HN.out]) (fun h=>by cases h) (by decide)
         ·have HG2:=hid (HGOOD.out (by rw[HDC.out.1,decide_eq_true x,decide_eq_true y];rfl));have HN2:Hid (numL (l.take (k+1))=10*nk+(c - 48)):=hid (by rw[HNS.out,HDC.out.2]);clear hll HNS HGOOD HBADD HDC;go_wp2
          go_round
          case rel=>exact⟨k+1,HLT.out,(by rw[HN2.out]),(by first | rfl | (rw[hwk];rfl)),HG2⟩
          case measure=>(try rw[hwk]);exact meas_step5b HLT.out
       ·obtain rfl:k=s.size:=by omega
        have htk:l.take s.size=l:=by rw[← HLN.out,List.take_length]
        have HA:Hid (r=true):=hid (by rw[HRB.out];have:=HT.out;rw[htk] at this;exact this);have HV:Hid (numL (l.take s.size)=(valW l).1):=hid (by rw[htk,HQ2.out (by rw[← HR.out];exact HA.out)]);have hnb:=numL_bd9 (List.all_eq_true.1 HT.out) (by rw[List.length_take];omega);obtain⟨nk,hnk⟩:∃ nk,nk=numL (l.take s.size):=⟨_,rfl⟩
        rw[← hnk] at HV hnb ⊢;have HNB:=hid hnb;clear htk HT hnk hnb;go_wp2;go_ret2;exact RetNum.mk (by rw[← HR.out,HA.out]) (fun _=>HV.out) (by have:=HNB.out;omega)
    ·have HN:Hid ((valW l).2=false):=hid (by rw[HQ1.out,decide_eq_false (show ¬ l.length≤9 by rw[HLN.out];exact h9)];simp);go_enter Tryz.func70,Tryz.ntmps70;go_wp2;go_ret2;exact RetNum.mk HN.out.symm (fun h=>by cases h) (by decide)
   ·have HX:Hid ((decide (1 < l.length) && (l.headD 0 == 48))=false):=hid (by rw[decide_eq_false (show ¬ 1 < l.length by rw[HLN.out];exact h1)];rfl);have h9:s.size≤9:=by omega
    have d12:decide (1 < (s.size:Int))=false:=decide_eq_false (by omega);clear hm;obtain⟨r,hr⟩:∃ r,r=(valW l).2:=⟨_,rfl⟩
    have HRB:Hid (r=l.all isDig):=hid (by rw[hr,HQ1.out,decide_eq_true (show 1≤l.length by rw[HLN.out];omega),decide_eq_true (show l.length≤9 by rw[HLN.out];omega),HX.out];simp);have HR:=hid hr;clear hr;go_enter Tryz.func70,Tryz.ntmps70;go_wp2
    go_loop [6,7] (fun nv iv=>∃ k:Nat,k≤s.size∧nv=.int .i64 (numL (l.take k))∧iv=.int .i64 k∧Hid ((l.take k).all isDig=true)) (fun _ iv=>s.size - (intOf iv).toNat)
    case atStart=>exact⟨0,Nat.zero_le _,rfl,rfl,hid rfl⟩
    case round=>
     obtain⟨k,hk,rfl,rfl,HT⟩:=hrel;by_cases hlt:k < s.size
     ·have hll:k < l.length:=by rw[HLN.out];exact hlt
      have hq:=HGB.out k hlt hll;have HBADD:=hid (fun h=>all_bad56 (l:=l) hll h);have HGOOD:=hid (fun h=>all_snoc56 (l:=l) hll HT.out h);have HNS:=hid (numL_step56 hll);have hnb:=numL_bd9 (List.all_eq_true.1 HT.out) (by rw[List.length_take];omega);obtain⟨c,hcc2⟩:∃ c:Int,c=(s[k]'hlt).toNat:=⟨_,rfl⟩
      have hc1:((s[k]'hlt).toNat:Int)=c:=hcc2.symm;have HDC:Hid (isDig l[k]=(decide (48≤c) && decide (c≤57))∧digOf l[k]=c - 48):=hid (by rw[hq,hcc2];exact⟨rfl,rfl⟩);have hc255:0≤c∧c≤255:=by have:=(s[k]'hlt).toNat_lt;omega
      obtain⟨nk,hnk⟩:∃ nk,nk=numL (l.take k):=⟨_,rfl⟩
      rw[← hnk] at HNS hnb ⊢;obtain⟨hnb1,hnb2⟩:=hnb;obtain⟨hcA,hcB⟩:=hc255;have HLT:=hid hlt;have hwk:wrap64 ((k:Int)+1)=(k:Int)+1:=by unfold wrap64;omega
      clear hcc2 hq hnk;rcases Int.lt_or_le c 48 with x | x
      ·have HN:Hid (r=false):=hid (by rw[HRB.out,HBADD.out (by rw[HDC.out.1,decide_eq_false (by omega)];rfl)]);clear hll HNS HGOOD HBADD HDC;go_wp2;go_ret2;exact RetNum.mk (by rw[← HR.out,HN.out]) (fun h=>by cases h) (by decide)
      ·rcases Int.lt_or_le 57 c with y | y
       ·have HN:Hid (r=false):=hid (by rw[HRB.out,HBADD.out (by rw[HDC.out.1,decide_eq_false (show ¬ c≤57 by omega),Bool.and_false])]);clear hll HNS HGOOD HBADD HDC;go_wp2;go_ret2;exact RetNum.mk (by rw[← HR.out,HN.out]) (fun h=>by cases h) (by decide)
       ·have HG2:=hid (HGOOD.out (by rw[HDC.out.1,decide_eq_true x,decide_eq_true y];rfl));have HN2:Hid (numL (l.take (k+1))=10*nk+(c - 48)):=hid (by rw[HNS.out,HDC.out.2]);clear hll HNS HGOOD HBADD HDC;go_wp2
        go_round
        case rel=>exact⟨k+1,HLT.out,(by rw[HN2.out]),(by first | rfl | (rw[hwk];rfl)),HG2⟩
        case measure=>(try rw[hwk]);exact meas_step5b HLT.out
     ·obtain rfl:k=s.size:=by omega
      have htk:l.take s.size=l:=by rw[← HLN.out,List.take_length]
      have HA:Hid (r=true):=hid (by rw[HRB.out];have:=HT.out;rw[htk] at this;exact this);have HV:Hid (numL (l.take s.size)=(valW l).1):=hid (by rw[htk,HQ2.out (by rw[← HR.out];exact HA.out)]);have hnb:=numL_bd9 (List.all_eq_true.1 HT.out) (by rw[List.length_take];omega);obtain⟨nk,hnk⟩:∃ nk,nk=numL (l.take s.size):=⟨_,rfl⟩
      rw[← hnk] at HV hnb ⊢;have HNB:=hid hnb;clear htk HT hnk hnb;go_wp2;go_ret2;exact RetNum.mk (by rw[← HR.out,HA.out]) (fun _=>HV.out) (by have:=HNB.out;omega)

def digT (q:Int):Nat→Int→List Int
 | 0,_=>[]
 | k+1,n=>(n % q) :: digT q k (n / q)
def digR (q:Int):Nat→Int→Int
 | 0,n=>n
 | k+1,n=>digR q k (n / q)
theorem digT_snoc (q:Int):∀ (k:Nat)(n:Int),digT q (k+1) n=digT q k n ++ [digR q k n % q]
 | 0,n=>rfl
 | k+1,n=>by
  show (n % q) :: digT q (k+1) (n / q)=_;rw[digT_snoc q k (n / q)];rfl
theorem digR_snoc (q:Int):∀ (k:Nat)(n:Int),digR q (k+1) n=digR q k n / q
 | 0,n=>rfl
 | k+1,n=>digR_snoc q k (n / q)
theorem digT_len (q:Int):∀ (k:Nat)(n:Int),(digT q k n).length=k
 | 0,n=>rfl
 | k+1,n=>by rw[digT,List.length_cons,digT_len q k]
theorem digR_rng {q:Int}(hq:1≤q):∀ (k:Nat)(n:Int),0≤n→0≤digR q k n∧digR q k n≤n
 | 0,n,h=>⟨h,Int.le_refl _⟩
 | k+1,n,h=>by
  have h1:0≤n / q:=Int.ediv_nonneg h (by omega);have h2:n / q≤n:=Int.ediv_le_self q h;obtain⟨a,b⟩:=digR_rng hq k (n / q) h1;exact⟨a,Int.le_trans b h2⟩
def digsT (q n:Int):List Int × Int:=
 if q < 2∨8 < q then ([],2) else if n < 0 then ([],5) else if 0 < digR q (3*q - 2).toNat n then ([],5) else (digT q (3*q - 2).toNat n,0)
def RetIE (ze:List Int × Int)(w:World)(e:Ending)(w':World):Prop:=∃ A c,e=.returned (.tuple #[.slice A ze.1.length c,.int .i64 ze.2])∧Ints w' A ze.1∧Below w.heap.size w w'
set_option maxHeartbeats 4000000 in
theorem sums_any (q:Int)(w:World)(h1:2≤q)(h2:q≤8):Calls Tryz.prog 199 #[.int .i64 q] w fun e w'=>e=.returned (.int .i64 (3*q - 2))∧w'=w:=by
 have e1:wrap64 (3*q)=3*q:=by unfold wrap64;omega
 have e2:wrap64 (3*q - 2)=3*q - 2:=by unfold wrap64;omega
 clear h1 h2;go_enter Tryz.func199,Tryz.ntmps199;go_wp2;go_ret;exact⟨ret_int e2,rfl⟩
theorem quo_ok {r q n:Int}(h0:0≤r)(h1:r≤n)(hn:n≤9223372036854775807)(hq:2≤q):wrap64 (r.tdiv q)=r / q:=by
 rw[Int.tdiv_eq_ediv_of_nonneg h0];have h2:0≤r / q:=Int.ediv_nonneg h0 (by omega);have h3:r / q≤r:=Int.ediv_le_self q h0;generalize r / q=t at *;unfold wrap64;omega
set_option maxHeartbeats 4000000 in
theorem digits_any (q n:Int)(w:World)(hn64:n≤9223372036854775807):Calls Tryz.prog 160 #[.int .i64 q,.int .i64 n] w (RetIE (digsT q n) w):=by
 have HN:=hid hn64;clear hn64;by_cases h2:q < 2
 ·have d1:decide (q < 2)=true:=decide_eq_true h2;have HE:Hid (digsT q n=([],2)):=hid (by unfold digsT;rw[if_pos (.inl h2)]);clear h2;go_enter Tryz.func160,Tryz.ntmps160;go_wp2;go_ret2;rw[HE.out];exact⟨none,0,rfl,Ints.nil,Below.refl _ _⟩
 have d1:decide (q < 2)=false:=decide_eq_false h2;by_cases h8:8 < q
 ·have d2:decide (8 < q)=true:=decide_eq_true h8;have HE:Hid (digsT q n=([],2)):=hid (by unfold digsT;rw[if_pos (.inr h8)]);clear h2 h8;go_enter Tryz.func160,Tryz.ntmps160;go_wp2;go_ret2;rw[HE.out];exact⟨none,0,rfl,Ints.nil,Below.refl _ _⟩
 have d2:decide (8 < q)=false:=decide_eq_false h8;by_cases hn:n < 0
 ·have d3:decide (n < 0)=true:=decide_eq_true hn;have HE:Hid (digsT q n=([],5)):=hid (by unfold digsT;rw[if_neg (by omega),if_pos hn]);clear h2 h8 hn;go_enter Tryz.func160,Tryz.ntmps160;go_wp2;go_ret2;rw[HE.out];exact⟨none,0,rfl,Ints.nil,Below.refl _ _⟩
 have d3:decide (n < 0)=false:=decide_eq_false hn;have HS:=hid (sums_any q w (by omega) (by omega));have HQ:Hid (2≤q∧q≤8∧0≤n):=hid (by omega);obtain⟨K,hK⟩:∃ K:Nat,K=(3*q - 2).toNat:=⟨_,rfl⟩
 have hKi:3*q - 2=(K:Int):=by omega
 have HK:Hid (K≤22):=hid (by omega);have HE0:Hid (digsT q n=if 0 < digR q K n then ([],5) else (digT q K n,0)):=hid (by unfold digsT;rw[if_neg (by omega),if_neg hn,hK]);rw[hKi] at HS;clear h2 h8 hn hK hKi;go_enter Tryz.func160,Tryz.ntmps160;go_wp2_with (go_at_call 199;refine HS.out.mono ?_;intro e w9 hx9;obtain⟨rfl,hw9⟩:=hx9;subst hw9;refine Hid.out ?_);refine hid ?_;clear d1 d2 d3;go_wp2;go_loopw [1,6,17] (fun nv lv iv wr=>∃ k:Nat,k≤K∧iv=.int .i64 k∧nv=.int .i64 (digR q k n)∧Hid (OwnI 3 wr w9.heap.size lv (digT q k n))∧Hid (Below w9.heap.size w9 wr)) (fun _ _ iv _=>K - (intOf iv).toNat)
 case atStart=>exact⟨0,Nat.zero_le _,rfl,rfl,hid (OwnI.nil _ _ _),hid (Below.refl _ _)⟩
 case round=>
  obtain⟨k,hk,rfl,rfl,HO,HB⟩:=hrel;have hwk:wrap64 ((k:Int)+1)=(k:Int)+1:=by have:=HK.out;unfold wrap64;omega
  obtain⟨r,hr⟩:∃ r,r=digR q k n:=⟨_,rfl⟩
  have hrr:=digR_rng (q:=q) (by have:=HQ.out;omega) k n HQ.out.2.2;rw[← hr] at hrr ⊢;by_cases hkK:k < K
  ·have hown:=HO.out;have hln:(digT q k n).length < 4294967296:=by rw[digT_len];have:=HK.out;omega
   have hq0:¬ q=0:=by have:=HQ.out;omega
   have HKK:=hid hkK;have HR:=hid hr;have HRR:=hid hrr;have hws:w9.heap.size≤wr.heap.size:=HB.out.size;clear hr hk;go_wp2_with (at_builtin;refine wpList_pushI rfl _ _ _ rfl w9.heap.size 3 Tryz.underlying142 Tryz.infoInt _ _ rfl hown _ rfl hln hws ?_);intro v6 w6 ho6 hb6;have HO6:Hid (OwnI 3 w6 w9.heap.size v6 (digT q (k+1) n)):=hid (by rw[digT_snoc,← HR.out];exact ho6);have HB6:Hid (Below w9.heap.size w9 w6):=hid (HB.out.trans hb6);clear ho6 hb6 hown hws hln;go_wp2;go_roundw
   case rel=>exact⟨k+1,HKK.out,(by first | rfl | (rw[hwk];rfl)),(by rw[digR_snoc,HR.out];exact congrArg (Value.int .i64) (by rw[← HR.out];exact quo_ok HRR.out.1 HRR.out.2 HN.out HQ.out.1)),HO6,HB6⟩
   case measure=>(try rw[hwk]);exact meas_step5b HKK.out
  ·have hke:k=K:=Nat.le_antisymm hk (Nat.le_of_not_lt hkK);have HO2:=HO;obtain⟨dA,dc,edv,hdi,-⟩:=HO.out.ints;have HDI:=hid hdi;subst edv;clear hdi hk;by_cases hpos:0 < r
   ·have d4:decide (0 < r)=true:=decide_eq_true hpos;have HE:Hid (digsT q n=([],5)):=hid (by rw[HE0.out,← hke,← hr,if_pos hpos]);clear hpos hke hr;go_wp2;go_ret2;rw[HE.out];exact⟨none,0,rfl,Ints.nil,HB.out⟩
   ·have d4:decide (0 < r)=false:=decide_eq_false hpos;have HE:Hid (digsT q n=(digT q k n,0)):=hid (by rw[HE0.out,← hke,← hr,if_neg hpos]);clear hpos hke hr;go_wp2;go_ret2;rw[HE.out];exact⟨dA,dc,rfl,HDI.out,HB.out⟩
set_option maxHeartbeats 4000000 in
theorem rdigits_any (q n:Int)(w:World)(hn64:n≤9223372036854775807):Calls Tryz.prog 177 #[.int .i64 q,.int .i64 n] w (RetIE (digsT q n) w):=by
 have HN:=hid hn64;clear hn64;by_cases h2:q < 2
 ·have d1:decide (q < 2)=true:=decide_eq_true h2;have HE:Hid (digsT q n=([],2)):=hid (by unfold digsT;rw[if_pos (.inl h2)]);clear h2;go_enter Tryz.func177,Tryz.ntmps177;go_wp2;go_ret2;rw[HE.out];exact⟨none,0,rfl,Ints.nil,Below.refl _ _⟩
 have d1:decide (q < 2)=false:=decide_eq_false h2;by_cases h8:8 < q
 ·have d2:decide (8 < q)=true:=decide_eq_true h8;have HE:Hid (digsT q n=([],2)):=hid (by unfold digsT;rw[if_pos (.inr h8)]);clear h2 h8;go_enter Tryz.func177,Tryz.ntmps177;go_wp2;go_ret2;rw[HE.out];exact⟨none,0,rfl,Ints.nil,Below.refl _ _⟩
 have d2:decide (8 < q)=false:=decide_eq_false h8;by_cases hn:n < 0
 ·have d3:decide (n < 0)=true:=decide_eq_true hn;have HE:Hid (digsT q n=([],5)):=hid (by unfold digsT;rw[if_neg (by omega),if_pos hn]);clear h2 h8 hn;go_enter Tryz.func177,Tryz.ntmps177;go_wp2;go_ret2;rw[HE.out];exact⟨none,0,rfl,Ints.nil,Below.refl _ _⟩
 have d3:decide (n < 0)=false:=decide_eq_false hn;have HQ:Hid (2≤q∧q≤8∧0≤n):=hid (by omega);obtain⟨K,hK⟩:∃ K:Nat,K=(3*q - 2).toNat:=⟨_,rfl⟩
 have hKi:3*q - 2=(K:Int):=by omega
 have HK:Hid (K≤22):=hid (by omega);have HE0:Hid (digsT q n=if 0 < digR q K n then ([],5) else (digT q K n,0)):=hid (by unfold digsT;rw[if_neg (by omega),if_neg hn,hK]);obtain⟨w9,hw9⟩:∃ w9,w9=w:=⟨_,rfl⟩
 subst hw9;have HKI:=hid hKi;have e1:wrap64 (q - 1)=q - 1:=by unfold wrap64;omega
 have e2:wrap64 (3*(q - 1))=3*(q - 1):=by unfold wrap64;omega
 have E12:=hid (And.intro e1 e2);clear e1 e2;clear h2 h8 hn hK hKi;go_enter Tryz.func177,Tryz.ntmps177;go_wp2;clear d1 d2 d3;go_loopw [1,6,7] (fun nv lv iv wr=>∃ k:Nat,k≤K∧iv=.int .i64 k∧nv=.int .i64 (digR q k n)∧Hid (OwnI 3 wr w9.heap.size lv (digT q k n))∧Hid (Below w9.heap.size w9 wr)) (fun _ _ iv _=>K - (intOf iv).toNat)
 case atStart=>exact⟨0,Nat.zero_le _,rfl,rfl,hid (OwnI.nil _ _ _),hid (Below.refl _ _)⟩
 case round=>
  obtain⟨k,hk,rfl,rfl,HO,HB⟩:=hrel;have hwk:wrap64 ((k:Int)+1)=(k:Int)+1:=by have:=HK.out;unfold wrap64;omega
  obtain⟨r,hr⟩:∃ r,r=digR q k n:=⟨_,rfl⟩
  have hrr:=digR_rng (q:=q) (by have:=HQ.out;omega) k n HQ.out.2.2;rw[← hr] at hrr ⊢;obtain⟨e1,e2⟩:=E12.out;by_cases hkK:k < K
  ·have hle:decide ((k:Int)≤3*(q - 1))=true:=decide_eq_true (by have:=HKI.out;omega);have hown:=HO.out;have hln:(digT q k n).length < 4294967296:=by rw[digT_len];have:=HK.out;omega
   have hq0:¬ q=0:=by have:=HQ.out;omega
   have HKK:=hid hkK;have HR:=hid hr;have HRR:=hid hrr;have hws:w9.heap.size≤wr.heap.size:=HB.out.size;clear hr hk;go_wp2_with (at_builtin;refine wpList_pushI rfl _ _ _ rfl w9.heap.size 3 Tryz.underlying142 Tryz.infoInt _ _ rfl hown _ rfl hln hws ?_);intro v6 w6 ho6 hb6;have HO6:Hid (OwnI 3 w6 w9.heap.size v6 (digT q (k+1) n)):=hid (by rw[digT_snoc,← HR.out];exact ho6);have HB6:Hid (Below w9.heap.size w9 w6):=hid (HB.out.trans hb6);clear ho6 hb6 hown hws hln;go_wp2;go_roundw
   case rel=>exact⟨k+1,HKK.out,(by first | rfl | (rw[hwk];rfl)),(by rw[digR_snoc,HR.out];exact congrArg (Value.int .i64) (by rw[← HR.out];exact quo_ok HRR.out.1 HRR.out.2 HN.out HQ.out.1)),HO6,HB6⟩
   case measure=>(try rw[hwk]);exact meas_step5b HKK.out
  ·have hle:decide ((k:Int)≤3*(q - 1))=false:=decide_eq_false (by have:=HKI.out;omega);have hke:k=K:=Nat.le_antisymm hk (Nat.le_of_not_lt hkK);have HO2:=HO;obtain⟨dA,dc,edv,hdi,-⟩:=HO.out.ints;have HDI:=hid hdi;subst edv;clear hdi hk;by_cases hpos:0 < r
   ·have d4:decide (0 < r)=true:=decide_eq_true hpos;have HE:Hid (digsT q n=([],5)):=hid (by rw[HE0.out,← hke,← hr,if_pos hpos]);clear hpos hke hr;go_wp2;go_ret2;rw[HE.out];exact⟨none,0,rfl,Ints.nil,HB.out⟩
   ·have d4:decide (0 < r)=false:=decide_eq_false hpos;have HE:Hid (digsT q n=(digT q k n,0)):=hid (by rw[HE0.out,← hke,← hr,if_neg hpos]);clear hpos hke hr;go_wp2;go_ret2;rw[HE.out];exact⟨dA,dc,rfl,HDI.out,HB.out⟩
def numeralB (l:List UInt8):Bool:=l.all isDig && decide (1≤l.length) && !(decide (1 < l.length) && (l.headD 0 == 48))
def tenL:List UInt8:=[48,49,50,51,52,53,54,55,56,57]
theorem ten_dig (c:UInt8):tenL.contains c=isDig c:=by
 have h:∀ n:Fin 256,tenL.contains (UInt8.ofNat n.1)=isDig (UInt8.ofNat n.1):=by decide
 have:=h ⟨c.toNat,c.toNat_lt⟩;rwa [UInt8.ofNat_toNat] at this
theorem dropW_nil {p:UInt8→Bool}:∀ {l:List UInt8},l.all p=true→l.dropWhile p=[]
 | [],_=>rfl
 | a :: l,h=>by
  rw[List.all_cons,Bool.and_eq_true] at h;rw[List.dropWhile_cons,h.1];exact dropW_nil h.2
theorem dropW_some {p:UInt8→Bool}:∀ {l:List UInt8},l.any (fun c=>!p c)=true→(l.dropWhile p).any (fun c=>!p c)=true
 | a :: l,h=>by
  rw[List.dropWhile_cons];cases ha:p a with
  | true=>
   rw[List.any_cons,ha] at h;exact dropW_some h
  | false=>
   simp only[Bool.false_eq_true,if_false];rw[List.any_cons,ha];rfl
theorem trim_ten (l:List UInt8):(Lib.trimS l tenL).isEmpty=l.all isDig:=by
 unfold Lib.trimS Lib.trimLeftS Lib.trimRightS;rw[show (fun x=>tenL.contains x)=isDig from funext ten_dig];cases h:l.all isDig with
 | true=>
  rw[dropW_nil (l:=l.reverse) (by rw[List.all_reverse];exact h)];rfl
 | false=>
  have h1:l.reverse.any (fun c=>!isDig c)=true:=by
   rw[List.any_reverse];rw[List.all_eq_false] at h;obtain⟨x,hx,hx2⟩:=h;exact List.any_eq_true.2 ⟨x,hx,by simpa using hx2⟩
  have h2:=dropW_some h1;have h3:((l.reverse.dropWhile isDig).reverse).any (fun c=>!isDig c)=true:=by rw[List.any_reverse];exact h2
  have h4:=dropW_some h3;cases hx:((l.reverse.dropWhile isDig).reverse).dropWhile isDig with
  | nil=>rw[hx] at h4;cases h4
  | cons a r=>rfl
theorem parseUint_digits:∀ (l:List UInt8)(acc:Nat),l.all isDig=true→(∃ v,Lib.parseUint10 acc l=.ok v)∨Lib.parseUint10 acc l=.range
 | [],acc,_=>.inl ⟨acc,by unfold Lib.parseUint10;rfl⟩
 | c :: l,acc,h=>by
  rw[List.all_cons,Bool.and_eq_true] at h;have hc:=h.1;unfold isDig at hc;simp only[Bool.and_eq_true,decide_eq_true_eq] at hc;unfold Lib.parseUint10;rw[if_pos (by omega)]
  split
  ·exact .inr rfl
  ·split
   ·exact .inr rfl
   ·exact parseUint_digits l _ h.2
theorem atoi_numeral {l:List UInt8}(h:numeralB l=true):(∃ v,Lib.atoiAll l=.ok v∧v≤9223372036854775807)∨Lib.atoiAll l=.range:=by
 unfold numeralB at h;simp only[Bool.and_eq_true,decide_eq_true_eq] at h;cases l with
 | nil=>simp at h
 | cons c r=>
  have hc:isDig c=true:=by have:=h.1.1;rw[List.all_cons,Bool.and_eq_true] at this;exact this.1
  unfold isDig at hc;simp only[Bool.and_eq_true,decide_eq_true_eq] at hc;have h45:¬ c.toNat=45:=by omega
  have h43:¬ (c.toNat=43∨c.toNat=45):=by omega
  unfold Lib.atoiAll;dsimp only;rw[if_neg h43];have hs:=parseUint_digits (c :: r) 0 h.1.1;have hm:Lib.parseMag (c :: r)=Lib.parseUint10 0 (c :: r):=by unfold Lib.parseMag;rw[if_neg (by simp)]
  rw[hm];rcases hs with ⟨u,hp⟩ | hp
  ·rw[hp];by_cases hu:9223372036854775808≤u
   ·refine .inr ?_;simp[hu,h45]
   ·refine .inl ⟨(u:Int),?_,by omega⟩;simp[hu,h45]
  ·rw[hp];exact .inr rfl
def ErrV (w:World):Prop:=∃ ev,w.cell? ⟨5,0,none⟩=some ev∧(ev=.nilIface∨∃ te pe,ev=.iface te pe)
theorem ErrV.ext {w w':World}(h:ErrV w)(hb:Below w.heap.size w w'):ErrV w':=by
 obtain⟨ev,h1,h2⟩:=h;exact⟨ev,by rw[hb.cell (World.block_lt_of_cell? _ _ h1)];exact h1,h2⟩
def RetWn (l:List UInt8)(w:World)(e:Ending)(w':World):Prop:=∃ v b,e=.returned (.tuple #[.int .i64 v,.bool (numeralB l),.bool b])∧v≤9223372036854775807∧(numeralB l=false→b=false)∧Below w.heap.size w w'
theorem RetWn.mk {l:List UInt8}{w w':World}{v:Int}{b c:Bool}(hb:numeralB l=c)(hv:v≤9223372036854775807)(h:c=false→b=false)(hw:Below w.heap.size w w'):RetWn l w (.returned (.tuple #[.int .i64 v,.bool c,.bool b])) w':=
 ⟨v,b,by rw[hb],hv,fun h2=>h (by rw[← hb];exact h2),hw⟩
set_option maxHeartbeats 8000000 in
theorem wnumber_any (s:ByteArray)(w:World)(he:ErrV w)(hs:s.data.toList.length≤2147483648):Calls Tryz.prog 159 #[.string s] w (RetWn s.data.toList w):=by
 obtain⟨l,hl⟩:∃ l,l=s.data.toList:=⟨_,rfl⟩
 have hlen:l.length=s.size:=by rw[hl];rfl
 have hgb:∀ j (h:j < s.size) (h':j < l.length),l[j]=s[j]:=by subst hl;exact get_byte s
 have hs9:s.size≤2147483648:=by rw[← hl] at hs;omega
 have htr:=@Any.strings_Trim_laid _ _ Tryz.lays160 (by kernel_rfl) s ⟨#[48,49,50,51,52,53,54,55,56,57]⟩ w (by omega) (by decide) (ascii_of_all (by decide));rw[← hl,show (⟨#[48,49,50,51,52,53,54,55,56,57]⟩:ByteArray).data.toList=tenL from rfl] at htr;obtain⟨tr,htr2⟩:∃ tr,tr=Lib.trimS l tenL:=⟨_,rfl⟩
 rw[← htr2] at htr;have hte:=trim_ten l;rw[← htr2] at hte;rw[← hl];have HTR:=hid htr;have HL:=hid hl;have HLN:=hid hlen;have HGB:=hid hgb;clear htr htr2 hs hgb hlen;by_cases h0:0 < s.size
 ·have hln:1≤l.length:=by rw[HLN.out];exact h0
  have d1:s.toList.isEmpty=false:=by
   rw[ByteArray.toList_eq,← hl];cases l with
   | nil=>simp at hln
   | cons a r=>rfl
  have e0:l.headD 0=s[0]:=by
   rw[← HGB.out 0 h0 (by omega)];cases l with
   | nil=>simp at hln
   | cons a r=>rfl
  obtain⟨c0,hc0⟩:∃ c0:Int,c0=(s[0]'h0).toNat:=⟨_,rfl⟩
  have hcc:((s[0]'h0).toNat:Int)=c0:=hc0.symm;have HHD:Hid (l.headD 0=48 ↔ c0=48):=hid (by
   rw[e0,hc0];constructor
   ·intro e;rw[e];rfl
   ·intro e;exact UInt8.toNat_inj.1 (by have:(48:UInt8).toNat=48:=rfl;omega))
  clear e0 hc0 hl;by_cases h1:1 < s.size
  ·by_cases h48:c0=48
   ·have k48:(c0 == 48)=true:=by rw[h48];rfl
    have HN:Hid (numeralB l=false):=hid (by unfold numeralB;rw[decide_eq_true (show 1 < l.length by rw[HLN.out];exact h1),HHD.out.2 h48];simp);clear h48 hte hln;go_enter Tryz.func159,Tryz.ntmps159;go_wp2;go_ret3;exact RetWn.mk HN.out (by decide) (fun _=>rfl) (Below.refl _ _)
   ·have k48:(c0 == 48)=false:=beq_false_of_ne h48;have HX:Hid ((decide (1 < l.length) && (l.headD 0 == 48))=false):=hid (by rw[show (l.headD 0 == 48)=false from beq_false_of_ne (fun e=>h48 (HHD.out.1 e)),Bool.and_false]);clear h48;have HNX:Hid (numeralB l=l.all isDig):=hid (by unfold numeralB;rw[decide_eq_true (show 1≤l.length by omega),HX.out];simp);have HTE:Hid (tr.isEmpty=l.all isDig):=hid hte;cases hal:l.all isDig with
    | false=>
     have HN:Hid (numeralB l=false):=hid (by rw[HNX.out,hal]);have t1:tr.isEmpty=false:=by rw[HTE.out,hal]
     clear hal hte;go_enter Tryz.func159,Tryz.ntmps159;go_wp2_with (go_at_call 198;refine HTR.out.mono ?_;intro e w1 hx;obtain⟨rfl,hb1⟩:=hx;refine Hid.out ?_);refine hid ?_;have HB1:=hid hb1;clear hb1 HTR;go_wp2;go_ret3;exact RetWn.mk HN.out (by decide) (fun _=>rfl) HB1.out
    | true=>
     have HN:Hid (numeralB l=true):=hid (by rw[HNX.out,hal]);have t1:tr.isEmpty=true:=by rw[HTE.out,hal]
     clear hal hte;go_enter Tryz.func159,Tryz.ntmps159;go_wp2_with (go_at_call 198;refine HTR.out.mono ?_;intro e w1 hx;obtain⟨rfl,hb1⟩:=hx;refine Hid.out ?_);refine hid ?_;have HB1:=hid hb1;clear hb1 HTR;go_upto_region 3 with fail
     clear t1;rcases atoi_numeral HN.out with ⟨v,hv,hv2⟩ | hv
     ·have HC2:=hid ((Tryz.strconv_Atoi_ok s (by omega) v (by rw[← HL.out];exact hv) w1).mono (fun e w' h=>(⟨h.1,by rcases h.2 with e2 | ⟨t,e2⟩;(rw[e2];exact Below.refl _ _);(rw[e2];exact below_bytes56 _ _ _)⟩:_∧Below w1.heap.size w1 w')));have HV:=hid hv2;clear hv hv2;go_wp2_with (go_at_call 103;refine HC2.out.mono ?_;intro e w2 hx;obtain⟨rfl,hb2⟩:=hx;refine Hid.out ?_);refine hid ?_;have HB2:=hid (HB1.out.trans (hb2.mono HB1.out.size));clear hb2 HC2;go_upto_region 4 with fail
      go_quiet (fail)
      go_wp2;go_ret3;exact RetWn.mk HN.out HV.out (fun h=>by cases h) (below_drewN HB2.out _)
     ·obtain⟨ev,hev1,hev2⟩:=he.ext HB1.out;have HC2:=hid ((Tryz.strconv_Atoi_range s (by omega) (by rw[← HL.out];exact hv) ev w1 hev1 hev2).mono (fun e w' h=>(by obtain⟨N,h1,-,-,h2⟩:=h;exact⟨N,h1,h2⟩:∃ N,_∧Below w1.heap.size w1 w')));have HS:Hid (Lib.atoiSat s.data.toList≤9223372036854775807):=hid (by unfold Lib.atoiSat;split <;> decide);clear hv hev1 hev2;go_wp2_with (go_at_call 103;refine HC2.out.mono ?_;intro e w2 hx;obtain⟨N,rfl,hb2⟩:=hx;refine Hid.out ?_);refine hid ?_;have HB2:=hid (HB1.out.trans (hb2.mono HB1.out.size));clear hb2 HC2;go_upto_region 4 with fail
      go_quiet (fail)
      go_wp2;go_ret3;exact RetWn.mk HN.out HS.out (fun h=>by cases h) (below_drewN HB2.out _)
  ·have HX:Hid ((decide (1 < l.length) && (l.headD 0 == 48))=false):=hid (by rw[decide_eq_false (show ¬ 1 < l.length by rw[HLN.out];exact h1)];rfl);have d12:decide (1 < (s.size:Int))=false:=decide_eq_false (by omega);have HNX:Hid (numeralB l=l.all isDig):=hid (by unfold numeralB;rw[decide_eq_true (show 1≤l.length by omega),HX.out];simp);have HTE:Hid (tr.isEmpty=l.all isDig):=hid hte;cases hal:l.all isDig with
   | false=>
    have HN:Hid (numeralB l=false):=hid (by rw[HNX.out,hal]);have t1:tr.isEmpty=false:=by rw[HTE.out,hal]
    clear hal hte;go_enter Tryz.func159,Tryz.ntmps159;go_wp2_with (go_at_call 198;refine HTR.out.mono ?_;intro e w1 hx;obtain⟨rfl,hb1⟩:=hx;refine Hid.out ?_);refine hid ?_;have HB1:=hid hb1;clear hb1 HTR;go_wp2;go_ret3;exact RetWn.mk HN.out (by decide) (fun _=>rfl) HB1.out
   | true=>
    have HN:Hid (numeralB l=true):=hid (by rw[HNX.out,hal]);have t1:tr.isEmpty=true:=by rw[HTE.out,hal]
    clear hal hte;go_enter Tryz.func159,Tryz.ntmps159;go_wp2_with (go_at_call 198;refine HTR.out.mono ?_;intro e w1 hx;obtain⟨rfl,hb1⟩:=hx;refine Hid.out ?_);refine hid ?_;have HB1:=hid hb1;clear hb1 HTR;go_upto_region 3 with fail
    clear t1;rcases atoi_numeral HN.out with ⟨v,hv,hv2⟩ | hv
    ·have HC2:=hid ((Tryz.strconv_Atoi_ok s (by omega) v (by rw[← HL.out];exact hv) w1).mono (fun e w' h=>(⟨h.1,by rcases h.2 with e2 | ⟨t,e2⟩;(rw[e2];exact Below.refl _ _);(rw[e2];exact below_bytes56 _ _ _)⟩:_∧Below w1.heap.size w1 w')));have HV:=hid hv2;clear hv hv2;go_wp2_with (go_at_call 103;refine HC2.out.mono ?_;intro e w2 hx;obtain⟨rfl,hb2⟩:=hx;refine Hid.out ?_);refine hid ?_;have HB2:=hid (HB1.out.trans (hb2.mono HB1.out.size));clear hb2 HC2;go_upto_region 4 with fail
     go_quiet (fail)
     go_wp2;go_ret3;exact RetWn.mk HN.out HV.out (fun h=>by cases h) (below_drewN HB2.out _)
    ·obtain⟨ev,hev1,hev2⟩:=he.ext HB1.out;have HC2:=hid ((Tryz.strconv_Atoi_range s (by omega) (by rw[← HL.out];exact hv) ev w1 hev1 hev2).mono (fun e w' h=>(by obtain⟨N,h1,-,-,h2⟩:=h;exact⟨N,h1,h2⟩:∃ N,_∧Below w1.heap.size w1 w')));have HS:Hid (Lib.atoiSat s.data.toList≤9223372036854775807):=hid (by unfold Lib.atoiSat;split <;> decide);clear hv hev1 hev2;go_wp2_with (go_at_call 103;refine HC2.out.mono ?_;intro e w2 hx;obtain⟨N,rfl,hb2⟩:=hx;refine Hid.out ?_);refine hid ?_;have HB2:=hid (HB1.out.trans (hb2.mono HB1.out.size));clear hb2 HC2;go_upto_region 4 with fail
     go_quiet (fail)
     go_wp2;go_ret3;exact RetWn.mk HN.out HS.out (fun h=>by cases h) (below_drewN HB2.out _)
 ·have hz:l=[]:=List.eq_nil_of_length_eq_zero (by rw[HLN.out];omega);have d1:s.toList.isEmpty=true:=by rw[ByteArray.toList_eq,← hl,hz];rfl
  have HN:Hid (numeralB l=false):=hid (by rw[hz];rfl);clear hz hl hte;go_enter Tryz.func159,Tryz.ntmps159;go_wp2;go_ret3;exact RetWn.mk HN.out (by decide) (fun _=>rfl) (Below.refl _ _)
def wolfF (l:List UInt8):Bool:=
 if Lib.hasPrefix l [87] then numeralB (Lib.trimPrefix l [87])
 else Lib.hasPrefix l [84] && (Lib.cut (Lib.trimPrefix l [84]) [47]).2.2 && numeralB (Lib.cut (Lib.trimPrefix l [84]) [47]).1 && numeralB (Lib.cut (Lib.trimPrefix l [84]) [47]).2.1
def RetWp (l:List UInt8)(w:World)(e:Ending)(w':World):Prop:=∃ (a b:Int)(c:Bool)(ev:Int),e=.returned (.tuple #[.int .i64 a,.int .i64 b,.bool c,.int .i64 ev])∧(ev=15 ↔ wolfF l=false)∧Below w.heap.size w w'
theorem RetWp.bad {l:List UInt8}{w w':World}{a b:Int}{c:Bool}(h:wolfF l=false)(hb:Below w.heap.size w w'):RetWp l w (.returned (.tuple #[.int .i64 a,.int .i64 b,.bool c,.int .i64 15])) w':=⟨a,b,c,15,rfl,⟨fun _=>h,fun _=>rfl⟩,hb⟩
theorem RetWp.good {l:List UInt8}{w w':World}{a b ev:Int}{c:Bool}(h:wolfF l=true)(he:ev≠15)(hb:Below w.heap.size w w'):RetWp l w (.returned (.tuple #[.int .i64 a,.int .i64 b,.bool c,.int .i64 ev])) w':=⟨a,b,c,ev,rfl,⟨fun h2=>absurd h2 he,fun h2=>by rw[h] at h2;cases h2⟩,hb⟩
theorem dtl {l:List UInt8}:(⟨l.toArray⟩:ByteArray).data.toList=l:=by simp
set_option maxHeartbeats 16000000 in
theorem wparse_any (l:List UInt8)(w:World)(hg:GCell w)(he:ErrV w)(hs:l.length≤2147483648):Calls Tryz.prog 122 #[.string ⟨l.toArray⟩] w (RetWp l w):=by
 obtain⟨isW,hW⟩:∃ b,b=Lib.hasPrefix l [87]:=⟨_,rfl⟩
 obtain⟨lw,hlw⟩:∃ x,x=Lib.trimPrefix l [87]:=⟨_,rfl⟩
 obtain⟨isT,hT⟩:∃ b,b=Lib.hasPrefix l [84]:=⟨_,rfl⟩
 obtain⟨lt,hlt⟩:∃ x,x=Lib.trimPrefix l [84]:=⟨_,rfl⟩
 obtain⟨la,hla⟩:∃ x,x=(Lib.cut lt [47]).1:=⟨_,rfl⟩
 obtain⟨lb,hlb⟩:∃ x,x=(Lib.cut lt [47]).2.1:=⟨_,rfl⟩
 obtain⟨two,htwo⟩:∃ x,x=(Lib.cut lt [47]).2.2:=⟨_,rfl⟩
 have HF:Hid (wolfF l=cond isW (numeralB lw) (isT && two && numeralB la && numeralB lb)):=hid (by unfold wolfF;rw[← hW,← hlw,← hT,← hlt,← hla,← hlb,← htwo];cases isW <;> rfl);have lw31:lw.length≤2147483648:=by rw[hlw];exact Nat.le_trans (trimPrefix_len9 _ _) hs
 have lt31:lt.length≤2147483648:=by rw[hlt];exact Nat.le_trans (trimPrefix_len9 _ _) hs
 have la31:la.length≤2147483648:=by rw[hla];exact Nat.le_trans (cut_len8 _ _).1 lt31
 have lb31:lb.length≤2147483648:=by rw[hlb];exact Nat.le_trans (cut_len8 _ _).2 lt31
 have hc1:=cutPre_any l [87] w;rw[← hW,← hlw] at hc1;have hc2:=fun W=>cutPre_any l [84] W;rw[← hT,← hlt] at hc2;have hc3:=fun W (h:GCell W)=>cut_any lt [47] W h (by omega);rw[← hla,← hlb,← htwo] at hc3;have HC1:=hid hc1;have HC2:=hid hc2;have HC3:=hid hc3;have HE:=hid he;have HG:=hid hg;have HB:Hid (Below w.heap.size w w):=hid (Below.refl _ _);clear hc1 hc2 hc3 he hg hW hlw hT hlt hla hlb htwo hs;go_enter Tryz.func122,Tryz.ntmps122;go_wp2_with (go_at_call 136;refine HC1.out.mono ?_;rintro e w0 ⟨rfl,rfl⟩;refine Hid.out ?_);refine hid ?_;clear HC1;cases isW with
 | true=>
  have HCALL:=hid ((wnumber_any (⟨lw.toArray⟩:ByteArray) w HE.out (by simpa using lw31)).mono (fun e w' h=>(by rw[dtl] at h;exact h:RetWn lw w e w')));go_wp2_with (go_at_call 159;refine HCALL.out.mono ?_;intro e w1 hx;obtain⟨v1,b1,rfl,hv1,hz1,hb1⟩:=hx;refine Hid.out ?_);refine hid ?_;clear HCALL;replace HB:=hid (HB.out.trans (hb1.mono HB.out.size));replace HE:=hid (HE.out.ext hb1);replace HG:=hid (HG.out.ext hb1);clear hb1;have HV1:=hid hv1;have HZ1:=hid hz1;clear hv1 hz1;obtain⟨n1,hn1⟩:∃ n,n=numeralB lw:=⟨_,rfl⟩
  rw[← hn1] at HZ1 ⊢;have HN1:=hid hn1;clear hn1;have HFT:Hid (wolfF l=n1):=hid (by rw[HF.out,HN1.out];rfl);cases n1 with
  | false=>
   go_wp2;(try simp only[Exit.inBlock,Exit.then]);refine bodyPost_ret (results_tmp4 rfl _ _ _) rfl ?_;exact RetWp.bad HFT.out HB.out
  | true=>
   cases b1 with
   | false=>
    go_wp2;(try simp only[Exit.inBlock,Exit.then]);refine bodyPost_ret (results_tmp4 rfl _ _ _) rfl ?_;exact RetWp.good HFT.out (by decide) HB.out
   | true=>
    by_cases h255:255 < v1
    ·have q1:decide (255 < v1)=true:=decide_eq_true h255;go_wp2;(try simp only[Exit.inBlock,Exit.then]);refine bodyPost_ret (results_tmp4 rfl _ _ _) rfl ?_;exact RetWp.good HFT.out (by decide) HB.out
    ·have q1:decide (255 < v1)=false:=decide_eq_false h255;clear h255;go_wp2;(try simp only[Exit.inBlock,Exit.then]);refine bodyPost_ret (results_tmp4 rfl _ _ _) rfl ?_;exact RetWp.good HFT.out (by decide) HB.out
 | false=>
  have HFF:Hid (wolfF l=(isT && two && numeralB la && numeralB lb)):=hid (by rw[HF.out];rfl);go_wp2_with (go_at_call 136;refine (HC2.out w).mono ?_;rintro e w0 ⟨rfl,rfl⟩;refine Hid.out ?_);refine hid ?_;clear HC2;have HCALL:=hid (HC3.out w HG.out);go_wp2_with (go_at_call 33;refine HCALL.out.mono ?_;intro e w1 hx;obtain⟨rfl,hb9⟩:=hx;refine Hid.out ?_);refine hid ?_;clear HCALL;replace HB:=hid (HB.out.trans (hb9.mono HB.out.size));replace HE:=hid (HE.out.ext hb9);replace HG:=hid (HG.out.ext hb9);clear hb9;go_upto_region 11 with fail
  have HCALL:=hid ((wnumber_any (⟨la.toArray⟩:ByteArray) w1 HE.out (by simpa using la31)).mono (fun e w' h=>(by rw[dtl] at h;exact h:RetWn la w1 e w')));go_wp2_with (go_at_call 159;refine HCALL.out.mono ?_;intro e w2 hx;obtain⟨v1,b1,rfl,hv1,hz1,hb1⟩:=hx;refine Hid.out ?_);refine hid ?_;clear HCALL;replace HB:=hid (HB.out.trans (hb1.mono HB.out.size));replace HE:=hid (HE.out.ext hb1);replace HG:=hid (HG.out.ext hb1);clear hb1;have HV1:=hid hv1;have HZ1:=hid hz1;clear hv1 hz1;obtain⟨n1,hn1⟩:∃ n,n=numeralB la:=⟨_,rfl⟩
  rw[← hn1] at HZ1 ⊢;have HN1:=hid hn1;clear hn1;go_upto_region 12 with fail
  have HCALL:=hid ((wnumber_any (⟨lb.toArray⟩:ByteArray) w2 HE.out (by simpa using lb31)).mono (fun e w' h=>(by rw[dtl] at h;exact h:RetWn lb w2 e w')));go_wp2_with (go_at_call 159;refine HCALL.out.mono ?_;intro e w3 hx;obtain⟨v2,b2,rfl,hv2,hz2,hb2⟩:=hx;refine Hid.out ?_);refine hid ?_;clear HCALL;replace HB:=hid (HB.out.trans (hb2.mono HB.out.size));replace HE:=hid (HE.out.ext hb2);replace HG:=hid (HG.out.ext hb2);clear hb2;have HV2:=hid hv2;have HZ2:=hid hz2;clear hv2 hz2;obtain⟨n2,hn2⟩:∃ n,n=numeralB lb:=⟨_,rfl⟩
  rw[← hn2] at HZ2 ⊢;have HN2:=hid hn2;clear hn2;have HFT:Hid (wolfF l=(isT && two && n1 && n2)):=hid (by rw[HFF.out,HN1.out,HN2.out]);go_upto_region 13 with fail
  cases isT with
  | false=>
   have HX:Hid (wolfF l=false):=hid (by rw[HFT.out];rfl);go_wp2;(try simp only[Exit.inBlock,Exit.then]);refine bodyPost_ret (results_tmp4 rfl _ _ _) rfl ?_;exact RetWp.bad HX.out HB.out
  | true=>
   cases two with
   | false=>
    have HX:Hid (wolfF l=false):=hid (by rw[HFT.out];rfl);go_wp2;(try simp only[Exit.inBlock,Exit.then]);refine bodyPost_ret (results_tmp4 rfl _ _ _) rfl ?_;exact RetWp.bad HX.out HB.out
   | true=>
    cases n1 with
    | false=>
     have HX:Hid (wolfF l=false):=hid (by rw[HFT.out];rfl);go_wp2;(try simp only[Exit.inBlock,Exit.then]);refine bodyPost_ret (results_tmp4 rfl _ _ _) rfl ?_;exact RetWp.bad HX.out HB.out
    | true=>
     cases n2 with
     | false=>
      have HX:Hid (wolfF l=false):=hid (by rw[HFT.out];rfl);go_wp2;(try simp only[Exit.inBlock,Exit.then]);refine bodyPost_ret (results_tmp4 rfl _ _ _) rfl ?_;exact RetWp.bad HX.out HB.out
     | true=>
      have HX:Hid (wolfF l=true):=hid (by rw[HFT.out];rfl);cases b1 with
      | false=>
       go_wp2;(try simp only[Exit.inBlock,Exit.then]);refine bodyPost_ret (results_tmp4 rfl _ _ _) rfl ?_;exact RetWp.good HX.out (by decide) HB.out
      | true=>
       cases b2 with
       | false=>
        go_wp2;(try simp only[Exit.inBlock,Exit.then]);refine bodyPost_ret (results_tmp4 rfl _ _ _) rfl ?_;exact RetWp.good HX.out (by decide) HB.out
       | true=>
        obtain⟨dr,hdr⟩:∃ dr,dr=digsT v2 v1:=⟨_,rfl⟩
        have hdc:=digits_any v2 v1 w3 HV1.out;rw[← hdr] at hdc;have HDC:=hid hdc;clear hdc hdr;go_wp2_with (go_at_call 160;refine HDC.out.mono ?_;intro e w4 hx;obtain⟨dA,dc,rfl,-,hb4⟩:=hx;refine Hid.out ?_);refine hid ?_;clear HDC;replace HB:=hid (HB.out.trans (hb4.mono HB.out.size));replace HE:=hid (HE.out.ext hb4);replace HG:=hid (HG.out.ext hb4);clear hb4

        obtain⟨dl,de⟩:=dr;by_cases hde:de=0
        ·subst hde;go_wp2;(try simp only[Exit.inBlock,Exit.then]);refine bodyPost_ret (results_tmp4 rfl _ _ _) rfl ?_;exact RetWp.good HX.out (by decide) HB.out
        ·have q1:(de != 0)=true:=bne_iff_ne.2 hde;clear hde;go_wp2;(try simp only[Exit.inBlock,Exit.then]);refine bodyPost_ret (results_tmp4 rfl _ _ _) rfl ?_;exact RetWp.good HX.out (by decide) HB.out
end Go.Proofs.YtcfelnhmifkelaaGreatDoor
