/-
  texts Name11 Elem11 Vbl11 RowP11: parts of the proof; conditions stand with each theorem.
-/
import Derived.Test.YtcmbdhopmncmnaaGreatDoorWG9
import Derived.Test.YtcmbdhopmncmnaaGreatDoorWG4
import Derived.Test.YtcmbdhopmncmnaaGreatDoorWG2
import Derived.Test.YtcmbdhopmncmnaaGreatDoorWG8
namespace Go.Proofs.YtcmbdhopmncmnaaGreatDoor
open Lib(hid)
open Go.RowKit
set_option maxRecDepth 100000
set_option linter.unusedVariables false
set_option linter.unusedSimpArgs false
theorem or_tab:∀ b:Fin 256,bits .or .u8 ((b.1:Nat):Int) 32=((lowB b.1:Nat):Int):=by decide
theorem or_low (b:UInt8):bits .or .u8 ((b.toNat:Nat):Int) 32=((lowB b.toNat:Nat):Int):=or_tab ⟨b.toNat,b.toNat_lt⟩
theorem low_lt:∀ b:Fin 256,lowB b.1≤255:=by decide
theorem dig_int (b:UInt8):dig11 b=(decide ((48:Int)≤b.toNat) && decide ((b.toNat:Int)≤57)):=by
 unfold dig11
 congr 1
 ·exact decide_eq_decide.2 (by omega)
 ·exact decide_eq_decide.2 (by omega)
theorem alpha_int (b:UInt8):alpha11 b=(decide ((97:Int)≤(lowB b.toNat:Nat)) && decide (((lowB b.toNat:Nat):Int)≤122)):=by
 rw[alpha_low]
 congr 1
 ·exact decide_eq_decide.2 (by omega)
 ·exact decide_eq_decide.2 (by omega)
theorem alpha_two (b:UInt8):alpha11 b=((decide ((97:Int)≤b.toNat) && decide ((b.toNat:Int)≤122)) || (decide ((65:Int)≤b.toNat) && decide ((b.toNat:Int)≤90))):=by
 unfold alpha11
 congr 1
 ·congr 1
  ·exact decide_eq_decide.2 (by omega)
  ·exact decide_eq_decide.2 (by omega)
 ·congr 1
  ·exact decide_eq_decide.2 (by omega)
  ·exact decide_eq_decide.2 (by omega)
theorem okNm_no {w:Wd}(h:w.length < 1∨20 < w.length∨w=varW∨dig11 (w.headD 0)=true):okNm w=false:=by
 unfold okNm;rcases h with h | h | h | h
 ·rw[decide_eq_false (show ¬ (1≤w.length) by omega)];rfl
 ·rw[decide_eq_false (show ¬ (w.length≤20) by omega)];simp
 ·rw[decide_eq_false (show ¬ (w≠varW) from fun e=>e h)];simp
 ·rw[h];simp
theorem okNm_yes {w:Wd}(h1:1≤w.length)(h2:w.length≤20)(h3:¬ w=varW)(h4:dig11 (w.headD 0)=false):okNm w=true:=by
 unfold okNm;rw[decide_eq_true h1,decide_eq_true h2,decide_eq_true (show w≠varW from h3),h4];rfl
set_option maxHeartbeats 8000000 in
theorem name_any (s:ByteArray)(w:World)(hs:s.size≤2147483648):Calls Tryz.prog 118 #[.string s] w fun e w'=>e=.returned (.bool (nameW s.data.toList))∧w'=w:=by
 have d3:=str_eq s [118,97,114];obtain⟨l,hl⟩:∃ l,l=s.data.toList:=⟨_,rfl⟩
 have hgb:∀ j (h:j < s.size) (h':j < l.length),l[j]=s[j]:=by subst hl;exact byte11 s
 have hlen:l.length=s.size:=by rw[hl];rfl
 rw[← hl] at d3 ⊢;have HG:=hid (And.intro hlen hgb);clear hl hgb hlen;by_cases h0:s.size=0
 ·have HN:Hid (nameW l=false):=hid (nameW_no (okNm_no (.inl (by rw[HG.out.1];omega))));have d0:decide ((s.size:Int) < 1)=true:=decide_eq_true (by omega);clear h0 d3;go_enter Tryz.func118,Tryz.ntmps118;go_wp2;go_ret;exact⟨ret_bool HN.out.symm,rfl⟩
 have d0:decide ((s.size:Int) < 1)=false:=decide_eq_false (by omega);by_cases h1:20 < s.size
 ·have HN:Hid (nameW l=false):=hid (nameW_no (okNm_no (.inr (.inl (by rw[HG.out.1];exact h1)))));have d1:decide ((20:Int) < (s.size:Int))=true:=decide_eq_true (by omega);clear d3;go_enter Tryz.func118,Tryz.ntmps118;go_wp2;go_ret;exact⟨ret_bool HN.out.symm,rfl⟩
 have d1:decide ((20:Int) < (s.size:Int))=false:=decide_eq_false (by omega);by_cases hv:l=[118,97,114]
 ·have HN:Hid (nameW l=false):=hid (nameW_no (okNm_no (.inr (.inr (.inl hv)))));rw[decide_eq_true hv] at d3;clear hv;go_enter Tryz.func118,Tryz.ntmps118;go_wp2;go_ret;exact⟨ret_bool HN.out.symm,rfl⟩
 rw[decide_eq_false hv] at d3;have h00:0 < s.size:=by omega
 have h0l:0 < l.length:=by rw[HG.out.1];exact h00
 have e0:l.headD 0=s[0]:=by rw[headD_get11 h0l];exact HG.out.2 0 h00 h0l
 have hc00:(s[0].toNat:Int)≤255:=by have:=s[0].toNat_lt;omega
 by_cases hd1:(48:Int)≤s[0].toNat∧(s[0].toNat:Int)≤57
 ·have HN:Hid (nameW l=false):=hid (nameW_no (okNm_no (.inr (.inr (.inr (by rw[e0,dig_int,decide_eq_true hd1.1,decide_eq_true hd1.2];rfl))))));obtain⟨q1,q2⟩:=hd1;clear hv e0;go_enter Tryz.func118,Tryz.ntmps118;go_wp2;go_ret;exact⟨ret_bool HN.out.symm,rfl⟩
 have HOK:Hid (okNm l=true):=hid (okNm_yes (by omega) (by rw[HG.out.1];omega) hv (by
  rw[e0,dig_int];by_cases q:(48:Int)≤s[0].toNat
  ·rw[decide_eq_true q,decide_eq_false (show ¬ ((s[0].toNat:Int)≤57) from fun q2=>hd1 ⟨q,q2⟩)];rfl
  ·rw[decide_eq_false q];rfl))
 clear hv e0;have LOOP:Hid (∀ n:Unit,((s[0].toNat:Int) < 48∨((48:Int)≤s[0].toNat∧(57:Int) < s[0].toNat))→Calls Tryz.prog 118 #[.string s] w fun e w'=>e=.returned (.bool (nameW l))∧w'=w):=hid (fun _ hq=>by
  clear hd1;rcases hq with d5 | ⟨d5,d6⟩
  ·go_enter Tryz.func118,Tryz.ntmps118;go_wp2;go_loopw [29] (fun i wr=>∃ k:Nat,k≤s.size∧i=.int .i64 k∧wr=w∧Hid ((l.take k).all anB=true)) (fun i _=>s.size - (intOf i).toNat)
   case atStart=>exact⟨0,Nat.zero_le _,rfl,rfl,hid rfl⟩
   case round=>
    obtain⟨k,hk,rfl,hw,HT⟩:=hrel;have hw2:=hw.symm;clear hw;subst hw2;by_cases hlt:k < s.size
    ·have hlt':k < l.length:=by rw[HG.out.1];exact hlt
     have hc0:(s[k].toNat:Int)≤255:=by have:=s[k].toNat_lt;omega
     have hor:=or_low s[k];have hlw:=low_lt ⟨s[k].toNat,s[k].toNat_lt⟩;have hdg:anB l[k]=(alpha11 s[k] || dig11 s[k]):=by rw[HG.out.2 k hlt hlt'];rfl
     have HD:=hid (hdg.trans (by rw[alpha_int,dig_int]));obtain⟨u,hu⟩:∃ u,u=lowB s[k].toNat:=⟨_,rfl⟩
     have hlw':((u:Nat):Int)≤255:=by rw[hu];dsimp only at hlw;omega
     rw[← hu] at hor HD;clear hdg hlw hu;have HLT:Hid (k+1≤s.size∧True):=hid ⟨hlt,trivial⟩;have HAK:Hid (anB l[k]=true→(l.take (k+1)).all anB=true):=hid (fun h=>an_take hlt' HT.out h);have HNO:Hid (anB l[k]=false→nameW l=false):=hid (fun h=>nameW_bad hlt' h);have hwk:wrap64 ((k:Int)+1)=(k:Int)+1:=by unfold wrap64;omega
     have HWK:=hid hwk;clear hwk;by_cases a1:((u:Nat):Int) < 97
     ·skip
      have HA:Hid ((decide ((97:Int)≤((u:Nat):Int)) && decide (((u:Nat):Int)≤122))=false):=hid (by rw[decide_eq_false (show ¬ ((97:Int)≤((u:Nat):Int)) by omega)];rfl);by_cases b1:(s[k].toNat:Int) < 48
      ·have HN:=hid (HNO.out (by rw[HD.out,HA.out,decide_eq_false (show ¬ ((48:Int)≤s[k].toNat) by omega)];rfl))
       skip
       go_wp2;go_ret;exact⟨ret_bool HN.out.symm,rfl⟩
      ·skip
       by_cases b2:(57:Int) < s[k].toNat
       ·skip
        have HN:=hid (HNO.out (by rw[HD.out,HA.out,decide_eq_false (show ¬ ((s[k].toNat:Int)≤57) by omega)];simp))
        skip
        go_wp2;go_ret;exact⟨ret_bool HN.out.symm,rfl⟩
       ·skip
        have HN:=hid (HAK.out (by rw[HD.out,decide_eq_true (show (48:Int)≤s[k].toNat by omega),decide_eq_true (show (s[k].toNat:Int)≤57 by omega),Bool.and_self,Bool.or_true]))
        skip
        go_wp2;go_roundw
        case rel=>exact⟨k+1,HLT.out.1,(by first | rfl | (rw[HWK.out];rfl)),(by first | rfl | trivial),HN⟩
        case measure=>(try rw[HWK.out]);exact meas_step HLT.out.1
     ·skip
      by_cases a2:(122:Int) < ((u:Nat):Int)
      ·skip
       have HA:Hid ((decide ((97:Int)≤((u:Nat):Int)) && decide (((u:Nat):Int)≤122))=false):=hid (by rw[decide_eq_false (show ¬ (((u:Nat):Int)≤122) by omega),Bool.and_false]);by_cases b1:(s[k].toNat:Int) < 48
       ·have HN:=hid (HNO.out (by rw[HD.out,HA.out,decide_eq_false (show ¬ ((48:Int)≤s[k].toNat) by omega)];rfl))
        skip
        go_wp2;go_ret;exact⟨ret_bool HN.out.symm,rfl⟩
       ·skip
        by_cases b2:(57:Int) < s[k].toNat
        ·skip
         have HN:=hid (HNO.out (by rw[HD.out,HA.out,decide_eq_false (show ¬ ((s[k].toNat:Int)≤57) by omega)];simp))
         skip
         go_wp2;go_ret;exact⟨ret_bool HN.out.symm,rfl⟩
        ·skip
         have HN:=hid (HAK.out (by rw[HD.out,decide_eq_true (show (48:Int)≤s[k].toNat by omega),decide_eq_true (show (s[k].toNat:Int)≤57 by omega),Bool.and_self,Bool.or_true]))
         skip
         go_wp2;go_roundw
         case rel=>exact⟨k+1,HLT.out.1,(by first | rfl | (rw[HWK.out];rfl)),(by first | rfl | trivial),HN⟩
         case measure=>(try rw[HWK.out]);exact meas_step HLT.out.1
      ·skip
       have HN:=hid (HAK.out (by rw[HD.out,decide_eq_true (show (97:Int)≤((u:Nat):Int) by omega),decide_eq_true (show ((u:Nat):Int)≤122 by omega)];rfl))
       skip
       go_wp2;go_roundw
       case rel=>exact⟨k+1,HLT.out.1,(by first | rfl | (rw[HWK.out];rfl)),(by first | rfl | trivial),HN⟩
       case measure=>(try rw[HWK.out]);exact meas_step HLT.out.1
    ·obtain rfl:k=s.size:=by omega
     have HN:Hid (nameW l=true):=hid (nameW_ok HOK.out (by rw[HG.out.1];exact HT.out));go_wp2;go_ret;exact⟨ret_bool HN.out.symm,rfl⟩
  ·go_enter Tryz.func118,Tryz.ntmps118;go_wp2;go_loopw [29] (fun i wr=>∃ k:Nat,k≤s.size∧i=.int .i64 k∧wr=w∧Hid ((l.take k).all anB=true)) (fun i _=>s.size - (intOf i).toNat)
   case atStart=>exact⟨0,Nat.zero_le _,rfl,rfl,hid rfl⟩
   case round=>
    obtain⟨k,hk,rfl,hw,HT⟩:=hrel;have hw2:=hw.symm;clear hw;subst hw2;by_cases hlt:k < s.size
    ·have hlt':k < l.length:=by rw[HG.out.1];exact hlt
     have hc0:(s[k].toNat:Int)≤255:=by have:=s[k].toNat_lt;omega
     have hor:=or_low s[k];have hlw:=low_lt ⟨s[k].toNat,s[k].toNat_lt⟩;have hdg:anB l[k]=(alpha11 s[k] || dig11 s[k]):=by rw[HG.out.2 k hlt hlt'];rfl
     have HD:=hid (hdg.trans (by rw[alpha_int,dig_int]));obtain⟨u,hu⟩:∃ u,u=lowB s[k].toNat:=⟨_,rfl⟩
     have hlw':((u:Nat):Int)≤255:=by rw[hu];dsimp only at hlw;omega
     rw[← hu] at hor HD;clear hdg hlw hu;have HLT:Hid (k+1≤s.size∧True):=hid ⟨hlt,trivial⟩;have HAK:Hid (anB l[k]=true→(l.take (k+1)).all anB=true):=hid (fun h=>an_take hlt' HT.out h);have HNO:Hid (anB l[k]=false→nameW l=false):=hid (fun h=>nameW_bad hlt' h);have hwk:wrap64 ((k:Int)+1)=(k:Int)+1:=by unfold wrap64;omega
     have HWK:=hid hwk;clear hwk;by_cases a1:((u:Nat):Int) < 97
     ·skip
      have HA:Hid ((decide ((97:Int)≤((u:Nat):Int)) && decide (((u:Nat):Int)≤122))=false):=hid (by rw[decide_eq_false (show ¬ ((97:Int)≤((u:Nat):Int)) by omega)];rfl);by_cases b1:(s[k].toNat:Int) < 48
      ·have HN:=hid (HNO.out (by rw[HD.out,HA.out,decide_eq_false (show ¬ ((48:Int)≤s[k].toNat) by omega)];rfl))
       skip
       go_wp2;go_ret;exact⟨ret_bool HN.out.symm,rfl⟩
      ·skip
       by_cases b2:(57:Int) < s[k].toNat
       ·skip
        have HN:=hid (HNO.out (by rw[HD.out,HA.out,decide_eq_false (show ¬ ((s[k].toNat:Int)≤57) by omega)];simp))
        skip
        go_wp2;go_ret;exact⟨ret_bool HN.out.symm,rfl⟩
       ·skip
        have HN:=hid (HAK.out (by rw[HD.out,decide_eq_true (show (48:Int)≤s[k].toNat by omega),decide_eq_true (show (s[k].toNat:Int)≤57 by omega),Bool.and_self,Bool.or_true]))
        skip
        go_wp2;go_roundw
        case rel=>exact⟨k+1,HLT.out.1,(by first | rfl | (rw[HWK.out];rfl)),(by first | rfl | trivial),HN⟩
        case measure=>(try rw[HWK.out]);exact meas_step HLT.out.1
     ·skip
      by_cases a2:(122:Int) < ((u:Nat):Int)
      ·skip
       have HA:Hid ((decide ((97:Int)≤((u:Nat):Int)) && decide (((u:Nat):Int)≤122))=false):=hid (by rw[decide_eq_false (show ¬ (((u:Nat):Int)≤122) by omega),Bool.and_false]);by_cases b1:(s[k].toNat:Int) < 48
       ·have HN:=hid (HNO.out (by rw[HD.out,HA.out,decide_eq_false (show ¬ ((48:Int)≤s[k].toNat) by omega)];rfl))
        skip
        go_wp2;go_ret;exact⟨ret_bool HN.out.symm,rfl⟩
       ·skip
        by_cases b2:(57:Int) < s[k].toNat
        ·skip
         have HN:=hid (HNO.out (by rw[HD.out,HA.out,decide_eq_false (show ¬ ((s[k].toNat:Int)≤57) by omega)];simp))
         skip
         go_wp2;go_ret;exact⟨ret_bool HN.out.symm,rfl⟩
        ·skip
         have HN:=hid (HAK.out (by rw[HD.out,decide_eq_true (show (48:Int)≤s[k].toNat by omega),decide_eq_true (show (s[k].toNat:Int)≤57 by omega),Bool.and_self,Bool.or_true]))
         skip
         go_wp2;go_roundw
         case rel=>exact⟨k+1,HLT.out.1,(by first | rfl | (rw[HWK.out];rfl)),(by first | rfl | trivial),HN⟩
         case measure=>(try rw[HWK.out]);exact meas_step HLT.out.1
      ·skip
       have HN:=hid (HAK.out (by rw[HD.out,decide_eq_true (show (97:Int)≤((u:Nat):Int) by omega),decide_eq_true (show ((u:Nat):Int)≤122 by omega)];rfl))
       skip
       go_wp2;go_roundw
       case rel=>exact⟨k+1,HLT.out.1,(by first | rfl | (rw[HWK.out];rfl)),(by first | rfl | trivial),HN⟩
       case measure=>(try rw[HWK.out]);exact meas_step HLT.out.1
    ·obtain rfl:k=s.size:=by omega
     have HN:Hid (nameW l=true):=hid (nameW_ok HOK.out (by rw[HG.out.1];exact HT.out));go_wp2;go_ret;exact⟨ret_bool HN.out.symm,rfl⟩)
 by_cases q:(48:Int)≤s[0].toNat
 ·exact LOOP.out () (.inr ⟨q,by have:¬ (s[0].toNat:Int)≤57:=fun q2=>hd1 ⟨q,q2⟩;omega⟩)
 ·exact LOOP.out () (.inl (by omega))
set_option maxHeartbeats 8000000 in
theorem rname_any (s:ByteArray)(w:World)(hs:s.size≤2147483648):Calls Tryz.prog 95 #[.string s] w fun e w'=>e=.returned (.bool (nameW s.data.toList))∧w'=w:=by
 have d3:=str_eq s [118,97,114];obtain⟨l,hl⟩:∃ l,l=s.data.toList:=⟨_,rfl⟩
 have hgb:∀ j (h:j < s.size) (h':j < l.length),l[j]=s[j]:=by subst hl;exact byte11 s
 have hlen:l.length=s.size:=by rw[hl];rfl
 rw[← hl] at d3 ⊢;have HG:=hid (And.intro hlen hgb);clear hl hgb hlen;by_cases h0:s.size=0
 ·have HN:Hid (nameW l=false):=hid (nameW_no (okNm_no (.inl (by rw[HG.out.1];omega))));have d0:((s.size:Int) == 0)=true:=by rw[beq_iff_eq];omega
  clear h0 d3;go_enter Tryz.func95,Tryz.ntmps95;go_wp2;go_ret;exact⟨ret_bool HN.out.symm,rfl⟩
 have d0:((s.size:Int) == 0)=false:=beq_false_of_ne (by omega);by_cases h1:20 < s.size
 ·have HN:Hid (nameW l=false):=hid (nameW_no (okNm_no (.inr (.inl (by rw[HG.out.1];exact h1)))));have d1:decide ((20:Int) < (s.size:Int))=true:=decide_eq_true (by omega);clear d3;go_enter Tryz.func95,Tryz.ntmps95;go_wp2;go_ret;exact⟨ret_bool HN.out.symm,rfl⟩
 have d1:decide ((20:Int) < (s.size:Int))=false:=decide_eq_false (by omega);by_cases hv:l=[118,97,114]
 ·have HN:Hid (nameW l=false):=hid (nameW_no (okNm_no (.inr (.inr (.inl hv)))));rw[decide_eq_true hv] at d3;clear hv;go_enter Tryz.func95,Tryz.ntmps95;go_wp2;go_ret;exact⟨ret_bool HN.out.symm,rfl⟩
 rw[decide_eq_false hv] at d3;have h00:0 < s.size:=by omega
 have h0l:0 < l.length:=by rw[HG.out.1];exact h00
 have e0:l.headD 0=s[0]:=by rw[headD_get11 h0l];exact HG.out.2 0 h00 h0l
 have hc00:(s[0].toNat:Int)≤255:=by have:=s[0].toNat_lt;omega
 go_enter Tryz.func95,Tryz.ntmps95;go_wp2;go_loopw [3] (fun i wr=>∃ k:Nat,k≤s.size∧i=.int .i64 k∧wr=w∧Hid ((l.take k).all anB=true)∧Hid (0 < k→dig11 (l.headD 0)=false)) (fun i _=>s.size - (intOf i).toNat)
 case atStart=>exact⟨0,Nat.zero_le _,rfl,rfl,hid rfl,hid (fun h=>absurd h (by omega))⟩
 case round=>
  obtain⟨k,hk,rfl,hw,HT,HH⟩:=hrel;have hw2:=hw.symm;clear hw;subst hw2;by_cases hlt:k < s.size
  ·have hlt':k < l.length:=by rw[HG.out.1];exact hlt
   have hc0:(s[k].toNat:Int)≤255:=by have:=s[k].toNat_lt;omega
   have hdg:anB l[k]=(alpha11 s[k] || dig11 s[k]):=by rw[HG.out.2 k hlt hlt'];rfl
   have HD:=hid (hdg.trans (by rw[alpha_two,dig_int]));have HLT:Hid (k+1≤s.size∧True):=hid ⟨hlt,trivial⟩;have HAK:Hid (anB l[k]=true→(l.take (k+1)).all anB=true):=hid (fun h=>an_take hlt' HT.out h);have HNO:Hid (anB l[k]=false→nameW l=false):=hid (fun h=>nameW_bad hlt' h);have HE0:Hid (k=0→l.headD 0=s[k]):=hid (fun h=>by subst h;rw[headD_get11 h0l];exact HG.out.2 0 h00 h0l);have HHK:Hid ((k=0→dig11 s[k]=false)→0 < k+1→dig11 (l.headD 0)=false):=hid (fun h _=>by
    by_cases h0:k=0
    ·rw[HE0.out h0];exact h h0
    ·exact HH.out (by omega))
   have hwk:wrap64 ((k:Int)+1)=(k:Int)+1:=by unfold wrap64;omega
   have HWK:=hid hwk;clear hwk hdg;have HLET:Hid (alpha11 s[k]=true→dig11 s[k]=false):=hid (fun h=>by
    rw[alpha_two] at h;rw[dig_int];simp only[Bool.or_eq_true,Bool.and_eq_true,decide_eq_true_eq] at h;rw[decide_eq_false (show ¬ ((s[k].toNat:Int)≤57) by omega),Bool.and_false])
   have HAL:=hid (alpha_two s[k]);by_cases c1:(97:Int)≤s[k].toNat
   ·skip
    by_cases c2:(s[k].toNat:Int)≤122
    ·skip
     have HLE:Hid (alpha11 s[k]=true):=hid (by rw[HAL.out,decide_eq_true c1,decide_eq_true c2];rfl);have HN:=hid (HAK.out (by rw[HD.out,← HAL.out,HLE.out];rfl));have HN2:=hid (HHK.out (fun _=>HLET.out HLE.out))
     skip
     go_wp2;go_roundw
     case rel=>exact⟨k+1,HLT.out.1,(by first | rfl | (rw[HWK.out];rfl)),(by first | rfl | trivial),HN,HN2⟩
     case measure=>(try rw[HWK.out]);exact meas_step HLT.out.1
    ·skip
     by_cases c3:(65:Int)≤s[k].toNat
     ·skip
      by_cases c4:(s[k].toNat:Int)≤90
      ·skip
       have HLE:Hid (alpha11 s[k]=true):=hid (by rw[HAL.out,decide_eq_true c1,decide_eq_false c2,decide_eq_true c3,decide_eq_true c4,Bool.and_self,Bool.or_true]);have HN:=hid (HAK.out (by rw[HD.out,← HAL.out,HLE.out];rfl));have HN2:=hid (HHK.out (fun _=>HLET.out HLE.out))
       skip
       go_wp2;go_roundw
       case rel=>exact⟨k+1,HLT.out.1,(by first | rfl | (rw[HWK.out];rfl)),(by first | rfl | trivial),HN,HN2⟩
       case measure=>(try rw[HWK.out]);exact meas_step HLT.out.1
      ·skip
       have HLE:Hid (alpha11 s[k]=false):=hid (by rw[HAL.out,decide_eq_true c1,decide_eq_false c2,decide_eq_true c3,decide_eq_false c4] <;> first | rfl | simp);by_cases k0:k=0
       ·have d0k:((k:Int) == 0)=true:=by rw[beq_iff_eq];omega
        have HN:Hid (nameW l=false):=hid (by
         cases hd:dig11 s[k] with
         | true=>exact nameW_no (okNm_no (.inr (.inr (.inr (by rw[HE0.out k0];exact hd)))))
         | false=>exact HNO.out (by rw[HD.out,← HAL.out,HLE.out,← dig_int,hd];rfl))
        clear k0;go_wp2;go_ret;exact⟨ret_bool HN.out.symm,rfl⟩
       ·have d0k:((k:Int) == 0)=false:=beq_false_of_ne (by omega);have HK0:=hid k0;clear k0;by_cases b1:(s[k].toNat:Int) < 48
        ·skip
         have HN:=hid (HNO.out (by rw[HD.out,← HAL.out,HLE.out,decide_eq_false (show ¬ ((48:Int)≤s[k].toNat) by omega)];rfl))
         skip
         go_wp2;go_ret;exact⟨ret_bool HN.out.symm,rfl⟩
        ·skip
         by_cases b2:(57:Int) < s[k].toNat
         ·skip
          have HN:=hid (HNO.out (by rw[HD.out,← HAL.out,HLE.out,decide_eq_false (show ¬ ((s[k].toNat:Int)≤57) by omega)];simp))
          skip
          go_wp2;go_ret;exact⟨ret_bool HN.out.symm,rfl⟩
         ·skip
          have HN:=hid (HAK.out (by rw[HD.out,decide_eq_true (show (48:Int)≤s[k].toNat by omega),decide_eq_true (show (s[k].toNat:Int)≤57 by omega),Bool.and_self,Bool.or_true]));have HN2:=hid (HHK.out (fun h=>absurd h HK0.out))
          skip
          go_wp2;go_roundw
          case rel=>exact⟨k+1,HLT.out.1,(by first | rfl | (rw[HWK.out];rfl)),(by first | rfl | trivial),HN,HN2⟩
          case measure=>(try rw[HWK.out]);exact meas_step HLT.out.1
     ·skip
      have HLE:Hid (alpha11 s[k]=false):=hid (by rw[HAL.out,decide_eq_true c1,decide_eq_false c2,decide_eq_false c3] <;> first | rfl | simp);by_cases k0:k=0
      ·have d0k:((k:Int) == 0)=true:=by rw[beq_iff_eq];omega
       have HN:Hid (nameW l=false):=hid (by
        cases hd:dig11 s[k] with
        | true=>exact nameW_no (okNm_no (.inr (.inr (.inr (by rw[HE0.out k0];exact hd)))))
        | false=>exact HNO.out (by rw[HD.out,← HAL.out,HLE.out,← dig_int,hd];rfl))
       clear k0;go_wp2;go_ret;exact⟨ret_bool HN.out.symm,rfl⟩
      ·have d0k:((k:Int) == 0)=false:=beq_false_of_ne (by omega);have HK0:=hid k0;clear k0;by_cases b1:(s[k].toNat:Int) < 48
       ·skip
        have HN:=hid (HNO.out (by rw[HD.out,← HAL.out,HLE.out,decide_eq_false (show ¬ ((48:Int)≤s[k].toNat) by omega)];rfl))
        skip
        go_wp2;go_ret;exact⟨ret_bool HN.out.symm,rfl⟩
       ·skip
        by_cases b2:(57:Int) < s[k].toNat
        ·skip
         have HN:=hid (HNO.out (by rw[HD.out,← HAL.out,HLE.out,decide_eq_false (show ¬ ((s[k].toNat:Int)≤57) by omega)];simp))
         skip
         go_wp2;go_ret;exact⟨ret_bool HN.out.symm,rfl⟩
        ·skip
         have HN:=hid (HAK.out (by rw[HD.out,decide_eq_true (show (48:Int)≤s[k].toNat by omega),decide_eq_true (show (s[k].toNat:Int)≤57 by omega),Bool.and_self,Bool.or_true]));have HN2:=hid (HHK.out (fun h=>absurd h HK0.out))
         skip
         go_wp2;go_roundw
         case rel=>exact⟨k+1,HLT.out.1,(by first | rfl | (rw[HWK.out];rfl)),(by first | rfl | trivial),HN,HN2⟩
         case measure=>(try rw[HWK.out]);exact meas_step HLT.out.1
   ·skip
    by_cases c3:(65:Int)≤s[k].toNat
    ·skip
     by_cases c4:(s[k].toNat:Int)≤90
     ·skip
      have HLE:Hid (alpha11 s[k]=true):=hid (by rw[HAL.out,decide_eq_false c1,decide_eq_true c3,decide_eq_true c4,Bool.and_self,Bool.or_true]);have HN:=hid (HAK.out (by rw[HD.out,← HAL.out,HLE.out];rfl));have HN2:=hid (HHK.out (fun _=>HLET.out HLE.out))
      skip
      go_wp2;go_roundw
      case rel=>exact⟨k+1,HLT.out.1,(by first | rfl | (rw[HWK.out];rfl)),(by first | rfl | trivial),HN,HN2⟩
      case measure=>(try rw[HWK.out]);exact meas_step HLT.out.1
     ·skip
      have HLE:Hid (alpha11 s[k]=false):=hid (by rw[HAL.out,decide_eq_false c1,decide_eq_true c3,decide_eq_false c4] <;> first | rfl | simp);by_cases k0:k=0
      ·have d0k:((k:Int) == 0)=true:=by rw[beq_iff_eq];omega
       have HN:Hid (nameW l=false):=hid (by
        cases hd:dig11 s[k] with
        | true=>exact nameW_no (okNm_no (.inr (.inr (.inr (by rw[HE0.out k0];exact hd)))))
        | false=>exact HNO.out (by rw[HD.out,← HAL.out,HLE.out,← dig_int,hd];rfl))
       clear k0;go_wp2;go_ret;exact⟨ret_bool HN.out.symm,rfl⟩
      ·have d0k:((k:Int) == 0)=false:=beq_false_of_ne (by omega);have HK0:=hid k0;clear k0;by_cases b1:(s[k].toNat:Int) < 48
       ·skip
        have HN:=hid (HNO.out (by rw[HD.out,← HAL.out,HLE.out,decide_eq_false (show ¬ ((48:Int)≤s[k].toNat) by omega)];rfl))
        skip
        go_wp2;go_ret;exact⟨ret_bool HN.out.symm,rfl⟩
       ·skip
        by_cases b2:(57:Int) < s[k].toNat
        ·skip
         have HN:=hid (HNO.out (by rw[HD.out,← HAL.out,HLE.out,decide_eq_false (show ¬ ((s[k].toNat:Int)≤57) by omega)];simp))
         skip
         go_wp2;go_ret;exact⟨ret_bool HN.out.symm,rfl⟩
        ·skip
         have HN:=hid (HAK.out (by rw[HD.out,decide_eq_true (show (48:Int)≤s[k].toNat by omega),decide_eq_true (show (s[k].toNat:Int)≤57 by omega),Bool.and_self,Bool.or_true]));have HN2:=hid (HHK.out (fun h=>absurd h HK0.out))
         skip
         go_wp2;go_roundw
         case rel=>exact⟨k+1,HLT.out.1,(by first | rfl | (rw[HWK.out];rfl)),(by first | rfl | trivial),HN,HN2⟩
         case measure=>(try rw[HWK.out]);exact meas_step HLT.out.1
    ·skip
     have HLE:Hid (alpha11 s[k]=false):=hid (by rw[HAL.out,decide_eq_false c1,decide_eq_false c3] <;> first | rfl | simp);by_cases k0:k=0
     ·have d0k:((k:Int) == 0)=true:=by rw[beq_iff_eq];omega
      have HN:Hid (nameW l=false):=hid (by
       cases hd:dig11 s[k] with
       | true=>exact nameW_no (okNm_no (.inr (.inr (.inr (by rw[HE0.out k0];exact hd)))))
       | false=>exact HNO.out (by rw[HD.out,← HAL.out,HLE.out,← dig_int,hd];rfl))
      clear k0;go_wp2;go_ret;exact⟨ret_bool HN.out.symm,rfl⟩
     ·have d0k:((k:Int) == 0)=false:=beq_false_of_ne (by omega);have HK0:=hid k0;clear k0;by_cases b1:(s[k].toNat:Int) < 48
      ·skip
       have HN:=hid (HNO.out (by rw[HD.out,← HAL.out,HLE.out,decide_eq_false (show ¬ ((48:Int)≤s[k].toNat) by omega)];rfl))
       skip
       go_wp2;go_ret;exact⟨ret_bool HN.out.symm,rfl⟩
      ·skip
       by_cases b2:(57:Int) < s[k].toNat
       ·skip
        have HN:=hid (HNO.out (by rw[HD.out,← HAL.out,HLE.out,decide_eq_false (show ¬ ((s[k].toNat:Int)≤57) by omega)];simp))
        skip
        go_wp2;go_ret;exact⟨ret_bool HN.out.symm,rfl⟩
       ·skip
        have HN:=hid (HAK.out (by rw[HD.out,decide_eq_true (show (48:Int)≤s[k].toNat by omega),decide_eq_true (show (s[k].toNat:Int)≤57 by omega),Bool.and_self,Bool.or_true]));have HN2:=hid (HHK.out (fun h=>absurd h HK0.out))
        skip
        go_wp2;go_roundw
        case rel=>exact⟨k+1,HLT.out.1,(by first | rfl | (rw[HWK.out];rfl)),(by first | rfl | trivial),HN,HN2⟩
        case measure=>(try rw[HWK.out]);exact meas_step HLT.out.1
  ·obtain rfl:k=s.size:=by omega
   have HN:Hid (nameW l=true):=hid (nameW_ok (okNm_yes (by omega) (by rw[HG.out.1];omega) hv (HH.out (by omega))) (by rw[HG.out.1];exact HT.out));go_wp2;go_ret;exact⟨ret_bool HN.out.symm,rfl⟩
end Go.Proofs.YtcmbdhopmncmnaaGreatDoor
namespace Go.Proofs.YtcmbdhopmncmnaaGreatDoor
open Lib(hid)
open Go.RowKit Go.Maps
set_option maxRecDepth 100000
set_option linter.unusedVariables false
set_option linter.unusedSimpArgs false
set_option maxHeartbeats 8000000 in
theorem element_any {O:Blks}{base gp M:Nat}{hA:Option Addr}{hc:Nat}{vv rv:Value}{vs:List Vh}{rs:List Rh}{D:DataW Unit}{s:PSt}(b:ByteArray)(w:World)(hP:PrM O base gp M hA hc vv rv vs rs D s w)(hb:b.size≤2147483648)(hnm:s.names.length≤1000000) :
  Calls Tryz.prog 119 #[.pointer (some ⟨gp,0,none⟩),.string b] w fun e w'=>e=.returned (.tuple #[.int .i64 (elemW s b.data.toList).1,.int .i64 (elemW s b.data.toList).2])∧w'=w:=by
 have HNUM:=hid (number_any b w hb);have HNAM:=hid (name_any b w hb);obtain⟨v,hlk,hlv⟩:=hP.look b hb;have c0:=hP.blk.cell_ 0 (.int .i64 s.t.st) rfl;have c5:=hP.blk.cell_ 5 (.map (some M)) rfl;obtain⟨l,hl⟩:∃ l,l=b.data.toList:=⟨_,rfl⟩
 rw[← hl] at HNUM HNAM hlk hlv ⊢;clear hl hP;obtain⟨res,hres⟩:∃ r,r=elemW s l:=⟨_,rfl⟩
 rw[← hres];unfold elemW at hres;by_cases h0:0≤numW l
 ·rw[if_pos h0] at hres;obtain⟨n,hn⟩:∃ n,n=numW l:=⟨_,rfl⟩
  have hv:numV l=(n,true):=numV_yes hn.symm (by omega);rw[hv] at HNUM;rw[← hn] at hres h0;by_cases h1:s.t.st≤n
  ·rw[if_pos h1] at hres;have HR:=hid hres;clear hres hv hn hlk hlv c5 HNAM;go_enter Tryz.func119,Tryz.ntmps119;go_wp2_with (go_at_call 89;refine HNUM.out.mono ?_;rintro e w' ⟨rfl,hw'⟩;obtain rfl:=hw';refine Hid.out ?_);refine hid ?_;go_wp2;go_ret2;exact⟨by rw[HR.out] <;> rfl,rfl⟩
  ·rw[if_neg h1] at hres;have HR:=hid hres;clear hres hv hn hlk hlv c5 HNAM;go_enter Tryz.func119,Tryz.ntmps119;go_wp2_with (go_at_call 89;refine HNUM.out.mono ?_;rintro e w' ⟨rfl,hw'⟩;obtain rfl:=hw';refine Hid.out ?_);refine hid ?_;go_wp2;go_ret2;exact⟨by rw[HR.out] <;> rfl,rfl⟩
 ·rw[if_neg h0] at hres;have hv:numV l=(0,false):=by
   unfold numV;rw[if_pos (by omega)]
  rw[hv] at HNUM;clear hv h0;cases hnb:nameW l with
  | false=>
   rw[if_pos hnb] at hres;rw[hnb] at HNAM;have HR:=hid hres;clear hres hnb hlk hlv c5 c0;go_enter Tryz.func119,Tryz.ntmps119;go_wp2_with (first
    | (go_at_call 89;refine HNUM.out.mono ?_;rintro e w' ⟨rfl,hw'⟩;obtain rfl:=hw';refine Hid.out ?_)
    | (go_at_call 118;refine HNAM.out.mono ?_;rintro e w' ⟨rfl,hw'⟩;obtain rfl:=hw';refine Hid.out ?_))
   refine hid ?_;go_wp2_with (first
    | (go_at_call 118;refine HNAM.out.mono ?_;rintro e w' ⟨rfl,hw'⟩;obtain rfl:=hw';refine Hid.out ?_))
   refine hid ?_;go_wp2;go_ret2;exact⟨by rw[HR.out] <;> rfl,rfl⟩
  | true=>
   rw[if_neg (by rw[hnb];simp)] at hres;rw[hnb] at HNAM;cases hp:placeW l 0 s.names with
   | none=>
    rw[hp] at hlk hres;have HR:=hid hres;have hlk':(Instr.lookup 64 (.map (some M)) (.string b) true).run Tryz.prog w=.ok (.tuple #[.int .i64 v,.bool false]) w:=hlk 0;clear hres hnb hlk hlv c0 hp;go_enter Tryz.func119,Tryz.ntmps119;go_wp2_with (go_at_call 89;refine HNUM.out.mono ?_;rintro e w' ⟨rfl,hw'⟩;obtain rfl:=hw';refine Hid.out ?_);refine hid ?_;go_wp2_with (go_at_call 118;refine HNAM.out.mono ?_;rintro e w' ⟨rfl,hw'⟩;obtain rfl:=hw';refine Hid.out ?_);refine hid ?_;go_wp2;go_ret2;exact⟨by rw[HR.out] <;> rfl,rfl⟩
   | some i=>
    have hi:=placeW_lt _ _ _ _ hp;have hve:=hlv i hp;rw[hp] at hlk hres;have HR:=hid hres;subst hve;have hlk':(Instr.lookup 64 (.map (some M)) (.string b) true).run Tryz.prog w=.ok (.tuple #[.int .i64 (i:Int),.bool true]) w:=hlk 0;have hwr:wrap64 (-1 - (i:Int)) = -1 - (i:Int):=by unfold wrap64;omega
    clear hres hnb hlk hlv c0 hp;go_enter Tryz.func119,Tryz.ntmps119;go_wp2_with (go_at_call 89;refine HNUM.out.mono ?_;rintro e w' ⟨rfl,hw'⟩;obtain rfl:=hw';refine Hid.out ?_);refine hid ?_;go_wp2_with (go_at_call 118;refine HNAM.out.mono ?_;rintro e w' ⟨rfl,hw'⟩;obtain rfl:=hw';refine Hid.out ?_);refine hid ?_;go_wp2;go_ret2;exact⟨by rw[HR.out] <;> (try dsimp only) <;> (try rw[hwr]) <;> rfl,rfl⟩
theorem ascW_yes {N:List Int}{i:Nat}(h1:1≤i)(hi:i < N.length)(h:N[i - 1]'(by omega) < N[i]):ascW (N.drop (i - 1))=ascW (N.drop i):=by
 rw[List.drop_eq_getElem_cons (show i - 1 < N.length by omega)];have e:i - 1+1=i:=by omega
 rw[e,List.drop_eq_getElem_cons hi];show (decide (_ < _) && _)=_;rw[decide_eq_true h,Bool.true_and]
theorem ascW_no {N:List Int}{i:Nat}(h1:1≤i)(hi:i < N.length)(h:¬ N[i - 1]'(by omega) < N[i]):ascW (N.drop (i - 1))=false:=by
 rw[List.drop_eq_getElem_cons (show i - 1 < N.length by omega)];have e:i - 1+1=i:=by omega
 rw[e,List.drop_eq_getElem_cons hi];show (decide (_ < _) && _)=_;rw[decide_eq_false h,Bool.false_and]
theorem ascW_end {N:List Int}(h:1≤N.length):ascW (N.drop (N.length - 1))=true:=by
 rw[List.drop_eq_getElem_cons (show N.length - 1 < N.length by omega),List.drop_eq_nil_of_le (by omega)];rfl
theorem states_any11 {st:Int}{N:List Int}(h:∀ z ∈ N,0≤z):statesB st N = !N.any fun n=>decide (st≤n):=by
 unfold statesB;have:∀ l:List Int,(∀ z ∈ l,0≤z)→l.any (badS st)=l.any fun n=>decide (st≤n):=by
  intro l;induction l with
  | nil=>intro _;rfl
  | cons z l ih=>
   intro hl;rw[List.any_cons,List.any_cons,ih (fun y hy=>hl y (by simp[hy]))];have:=hl z (by simp)
   congr 1
   unfold badS;by_cases h2:st≤z
   ·rw[decide_eq_true h2];simp[h2]
   ·rw[decide_eq_false h2];simp[h2];omega
 rw[this N h]
theorem wrap_nat {j:Nat}(h:j≤1000000):wrap64 (j:Int)=(j:Int):=by unfold wrap64;omega
theorem wrap_m1 {j:Nat}(h:j≤1000000):wrap64 (((j+1:Nat):Int) - 1)=(j:Int):=by unfold wrap64;omega
theorem wrap_m1' {j:Nat}(h:j≤1000000):wrap64 ((j:Int)+1 - 1)=(j:Int):=by unfold wrap64;omega
theorem wrap_p2 {j:Nat}(h:j≤1000000):wrap64 (((j+1:Nat):Int)+1)=((j+1+1:Nat):Int):=by unfold wrap64;omega
theorem n_max {n:Nat}(h:n < 40):n < maxLen:=by unfold maxLen;omega
theorem s_max {n:Nat}(h:n≤2147483648):n≤maxLen:=by unfold maxLen;omega
theorem v_wf {n:Nat}(h:n < 40):-9223372036854775808≤(n:Int)∧(n:Int)≤9223372036854775807:=by omega
theorem cast_lt1 {j n:Nat}(h:j+1 < n):decide (((j+1:Nat):Int) < (n:Int))=true∧decide ((j:Int)+1 < (n:Int))=true:=⟨decide_eq_true (by omega),decide_eq_true (by omega)⟩
theorem cast_ge1 {j n:Nat}(h:j+1=n):decide (((j+1:Nat):Int) < (n:Int))=false∧decide ((j:Int)+1 < (n:Int))=false:=⟨decide_eq_false (by omega),decide_eq_false (by omega)⟩
theorem dec_le {a b:Nat}:(a≤b→decide ((a:Int)≤(b:Int))=true)∧(¬ a≤b→decide ((a:Int)≤(b:Int))=false):=⟨fun h=>decide_eq_true (by omega),fun h=>decide_eq_false (by omega)⟩
theorem not_le_lt {a b:Int}(h:¬ b≤a):a < b:=by omega
theorem le_not_lt {a b:Int}(h:b≤a):¬ a < b:=by omega
theorem last_one {j n:Nat}(h:j+1=n):j=n - 1∧1≤n:=by omega
def wdsB (ws:List ByteArray):List Wd:=ws.map fun x=>x.data.toList
theorem wdsB_getD {ws:List ByteArray}{k:Nat}(h:k < ws.length):(wdsB ws).getD k []=ws[k].data.toList:=by
 unfold wdsB;rw[List.getD_eq_getElem?_getD,List.getElem?_map,List.getElem?_eq_getElem h];rfl
def numsTo (ws:List ByteArray)(i:Nat):List Int:=(((wdsB ws).drop 2).take i).map numW
theorem numsTo_succ {ws:List ByteArray}{i:Nat}(h:2+i < ws.length):numsTo ws (i+1)=numsTo ws i ++ [numW ws[2+i].data.toList]:=by
 have hl:i < ((wdsB ws).drop 2).length:=by rw[List.length_drop];unfold wdsB;rw[List.length_map];omega
 unfold numsTo;rw[List.take_succ_eq_append_getElem hl,List.map_append,List.getElem_drop];unfold wdsB;rw[List.getElem_map];rfl
theorem numsTo_len {ws:List ByteArray}{i:Nat}(h:2+i≤ws.length):(numsTo ws i).length=i:=by
 unfold numsTo wdsB;rw[List.length_map,List.length_take,List.length_drop,List.length_map];omega
theorem numsTo_all (ws:List ByteArray):numsTo ws (ws.length - 2)=((wdsB ws).drop 2).map numW:=by
 unfold numsTo;rw[List.take_of_length_le];rw[List.length_drop];unfold wdsB;rw[List.length_map];omega
theorem numsTo_pre {ws:List ByteArray}{i:Nat}:∀ z ∈ numsTo ws i,z ∈ ((wdsB ws).drop 2).map numW:=fun z hz=>by
 unfold numsTo at hz;obtain⟨x,hx,rfl⟩:=List.mem_map.1 hz;exact List.mem_map.2 ⟨x,List.mem_of_mem_take hx,rfl⟩
set_option maxHeartbeats 16000000 in
theorem variable_any {O:Blks}{base gp M:Nat}{hA:Option Addr}{hc:Nat}{vv rv:Value}{vs:List Vh}{rs:List Rh}{D:DataW Unit}{s:PSt}(gw:Nat)(ws:List ByteArray)(w:World)(hP:PrM O base gp M hA hc vv rv vs rs D s w)(hS:Sts w (some ⟨gw,0,none⟩) ws)(hw:∀ x ∈ ws,x.size≤2147483648)(hws:ws.length≤1000000)(h40:vs.length≤40)(hbase:base≤w.heap.size)(hlen:ws≠[]) :
  Calls Tryz.prog 91 #[.pointer (some ⟨gp,0,none⟩),.slice (some ⟨gw,0,none⟩) ws.length ws.length] w fun e w'=>e=.returned (.int .i64 (vblW s (wdsB ws)).2)∧Kept O w w'∧
   ((vblW s (wdsB ws)).2=0→∃ vv' vs' D',PrM (fun k=>O k∨(w.heap.size≤k∧k < w'.heap.size)) base gp M hA hc vv' rv vs' rs D' (vblW s (wdsB ws)).1 w'):=by
 obtain⟨rA,rc,erv,-⟩:=hP.rows.form;subst erv;obtain⟨vA,vc,evv,hvr,-⟩:=hP.vars.vrs;subst evv;have hrl:s.t.rows.length=rs.length:=by rw[← hP.ers,List.length_map]
 have hvl:s.t.vars.length=vs.length:=by rw[← hP.evs,List.length_map]
 have c4:=hP.blk.cell_ 4 (.slice rA rs.length rc) rfl;have HS:=hid hS;have HW:=hid hw;have hwl:(wdsB ws).length=ws.length:=by unfold wdsB;rw[List.length_map]
 obtain⟨res,hres⟩:∃ r,r=vblW s (wdsB ws):=⟨_,rfl⟩
 rw[← hres];unfold vblW at hres;rw[hwl,hrl] at hres;have ERR:∀ (e:Ending) (c:Int) (w':World),res=(s,c)→c≠0→e=.returned (.int .i64 c)→Below w.heap.size w w'→e=.returned (.int .i64 res.2)∧Kept O w w'∧(res.2=0→∃ vv' vs' D',PrM (fun k=>O k∨(w.heap.size≤k∧k < w'.heap.size)) base gp M hA hc vv' (.slice rA rs.length rc) vs' rs D' res.1 w'):=by
  rintro e c w' rfl hc0 rfl hb;exact⟨rfl,Kept.of_new _ hb,fun h=>absurd h hc0⟩
 have HERR:=hid ERR;clear ERR hwl;have HP:=hid hP;have HBD:=hid (And.intro h40 (And.intro hws (And.intro hbase hvl)));clear h40 hws hbase hvl hrl hlen;obtain⟨n,hn⟩:∃ n,n=ws.length:=⟨_,rfl⟩
 have HN0:=hid hn;have hn9:n≤9223372036854775807:=by rw[hn];exact hS.le
 rw[← hn] at hres ⊢;by_cases h0:0 < rs.length
 ·rw[if_pos h0] at hres;have HR:=hid hres;clear hres hS hw hP hvr HS HW HP hn HN0;go_enter Tryz.func91,Tryz.ntmps91;go_wp2;go_ret;exact HERR.out _ _ _ HR.out (by decide) rfl (Below.refl _ _)
 rw[if_neg h0] at hres;by_cases h3:n < 3
 ·rw[if_pos (.inl h3)] at hres;have HR:=hid hres;clear hres hS hw hP hvr HS HW HP hn HN0;go_enter Tryz.func91,Tryz.ntmps91;go_wp2;go_ret;exact HERR.out _ _ _ HR.out (by decide) rfl (Below.refl _ _)
 obtain⟨gb,go,e1,hgb,cw1⟩:=hS.at_ (k:=1) (by rw[← hn];omega);injection e1 with e1
 injection e1 with e1 e2
 subst e1 e2;rw[wdsB_getD (show 1 < ws.length by rw[← hn];omega)] at hres;obtain⟨w1,hw1⟩:∃ z,z=ws[1]'(by rw[← hn];omega):=⟨_,rfl⟩
 have hw1s:w1.size≤2147483648:=by rw[hw1];exact hw _ (List.getElem_mem _)
 rw[← hw1] at cw1 hres;have HNAM:=hid (name_any w1 w hw1s);have HWE:Hid (∀ h:1 < ws.length,ws[1]'h=w1):=hid (fun h=>hw1.symm);have hr0:rs.length=0:=by omega
 rw[hr0] at c4;cases hnm:nameW w1.data.toList with
 | false=>
  rw[if_pos (.inr hnm)] at hres;rw[hnm] at HNAM;have HR:=hid hres;clear hres hS hw hP hvr HS HW HP hnm hn HN0 hgb hw1s hw1 hr0;go_enter Tryz.func91,Tryz.ntmps91;go_wp2_with (go_at_call 118;refine HNAM.out.mono ?_;rintro e w' ⟨rfl,hw'⟩;have hw2:=hw'.symm;clear hw';subst hw2;refine Hid.out ?_);refine hid ?_;go_wp2;go_ret;exact HERR.out _ _ _ HR.out (by decide) rfl (Below.refl _ _)
 | true=>
  rw[if_neg (by rintro (h | h);exact h3 h;rw[hnm] at h;cases h)] at hres;rw[hnm] at HNAM;have HRES:=hid hres;have HW1:=hid hw1s;obtain⟨m,rfl⟩:∃ m,n=m+2:=⟨n - 2,by omega⟩
  have HM:Hid (ws.length=m+2∧1≤m):=hid ⟨by omega,by omega⟩;clear hres hS hw hP hvr hnm hw1 h0 hn HN0 hgb hw1s hr0;go_enter Tryz.func91,Tryz.ntmps91;go_wp2_with (go_at_call 118;refine HNAM.out.mono ?_;rintro e w' ⟨rfl,hw'⟩;have hw2:=hw'.symm;clear hw';subst hw2;refine Hid.out ?_);refine hid ?_;go_wp2;clear c4 cw1 HNAM;go_loopw [5,33] (fun lv iv wr=>∃ i:Nat,i≤m∧iv=.int .i64 i∧Hid (OwnIA wr w.heap.size lv (numsTo ws i))∧Hid (Below w.heap.size w wr)∧Hid (∀ z ∈ numsTo ws i,0≤z)) (fun _ iv _=>m - (intOf iv).toNat)
  case atStart=>exact⟨0,Nat.zero_le _,rfl,hid (OwnI.nil _ _ _),hid (Below.refl _ _),hid (fun z hz=>absurd hz (by simp[numsTo]))⟩
  case round=>
   obtain⟨i,hi,rfl,HO,HB,HZ⟩:=hrel;by_cases hil:i < m
   ·have hi2:2+i < ws.length:=by rw[HM.out.1];omega
    obtain⟨gb,go,e1,hgb2,cwi⟩:=(HS.out.ext HB.out).at_ hi2;injection e1 with e1
    injection e1 with e1 e2
    subst e1 e2;have hsn:=numsTo_succ hi2;have hmem:numW ws[2+i].data.toList ∈ ((wdsB ws).drop 2).map numW:=numsTo_pre (i:=i+1) _ (by rw[hsn];simp);have hxs:=HW.out _ (List.getElem_mem hi2);obtain⟨x,hx⟩:∃ z,z=ws[2+i]'hi2:=⟨_,rfl⟩
    rw[← hx] at cwi hsn hmem hxs;have HN:=hid hsn;have HI:Hid (i+1≤m∧True):=hid ⟨hil,trivial⟩;have hwi:wrap64 ((i:Int)+1)=(i:Int)+1:=by unfold wrap64;omega
    have HWI:=hid hwi;have HNUM:=hid (number_any x wr hxs);have cwj:wr.cell? ⟨gw,2+i,none⟩=some (.string x):=by rw[Nat.zero_add] at cwi;exact cwi
    clear cwi;clear hi hwi hx hsn hi2 hgb2;by_cases hn0:0≤numW x.data.toList
    ·obtain⟨z,hz⟩:∃ z,z=numW x.data.toList:=⟨_,rfl⟩
     rw[numV_yes hz.symm (by omega)] at HNUM;have hown:=HO.out;have hlv:(numsTo ws i).length < 1000000000000:=by rw[numsTo_len (by have:=HM.out.1;have:=HI.out.1;omega)];have:=HI.out.1;have:=HBD.out.2.1;have:=HM.out.1;omega
     have hbs:=HB.out.size;have HN2:Hid (numsTo ws (i+1)=numsTo ws i ++ [z]):=hid (by rw[HN.out,hz]);have HZ2:Hid (∀ y ∈ numsTo ws (i+1),0≤y):=hid (fun y hy=>by
      rw[HN2.out] at hy;rcases List.mem_append.1 hy with hy | hy
      ·exact HZ.out y hy
      ·rw[List.mem_singleton.1 hy,hz];exact hn0)
     clear hmem hn0 hz hxs HN;go_wp2_with (go_at_call 89;refine HNUM.out.mono ?_;rintro e w' ⟨rfl,hw'⟩;have hw2:=hw'.symm;clear hw';subst hw2;refine Hid.out ?_);refine hid ?_;go_wp2_with (at_builtin;refine wpList_pushI rfl _ _ _ rfl w.heap.size 3 Tryz.underlying30 Tryz.infoInt _ _ rfl hown _ rfl hlv hbs ?_);intro v' w7 ho' hb';have HO7:Hid (OwnIA w7 w.heap.size v' (numsTo ws (i+1))):=hid (by rw[HN2.out];exact ho');have HB7:=hid (HB.out.trans hb');clear ho' hb' hown hlv hbs cwj;go_wp2;go_roundw
     case rel=>exact⟨i+1,HI.out.1,(by first | rfl | (rw[HWI.out];rfl)),HO7,HB7,HZ2⟩
     case measure=>(try rw[HWI.out]);exact meas_step HI.out.1
    ·have hv:numV x.data.toList=(0,false):=by unfold numV;rw[if_pos (by omega)]
     rw[hv] at HNUM;have HR:Hid (res=(s,15)):=hid (by
      have h:=HRES.out;rw[if_pos (List.any_eq_true.2 ⟨_,hmem,decide_eq_true (by omega)⟩)] at h;exact h)
     clear hmem hn0 hv hxs HN;go_wp2_with (go_at_call 89;refine HNUM.out.mono ?_;rintro e w' ⟨rfl,hw'⟩;have hw2:=hw'.symm;clear hw';subst hw2;refine Hid.out ?_);refine hid ?_;go_wp2;go_ret;exact HERR.out _ _ _ HR.out (by decide) rfl HB.out
   ·obtain rfl:i=m:=Nat.le_antisymm hi (Nat.le_of_not_lt hil);have hna:=numsTo_all ws;have hnl:=numsTo_len (ws:=ws) (i:=i) (by have:=HM.out;omega);rw[show ws.length - 2=i by have:=HM.out.1;omega] at hna;obtain⟨N,hN⟩:∃ N,N=numsTo ws i:=⟨_,rfl⟩
    rw[← hN] at hna hnl HO HZ;have hres:=HRES.out;rw[← hna,if_neg (by
     intro h;obtain⟨y,hy,hy2⟩:=List.any_eq_true.1 h;have:=HZ.out y hy;rw[decide_eq_true_eq] at hy2;omega)] at hres
    have HRES2:=hid hres;have HNL:Hid (N.length=i):=hid hnl;clear hres HRES hi hil hna hnl hN;obtain⟨lA,lc,elv,hli,-⟩:=HO.out.ints;subst elv;have HLI:=hid hli;have HPr:=hid (HP.out.ext HB.out);obtain⟨v,hlk,-⟩:=HPr.out.look w1 HW1.out;have c5:=HPr.out.blk.cell_ 5 (.map (some M)) rfl;obtain⟨gb,go,e1,-,cw1⟩:=(HS.out.ext HB.out).at_ (k:=1) (by rw[HM.out.1];omega);injection e1 with e1
    injection e1 with e1 e2
    subst e1 e2;rw[HWE.out,Nat.zero_add] at cw1;clear hli;cases hpl:placeW w1.data.toList 0 s.names with
    | some j=>
     rw[hpl] at hlk;have HR:Hid (res=(s,8)):=hid (by
      have h:=HRES2.out;rw[hpl,if_pos (show (some j).isSome=true from rfl)] at h;exact h)
     have hlk':∀ n,(Instr.lookup 64 (.map (some M)) (.string w1) true).run Tryz.prog (wr.drewN n)=.ok (.tuple #[.int .i64 v,.bool true]) (wr.drewN n):=hlk;clear hlk hpl;go_wp2;go_quiet (fail)
     go_wp2;go_ret;exact HERR.out _ _ _ HR.out (by decide) rfl (below_drewN HB.out _)
    | none=>
     rw[hpl] at hlk;have hres:=HRES2.out;rw[hpl,if_neg (by simp)] at hres;have HRES3:=hid hres;have HPL:=hid hpl;have hlk':∀ n,(Instr.lookup 64 (.map (some M)) (.string w1) true).run Tryz.prog (wr.drewN n)=.ok (.tuple #[.int .i64 v,.bool false]) (wr.drewN n):=hlk;clear hlk hpl hres HRES2;go_wp2;go_quiet (fail)
     obtain⟨wq,hwq⟩:∃ W,W=wr.drewN nq:=⟨_,rfl⟩
     rw[← hwq];have hbq:Below wr.heap.size wr wq:=by rw[hwq];exact below_drewN (Below.refl _ wr) nq
     have HPq:=hid (HPr.out.ext hbq);have HBq:=hid (HB.out.trans (hbq.mono HB.out.size));have HOq:=hid (HO.out.ext hbq);have HLq:=hid (HLI.out.ext hbq);clear hwq hbq hlk' c5 cw1 HPr HB HO HLI;have x0:=HPq.out.blk.cell_ 0 (.int .i64 s.t.st) rfl;have x1:=HPq.out.blk.cell_ 1 (.int .i64 s.t.sym) rfl;have x2:=HPq.out.blk.cell_ 2 (.slice hA s.t.hood.length hc) rfl;have x3:=HPq.out.blk.cell_ 3 (.slice vA vs.length vc) rfl;have x4:=HPq.out.blk.cell_ 4 (.slice rA rs.length rc) rfl;have hcs:=states_any hA hc vA vc rA rc ⟨s.t.st,s.t.sym,s.t.hood,vs,rs⟩ lA lc N wq HLq.out;unfold tabV at hcs;dsimp only at hcs;have HCS:=hid hcs;clear hcs;cases hsb:statesB s.t.st N with
     | false=>
      rw[hsb] at HCS;have HR:Hid (res=(s,5)):=hid (by
       have h:=HRES3.out;rw[states_any11 HZ.out] at hsb;rw[if_pos (by simpa using hsb)] at h;exact h)
      clear hsb;go_wp2_with (go_at_call 41;refine HCS.out.mono ?_;rintro e w' ⟨rfl,hb'⟩;refine Hid.out ?_);refine hid ?_;have HBx:=hid (HBq.out.trans (hb'.mono HBq.out.size));clear hb' x0 x1 x2 x3 x4 HCS;go_wp2;go_ret;exact HERR.out _ _ _ HR.out (by decide) rfl HBx.out
     | true=>
      rw[hsb] at HCS;have hres:=HRES3.out;rw[if_neg (by
       rw[states_any11 HZ.out] at hsb;intro h;rw[h] at hsb;cases hsb)] at hres
      have HRES4:=hid hres;clear hsb hres HRES3;go_wp2_with (go_at_call 41;refine HCS.out.mono ?_;rintro e w4 ⟨rfl,hb'⟩;refine Hid.out ?_);refine hid ?_;have HP4:=hid (HPq.out.ext hb');have HB4:=hid (HBq.out.trans (hb'.mono HBq.out.size));have HO4:=hid (HOq.out.ext hb');have HL4:=hid (HLq.out.ext hb');clear hb' x0 x1 x2 x3 x4 HCS HPq HBq HOq HLq;go_wp2;have HNB:Hid (N.length≤1000000):=hid (by rw[HNL.out];exact Nat.le_trans (Nat.le_add_right _ 2) (by rw[← HM.out.1];exact HBD.out.2.1));go_loopw [12] (fun iv wr=>∃ j:Nat,j+1≤N.length∧iv=.int .i64 ((j+1:Nat):Int)∧Hid (Below w4.heap.size w4 wr)∧Hid (ascW N=ascW (N.drop j))) (fun iv _=>N.length - (intOf iv).toNat)
      case atStart=>exact⟨0,by have:=HNL.out;have:=HM.out.2;omega,rfl,hid (Below.refl _ _),hid (by rw[List.drop_zero])⟩
      case round=>
       obtain⟨j,hj,rfl,HBW,HA⟩:=hrel;by_cases hjl:j+1 < N.length
       ·have hl4:=HL4.out.ext HBW.out;obtain⟨lb,lo,e1,hlb,cj1⟩:=hl4.at_ hjl;obtain⟨lb',lo',e2,-,cj0⟩:=hl4.at_ (Nat.lt_of_succ_lt hjl);obtain⟨rfl,rfl⟩:lb=lb'∧lo=lo':=by rw[e1] at e2;injection e2 with e2;injection e2 with h1 h2;exact⟨h1,h2⟩
        have hyes:=ascW_yes (N:=N) (i:=j+1) (Nat.le_add_left 1 j) hjl;have hno:=ascW_no (N:=N) (i:=j+1) (Nat.le_add_left 1 j) hjl;simp only[Nat.add_sub_cancel] at hyes hno;obtain⟨a,ha⟩:∃ z,z=N[j]'(Nat.lt_of_succ_lt hjl):=⟨_,rfl⟩
        obtain⟨b,hb⟩:∃ z,z=N[j+1]'hjl:=⟨_,rfl⟩
        rw[← ha,← hb] at hyes hno;rw[← ha] at cj0;rw[← hb] at cj1;have HY:=hid hyes;have HNO:=hid hno;have HJ:Hid (j+1+1≤N.length∧True):=hid ⟨hjl,trivial⟩;have hj0:j < N.length:=Nat.lt_of_succ_lt hjl;have hjm:j≤1000000:=Nat.le_trans (Nat.le_of_lt hj0) HNB.out;have hws:=wrap_m1 hjm;have hws0:=wrap_nat hjm;have hN9:=hl4.le;have hws':=wrap_m1' hjm;have hwp:=wrap_p2 hjm;have HWP:=hid hwp;subst e1;have q6:=(cast_lt1 hjl).1;have q6':=(cast_lt1 hjl).2;clear e2 hl4 hyes hno ha hb hj hwp hjm;by_cases e3:b≤a
        ·have q4:decide (b≤a)=true:=decide_eq_true e3;have HR:Hid (res=(s,9)):=hid (by
          have h:=HRES4.out;rw[if_pos (show ascW N=false from HA.out.trans (HNO.out (le_not_lt e3)))] at h;exact h)
         clear e3;go_wp2;go_quiet (fail)
         go_wp2;go_ret;exact HERR.out _ _ _ HR.out (by decide) rfl (HB4.out.trans ((below_drewN HBW.out _).mono HB4.out.size))
        ·have q4:decide (b≤a)=false:=decide_eq_false e3;have HA2:Hid (ascW N=ascW (N.drop (j+1))):=hid (HA.out.trans (HY.out (not_le_lt e3)));clear e3;go_wp2;go_quiet (fail)
         have HBN:=hid (below_drewN HBW.out nq);go_wp2;go_roundw
         case rel=>exact⟨j+1,HJ.out.1,(by first | rfl | (rw[HWP.out];done) | (rw[HWP.out];rfl)),HBN,HA2⟩
         case measure=>(try rw[HWP.out]);exact meas_step HJ.out.1
       ·have hjn:j+1=N.length:=Nat.le_antisymm hj (Nat.le_of_not_lt hjl);have q6:=(cast_ge1 hjn).1;have q6':=(cast_ge1 hjn).2;have hasc:ascW N=true:=by
         rw[HA.out,(last_one hjn).1];exact ascW_end (last_one hjn).2
        have hres:=HRES4.out;rw[if_neg (by rw[hasc];simp)] at hres;have HP5:=hid (HP4.out.ext HBW.out);have HB5:=hid (HB4.out.trans (HBW.out.mono HB4.out.size));have HO5:=hid (HO4.out.ext HBW.out);have HASC:=hid hasc;have x3:=HP5.out.blk.cell_ 3 (.slice vA vs.length vc) rfl;rw[HBD.out.2.2.2] at hres;clear HP4 HB4 HO4 HL4 HBW HA hasc;by_cases h40:40≤vs.length
        ·rw[if_pos h40] at hres;have HR:=hid hres;have q5:decide ((40:Int)≤(vs.length:Int))=true:=dec_le.1 h40;clear hres h40 hj hjl hjn;go_wp2;go_ret;exact HERR.out _ _ _ HR.out (by decide) rfl HB5.out
        ·rw[if_neg h40] at hres;have HR:=hid hres;have q5:decide ((40:Int)≤(vs.length:Int))=false:=dec_le.2 h40;have HV4:Hid (vs.length < 40):=hid (Nat.lt_of_not_le h40);clear hres h40 hj hjl hjn;have HNV:Hid (s.names.length=vs.length):=hid (by rw[HP5.out.nms];exact HBD.out.2.2.2);have c5:=HP5.out.blk.cell_ 5 (.map (some M)) rfl;obtain⟨gb,go,e1,-,cw1⟩:=(HS.out.ext HB5.out).at_ (k:=1) (by rw[HM.out.1];exact Nat.le_add_left 2 i);injection e1 with e1
         injection e1 with e1 e2
         subst e1 e2;rw[HWE.out,Nat.zero_add] at cw1;obtain⟨w11,hrun,hM11,hg11⟩:=World.ownsMap.update (w:=wr.drew) HP5.out.map Tryz.law Tryz.underlying64 (n_max (by rw[HNV.out];exact HV4.out)) (WideMaps.keyOf_string_mk (s:=w1) Tryz.underlying9 (s_max HW1.out)) (plainElem_int (q:=.i64) (a:=(vs.length:Int)) Tryz.underlying3 (WalkArith.wf_i64 (v_wf HV4.out)));change (Instr.mapUpdate 64 (.map (some M)) (.string w1) (.int .i64 (vs.length:Int))).run Tryz.prog wr.drew=.ok () w11 at hrun;have hkn:=HP5.out.known.push (x:=w1.data.toList) HPL.out;rw[HNV.out] at hkn;have hP5d:=HP5.out.ext (Below.refl _ wr).drew;have hmp:=hP5d.mapped hg11;have hO5d:OwnIA wr.drew w.heap.size (.slice lA N.length lc) N:=HO5.out;have HG11:=hid (And.intro hg11 (And.intro hM11 hkn));have HPd:=hid hP5d;have HMP:=hid hmp;have HO11:=hid (hmp.1.own hO5d (fun g e1 e2=>by subst e2;exact own_map_ne hO5d hP5d.map e1));clear hg11 hM11 hkn hP5d hmp hO5d;go_upto_region 26 with fail
         go_region
         go_upto_region 27 with fail
         clear hrun c5 cw1 x3;have y3:=HMP.out.2.1.cell_ 3 (.slice vA vs.length vc) rfl;have hown:=HMP.out.2.2.2.1;have hI:=OwnI.down HO11.out HBD.out.2.2.1;have hvl:vs.length < 1000000000000:=Nat.lt_trans HV4.out (by decide);have hbs:base≤w11.heap.size:=Nat.le_trans HBD.out.2.2.1 (Nat.le_trans HB5.out.size HMP.out.1.below.size);go_wp2_with (at_builtin;refine wpList_pushV rfl _ _ _ rfl base 30 3 (by decide) Tryz.underlying23 Tryz.infoInts15 _ _ rfl hown _ _ _ hI rfl hvl hbs ?_);intro v' w9 ho9 hk9 hm9;obtain⟨vA',vc',ev',-,-⟩:=ho9.vrs;subst ev';have hs9:wr.heap.size≤w9.heap.size:=Nat.le_trans HMP.out.1.below.size hk9.below.size;obtain⟨hn1,hn2,hn3⟩:=HPd.out.pushVar (O':=fun k=>O k∨(w.heap.size≤k∧k < w9.heap.size)) HG11.out.1 (by rw[HNV.out];exact (by have:=HG11.out.2.1;rw[HNV.out] at this;exact this)) HG11.out.2.2 ho9 hk9 hm9 (fun k h=>.inl h)
          (fun g e=>.inr (by have:=own_lt' HO5.out e;exact⟨this.2,Nat.lt_of_lt_of_le this.1 hs9⟩)) (fun g h1 h2=>.inr ⟨Nat.le_trans HB5.out.size h1,h2⟩) (fun k hk=>by
           rcases hk with hk | hk
           ·exact Nat.lt_of_lt_of_le (HPd.out.inO k hk) hs9
           ·exact hk.2)
         rw[List.length_append,List.length_singleton] at hn1 hn2;have z3:=hn3.cell_ 3 (.slice vA vs.length vc) rfl;have f3:=hn3.frozen 3;have HF1:=hid hn1;have HF2:=hid ((Kept.of_new O HB5.out).trans (((Kept.refl O wr).drew).trans hn2));have HS9:=hid hs9;clear hn1 hn2 hn3 ho9 hk9 hm9 hown hI hvl hbs y3 hs9;go_wp2;go_ret;rw[HR.out];exact⟨rfl,HF2.out,fun _=>⟨_,_,_,HF1.out.wide (fun k h=>h.imp id (fun h=>⟨h.1,by simpa using h.2⟩)) (fun k h=>h.elim (fun h=>HF1.out.inO k (.inl h)) (fun h=>h.2))⟩⟩
end Go.Proofs.YtcmbdhopmncmnaaGreatDoor
namespace Go.Proofs.YtcmbdhopmncmnaaGreatDoor
set_option linter.unusedVariables false
set_option linter.unusedSimpArgs false
def skW (W:List Wd)(n i:Nat):List Wd:=W.take (min i n) ++ (W.take i).drop (n+1)
theorem skW_zero (W:List Wd)(n:Nat):skW W n 0=[]:=by unfold skW;simp
theorem skW_at (W:List Wd)(n:Nat)(h:n < W.length):skW W n (n+1)=skW W n n:=by
 unfold skW;rw[Nat.min_eq_right (Nat.le_succ n),Nat.min_self,List.drop_eq_nil_of_le (by rw[List.length_take];omega),List.drop_eq_nil_of_le (by rw[List.length_take];omega)]
theorem skW_lt {W:List Wd}{n i:Nat}(hi:i < W.length)(h:i < n):skW W n (i+1)=skW W n i ++ [W[i]]:=by
 unfold skW;rw[Nat.min_eq_left (by omega),Nat.min_eq_left (by omega),List.drop_eq_nil_of_le (by rw[List.length_take];omega),List.drop_eq_nil_of_le (by rw[List.length_take];omega),List.append_nil,List.append_nil,List.take_succ_eq_append_getElem hi]
theorem skW_gt {W:List Wd}{n i:Nat}(hi:i < W.length)(h:n < i):skW W n (i+1)=skW W n i ++ [W[i]]:=by
 unfold skW;rw[Nat.min_eq_right (by omega),Nat.min_eq_right (by omega),List.append_assoc,List.take_succ_eq_append_getElem hi,List.drop_append_of_le_length (by rw[List.length_take];omega)]
theorem skW_all {W:List Wd}{n:Nat}(h:n < W.length):skW W n W.length=W.take n ++ W.drop (n+1):=by
 unfold skW;rw[Nat.min_eq_right (by omega),List.take_length]
theorem elems_cons (s:PSt)(w:Wd)(r:List Wd):elemsW s (w :: r)=if (elemW s w).2≠0 then ([],(elemW s w).2) else if (elemsW s r).2≠0 then ([],(elemsW s r).2) else ((elemW s w).1 :: (elemsW s r).1,0):=rfl
theorem elems_snoc {s:PSt}:∀ {a:List Wd}{zs:List Int}{x:Wd}{z:Int},elemsW s a=(zs,0)→elemW s x=(z,0)→elemsW s (a ++ [x])=(zs ++ [z],0)
 | [],zs,x,z,h,hx=>by
  injection h with h _
  subst h;rw[List.nil_append,elems_cons,hx];rfl
 | w :: a,zs,x,z,h,hx=>by
  rw[elems_cons] at h;by_cases h1:(elemW s w).2≠0
  ·rw[if_pos h1] at h;injection h with _ h
   exact absurd h h1
  ·rw[if_neg h1] at h;by_cases h2:(elemsW s a).2≠0
   ·rw[if_pos h2] at h;injection h with _ h
    exact absurd h h2
   ·rw[if_neg h2] at h;injection h with h _
    have ih:=elems_snoc (a:=a) (zs:=(elemsW s a).1) (by rw[show (0:Int)=(elemsW s a).2 from (Decidable.not_not.1 h2).symm]) hx;rw[List.cons_append,elems_cons,if_neg h1,ih,← h];rfl
theorem elems_err {s:PSt}:∀ {a:List Wd}{zs:List Int}{x:Wd}(r:List Wd),elemsW s a=(zs,0)→(elemW s x).2≠0→elemsW s (a ++ x :: r)=([],(elemW s x).2)
 | [],zs,x,r,h,hx=>by
  rw[List.nil_append,elems_cons,if_pos hx]
 | w :: a,zs,x,r,h,hx=>by
  rw[elems_cons] at h;by_cases h1:(elemW s w).2≠0
  ·rw[if_pos h1] at h;injection h with _ h
   exact absurd h h1
  ·rw[if_neg h1] at h;by_cases h2:(elemsW s a).2≠0
   ·rw[if_pos h2] at h;injection h with _ h
    exact absurd h h2
   ·have ih:=elems_err (a:=a) (zs:=(elemsW s a).1) r (by rw[show (0:Int)=(elemsW s a).2 from (Decidable.not_not.1 h2).symm]) hx;rw[List.cons_append,elems_cons,if_neg h1,ih,if_pos hx]
theorem elems_len {s:PSt}:∀ {a:List Wd}{zs:List Int},elemsW s a=(zs,0)→zs.length=a.length
 | [],zs,h=>by injection h with h _;subst h;rfl
 | w :: a,zs,h=>by
  rw[elems_cons] at h;by_cases h1:(elemW s w).2≠0
  ·rw[if_pos h1] at h;injection h with _ h
   exact absurd h h1
  ·rw[if_neg h1] at h;by_cases h2:(elemsW s a).2≠0
   ·rw[if_pos h2] at h;injection h with _ h
    exact absurd h h2
   ·rw[if_neg h2] at h;injection h with h _
    have ih:=elems_len (a:=a) (zs:=(elemsW s a).1) (by rw[show (0:Int)=(elemsW s a).2 from (Decidable.not_not.1 h2).symm]);rw[← h,List.length_cons,List.length_cons,ih]
theorem skW_split {W:List Wd}{n i:Nat}(hi:i < W.length)(hn:n < W.length)(hne:i≠n):∃ r,W.take n ++ W.drop (n+1)=skW W n i ++ W[i] :: r:=by
 rw[← skW_all hn];have key:∀ d j,j+d=W.length→∃ r,skW W n W.length=skW W n j ++ r:=by
  intro d;induction d with
  | zero=>intro j hj;exact⟨[],by rw[List.append_nil,show j=W.length by omega]⟩
  | succ d ih=>
   intro j hj;obtain⟨r,hr⟩:=ih (j+1) (by omega);rcases Nat.lt_trichotomy j n with h | h | h
   ·exact⟨W[j] :: r,by rw[hr,skW_lt (by omega) h,List.append_assoc];rfl⟩
   ·subst h;exact⟨r,by rw[hr,skW_at W j hn]⟩
   ·exact⟨W[j] :: r,by rw[hr,skW_gt (by omega) h,List.append_assoc];rfl⟩
 obtain⟨r,hr⟩:=key (W.length - (i+1)) (i+1) (by omega);refine⟨r,?_⟩;rw[hr];rcases Nat.lt_or_ge i n with h | h
 ·rw[skW_lt hi h,List.append_assoc];rfl
 ·rw[skW_gt hi (by omega),List.append_assoc];rfl
end Go.Proofs.YtcmbdhopmncmnaaGreatDoor
