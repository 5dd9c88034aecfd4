/-
  texts LawS56: parts of the proof; conditions stand with each theorem.
-/
import Derived.Test.YtcfelnhmifkelaaGreatDoorWG21
namespace Go.Proofs.YtcfelnhmifkelaaGreatDoor
open Lib(hid)
open Go.RowKit
set_option maxRecDepth 100000
set_option linter.unusedVariables false
set_option linter.unusedSimpArgs false
set_option maxHeartbeats 16000000 in
theorem lawS_any (s:ByteArray)(w:World)(he:Env56 w):Calls Tryz.prog 8 #[.string s] w fun e w'=>e=.returned (.bool true)∧Below w.heap.size w w':=by
 have HENV:=hid he;have HB:Hid (Below w.heap.size w w):=hid (Below.refl _ _);clear he;have hsl:s.data.toList.length=s.size:=(Lib.size_eq s).symm;obtain⟨l,hl⟩:∃ l,l=s.data.toList:=⟨_,rfl⟩
 have hgb:∀ j (h:j < s.size) (h':j < l.length),l[j]=s[j]:=by subst hl;exact get_byte9 s
 have hpc:∀ i j,i≤j→j≤s.size→(s.extract i j).data.toList=(l.take j).drop i:=by subst hl;exact fun i j h1 h2=>piece_toList s h1 h2
 rw[← hl] at hsl;by_cases hs:500 < s.size
 ·have d1:decide ((500:Int) < (s.size:Int))=true:=decide_eq_true (by omega);have hs2:(500:Int) < (s.size:Int):=by omega
  clear hsl hgb hpc hl;go_enter Tryz.func8,Tryz.ntmps8;have hcall:=awake_any w HENV.out;have HCALL:=hid hcall;clear hcall;go_wp2_with (go_at_call 9;refine HCALL.out.mono ?_;intro e x1 hx;obtain⟨rfl,hb⟩:=hx;refine Hid.out ?_);refine hid ?_;replace HB:=hid (HB.out.trans (hb.mono HB.out.size));replace HENV:=hid (HENV.out.ext hb);clear hb HCALL;go_wp2;go_ret;exact⟨rfl,HB.out⟩
 have d1:decide ((500:Int) < (s.size:Int))=false:=decide_eq_false (by omega);have hs2:¬ (500:Int) < (s.size:Int):=by omega
 have HLN:Hid (∀ W,Calls Tryz.prog 21 #[.string s] W fun e w'=>e=.returned (.int .i64 (feeds l))∧W=w'):=hid (fun W=>by rw[hl];exact lines_any s W (by rw[← hl];omega));obtain⟨nf,hnf⟩:∃ n,n=feeds l:=⟨_,rfl⟩
 rw[← hnf] at HLN;by_cases hf:90 < nf
 ·have d2:decide ((90:Int) < (nf:Int))=true:=decide_eq_true (by omega);have hf2:(90:Int) < (nf:Int):=by omega
  clear hsl hgb hpc hl hnf;go_enter Tryz.func8,Tryz.ntmps8;go_wp2_with (go_at_call 21;refine (HLN.out _).mono ?_;rintro e wx ⟨rfl,hw⟩;rw[← hw];clear hw;refine Hid.out ?_);refine hid ?_;have hcall:=awake_any w HENV.out;have HCALL:=hid hcall;clear hcall;go_wp2_with (go_at_call 9;refine HCALL.out.mono ?_;intro e x1 hx;obtain⟨rfl,hb⟩:=hx;refine Hid.out ?_);refine hid ?_;replace HB:=hid (HB.out.trans (hb.mono HB.out.size));replace HENV:=hid (HENV.out.ext hb);clear hb HCALL;go_wp2;go_ret;exact⟨rfl,HB.out⟩
 have d2:decide ((90:Int) < (nf:Int))=false:=decide_eq_false (by omega);have hf2:¬ (90:Int) < (nf:Int):=by omega
 have HF:Hid (nf≤90):=hid (by omega);have HNF:=hid hnf;have HS:Hid (s.size≤500):=hid (by omega);have HLE:=hid hl;have HG:=hid (And.intro hsl (And.intro hgb hpc));clear hsl hgb hpc hl hnf;go_enter Tryz.func8,Tryz.ntmps8;go_wp2_with (go_at_call 21;refine (HLN.out _).mono ?_;rintro e wx ⟨rfl,hw⟩;rw[← hw];clear hw;refine Hid.out ?_);refine hid ?_;go_wp2;clear d2 hf2 hf d1 hs2 hs;go_loopw [3,22] (fun tv iv wr=>∃ (k:Nat) (tb:ByteArray),k≤s.size∧tv=.string tb∧iv=.int .i64 k∧w=wr∧Hid (tb.data.toList=[32,32] ++ (l.take k).flatMap exC)) (fun _ iv _=>s.size - (intOf iv).toNat)
 case atStart=>exact⟨0,_,Nat.zero_le _,rfl,rfl,rfl,hid rfl⟩
 case round=>
  obtain⟨k,tb,hk,rfl,rfl,rfl,HT⟩:=hrel;have hwk:wrap64 ((k:Int)+1)=(k:Int)+1:=by have:=HS.out;unfold wrap64;omega
  by_cases hlt:k < s.size
  ·have hlt':k < l.length:=by rw[HG.out.1];exact hlt
   have hby:=HG.out.2.1 k hlt hlt';have htk:l.take (k+1)=l.take k ++ [(s[k]'hlt)]:=by rw[List.take_succ_eq_append_getElem hlt',hby]
   have hfm:(l.take (k+1)).flatMap exC=(l.take k).flatMap exC ++ exC (s[k]'hlt):=by rw[htk,List.flatMap_append,List.flatMap_cons,List.flatMap_nil,List.append_nil]
   have hpc:=HG.out.2.2 k (k+1) (Nat.le_succ k) hlt;rw[htk,List.drop_append_of_le_length (by rw[List.length_take];omega),List.drop_eq_nil_of_le (by rw[List.length_take];omega),List.nil_append] at hpc;have hts:tb.size≤5000:=by
    have h1:tb.data.toList.length=tb.size:=(Lib.size_eq tb).symm;have h2:=HT.out;have h3:=len_ex (l.take k);rw[List.length_take] at h3;rw[← h1,h2,List.length_append];have h4:([32,32]:List UInt8).length=2:=rfl;have:=HS.out;omega
   have HPC:=hid hpc;have HFM:=hid hfm;have HLT:=hid hlt;have HTS:=hid hts;clear hlt' hby htk hfm hpc;by_cases h35:(s[k]'hlt)=35
   ·have e35:(((s[k]'hlt).toNat:Int) == 35)=true:=byte_eq h35;clear h35 hts;have hcall:=awake_any w HENV.out;have HCALL:=hid hcall;clear hcall;go_wp2_with (go_at_call 9;refine HCALL.out.mono ?_;intro e x1 hx;obtain⟨rfl,hb⟩:=hx;refine Hid.out ?_);refine hid ?_;replace HB:=hid (HB.out.trans (hb.mono HB.out.size));replace HENV:=hid (HENV.out.ext hb);clear hb HCALL;go_wp2;go_ret;exact⟨rfl,HB.out⟩
   have e35:(((s[k]'hlt).toNat:Int) == 35)=false:=byte_ne h35;by_cases h10:(s[k]'hlt)=10
   ·have e10:(((s[k]'hlt).toNat:Int) == 10)=true:=byte_eq h10;have HN:Hid ((tb ++ ⟨#[32,35,32,120,10,32,32,10,32]⟩:ByteArray).data.toList=[32,32] ++ (l.take (k+1)).flatMap exC):=hid (by
     rw[ByteArray.data_append,Array.toList_append,HT.out,HFM.out,h10,List.append_assoc];rfl)
    have hm1:¬ 9223372036854775807 < tb.size+9:=by omega
    clear h35 h10 hts;go_wp2;go_roundw
    case rel=>exact⟨k+1,_,HLT.out,rfl,(by first | rfl | (rw[hwk];rfl)),(by first | rfl | trivial),HN⟩
    case measure=>(try rw[hwk]);exact meas_step5b HLT.out
   have e10:(((s[k]'hlt).toNat:Int) == 10)=false:=byte_ne h10;by_cases h32:(s[k]'hlt)=32
   ·have e32:(((s[k]'hlt).toNat:Int) == 32)=true:=byte_eq h32;have HN:Hid ((tb ++ ⟨#[32,32,32]⟩:ByteArray).data.toList=[32,32] ++ (l.take (k+1)).flatMap exC):=hid (by
     rw[ByteArray.data_append,Array.toList_append,HT.out,HFM.out,h32,List.append_assoc];rfl)
    have hm1:¬ 9223372036854775807 < tb.size+3:=by omega
    clear h35 h10 h32 hts;go_wp2;go_roundw
    case rel=>exact⟨k+1,_,HLT.out,rfl,(by first | rfl | (rw[hwk];rfl)),(by first | rfl | trivial),HN⟩
    case measure=>(try rw[hwk]);exact meas_step5b HLT.out
   have e32:(((s[k]'hlt).toNat:Int) == 32)=false:=byte_ne h32;have HN:Hid ((tb ++ s.extract k (k+1):ByteArray).data.toList=[32,32] ++ (l.take (k+1)).flatMap exC):=hid (by
    rw[ByteArray.data_append,Array.toList_append,HT.out,HFM.out,HPC.out,List.append_assoc];unfold exC;rw[if_neg h10,if_neg h32])
   have hxs:(s.extract k (k+1)).size=1:=by rw[Lib.size_eq,HPC.out];rfl
   have hm1:¬ 9223372036854775807 < tb.size+(s.extract k (k+1)).size:=by rw[hxs];omega
   have hk1:k+1≤s.size:=hlt;clear h35 h10 h32 hts;go_wp2;go_roundw
   case rel=>exact⟨k+1,_,HLT.out,rfl,(by first | rfl | (rw[hwk];rfl)),(by first | rfl | trivial),HN⟩
   case measure=>(try rw[hwk]);exact meas_step5b HLT.out
  ·have hek:k=s.size:=by omega
   have dk:decide ((k:Int) < (s.size:Int))=false:=decide_eq_false (by omega);have hnlt:¬ k < s.size:=hlt;have HTE:Hid (tb.data.toList=[32,32] ++ l.flatMap exC):=hid (by rw[HT.out,hek,← HG.out.1,List.take_length]);have hsp:=spaces_law (s:=l) (by have:=HS.out;have:=HG.out.1;omega) (by rw[← HNF.out];exact HF.out);have htl:(tb ++ ⟨#[32,32,35]⟩:ByteArray).data.toList=[32,32] ++ l.flatMap exC ++ [32,32,35]:=by rw[ByteArray.data_append,Array.toList_append,HTE.out]
   rw[← htl] at hsp;obtain⟨ls,i,er,hr⟩:∃ ls i er,scrP l=(ls,i,er):=⟨_,_,_,rfl⟩
   obtain⟨lt,it,et,hrt⟩:∃ ls i er,scrP (tb ++ ⟨#[32,32,35]⟩:ByteArray).data.toList=(ls,i,er):=⟨_,_,_,rfl⟩
   have hll:=scr_len l;have hle:=len_ex l;rw[hr] at hll;rw[hr,hrt] at hsp;dsimp only at hsp hll;obtain⟨rfl,rfl⟩:=hsp;have hts:tb.size≤5000:=by
    have h1:tb.data.toList.length=tb.size:=(Lib.size_eq tb).symm;rw[← h1,HTE.out,List.length_append];have h4:([32,32]:List UInt8).length=2:=rfl;have:=HS.out;have:=HG.out.1;omega
   have hm1:¬ 9223372036854775807 < tb.size+3:=by omega
   have HLL:Hid (ls.length≤1000000):=hid (by omega);have HP:Hid (∀ W,Env56 W→Calls Tryz.prog 10 #[.string s] W fun e w'=>∃ v,e=.returned (.tuple #[v,.int .i64 i,.int .i64 er])∧CmsA w' v ls∧Below W.heap.size W w'):=hid (fun W hW=>by
    have h:=parse56_any s W hW.1.1 hW.2 (by rw[← HLE.out];have:=HS.out;have:=HG.out.1;omega);rw[← HLE.out,hr] at h;exact h)
   have HQ:Hid (∀ W,Env56 W→Calls Tryz.prog 10 #[.string (tb ++ ⟨#[32,32,35]⟩)] W fun e w'=>∃ v,e=.returned (.tuple #[v,.int .i64 it,.int .i64 er])∧CmsA w' v ls∧Below W.heap.size W w'):=hid (fun W hW=>by
    have h:=parse56_any (tb ++ ⟨#[32,32,35]⟩) W hW.1.1 hW.2 (by rw[← Lib.size_eq,ByteArray.size_append];show tb.size+3≤_;omega);rw[hrt] at h;exact h)
   clear hr hrt hll hle htl hek hlt hts;have q2:((er:Int) == er)=true:=beq_self_eq_true _;have hcall:=HP.out w HENV.out;have HCALL:=hid hcall;clear hcall;go_wp2_with (go_at_call 10;refine HCALL.out.mono ?_;intro e x1 hx;obtain⟨v1,rfl,hc1,hb⟩:=hx;refine Hid.out ?_);refine hid ?_;replace HB:=hid (HB.out.trans (hb.mono HB.out.size));replace HENV:=hid (HENV.out.ext hb);clear hb HCALL;have HC1:=hid hc1;clear hc1;have hcall:=HQ.out x1 HENV.out;have HCALL:=hid hcall;clear hcall;go_wp2_with (go_at_call 10;refine HCALL.out.mono ?_;intro e x2 hx;obtain⟨v2,rfl,hc2,hb⟩:=hx;refine Hid.out ?_);refine hid ?_;replace HB:=hid (HB.out.trans (hb.mono HB.out.size));replace HENV:=hid (HENV.out.ext hb);replace HC1:=hid (HC1.out.ext hb);clear hb HCALL;have HC2:=hid hc2;clear hc2;have hcall:=requal_eq ls v1 v2 x2 HC1.out HC2.out HLL.out;have HCALL:=hid hcall;clear hcall;go_wp2_with (go_at_call 12;refine HCALL.out.mono ?_;intro e x3 hx;obtain⟨rfl,hb⟩:=hx;refine Hid.out ?_);refine hid ?_;replace HB:=hid (HB.out.trans (hb.mono HB.out.size));replace HENV:=hid (HENV.out.ext hb);replace HC1:=hid (HC1.out.ext hb);replace HC2:=hid (HC2.out.ext hb);clear hb HCALL;have hcall:=awake_any x3 HENV.out;have HCALL:=hid hcall;clear hcall;go_wp2_with (go_at_call 9;refine HCALL.out.mono ?_;intro e x4 hx;obtain⟨rfl,hb⟩:=hx;refine Hid.out ?_);refine hid ?_;replace HB:=hid (HB.out.trans (hb.mono HB.out.size));replace HENV:=hid (HENV.out.ext hb);replace HC1:=hid (HC1.out.ext hb);replace HC2:=hid (HC2.out.ext hb);clear hb HCALL;go_wp2;go_ret;exact⟨rfl,HB.out⟩
end Go.Proofs.YtcfelnhmifkelaaGreatDoor
