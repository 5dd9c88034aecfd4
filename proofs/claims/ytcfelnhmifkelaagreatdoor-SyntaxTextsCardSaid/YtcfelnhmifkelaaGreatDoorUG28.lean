/-
  texts Rtx56 LawT56: parts of the proof; conditions stand with each theorem.
-/
import Derived.Test.YtcfelnhmifkelaaGreatDoorUG27
namespace Go.Proofs.YtcfelnhmifkelaaGreatDoor
open Lib(hid)
open Go.RowKit
set_option maxRecDepth 100000
set_option linter.unusedVariables false
set_option linter.unusedSimpArgs false
set_option maxHeartbeats 8000000 in
theorem rtext56_any (v:Value)(l:List Cmd)(w:World)(hl:CmsA w v l)(hn:∀ c ∈ l,c.name.length≤65536) :
  Calls Tryz.prog 20 #[v] w fun e w'=>e=.returned (.tuple #[.string ⟨(textP l).1.toArray⟩,.int .i64 (textP l).2])∧Below w.heap.size w w':=by
 obtain⟨LA,lc,rfl⟩:=hl.form;have hle:=hl.le;obtain⟨r,hr⟩:∃ r,r=textP l:=⟨_,rfl⟩
 rw[← hr];have HR:=hid hr;have HL:=hid hl;have HN:=hid hn;clear hr hl hn;go_enter Tryz.func20,Tryz.ntmps20;by_cases h2:200 < l.length
 ·have d2:decide ((200:Int) < (l.length:Int))=true:=decide_eq_true (by omega);have HRE:Hid (r=([],6)):=hid (by rw[HR.out];unfold textP;rw[if_pos h2]);clear hle;go_wp2;go_ret2;exact⟨ret_se HRE.out,Below.refl _ _⟩
 have d2:decide ((200:Int) < (l.length:Int))=false:=decide_eq_false (by omega);have HL2:Hid (l.length≤200):=hid (by omega);clear hle;go_wp2;clear d2 h2;go_loopw [4,5] (fun ov iv wr=>∃ (k:Nat) (ob:ByteArray),k≤l.length∧ov=.string ob∧iv=.int .i64 k∧Hid (Below w.heap.size w wr)∧Hid (ob.data.toList=catT (l.take k))∧Hid (errT (l.drop k)=errT l)) (fun _ iv _=>l.length - (intOf iv).toNat)
 case atStart=>exact⟨0,⟨#[]⟩,Nat.zero_le _,rfl,rfl,hid (Below.refl _ _),hid rfl,hid rfl⟩
 case round=>
  obtain⟨k,ob,hk,rfl,rfl,HBq,HOB,HT⟩:=hrel;have hwk:wrap64 ((k:Int)+1)=(k:Int)+1:=by have:=HL2.out;unfold wrap64;omega
  by_cases hlt:k < l.length
  ·obtain⟨lb,lo,lcc,A,n,e1,-,hcl,y0,y1,y2,y3,y4,y5,y6,y7,y8,y9⟩:=(HL.out.ext HBq.out).at_ hlt;injection e1 with e1 e2 e3
   subst e1 e3;have hat:=errT_drop hlt;have hsn:=catT_snoc hlt;have hcn:=HN.out _ (List.getElem_mem hlt);have htk:=catT_len (l.take k) (fun x hx=>line_len (HN.out x (List.mem_of_mem_take hx)));obtain⟨c,hc⟩:∃ c,c=l[k]:=⟨_,rfl⟩
   rw[← hc] at hat hsn hcn hcl y0 y1 y2 y3 y4 y5 y6 y7 y8 y9;have HLT:=hid hlt;have HAT:=hid hat;have HSN:=hid hsn;have hln:=rlin56_any c A n wr hcl hcn;have hll:=line_len hcn;obtain⟨y,hy⟩:∃ b:ByteArray,b=⟨(lineP c).1.toArray⟩:=⟨_,rfl⟩
   obtain⟨er,her⟩:∃ e,e=(lineP c).2:=⟨_,rfl⟩
   have hyl:y.data.toList=(lineP c).1:=by rw[hy]
   have hys:y.size=(lineP c).1.length:=by rw[hy];show (lineP c).1.toArray.size=_;exact List.size_toArray
   rw[← hys] at hll;rw[← hy,← her] at hln;rw[← her] at HAT;rw[← hyl] at HSN;unfold cmdV at hln;have HLN:=hid hln;have hos:ob.size≤300000000:=by
    rw[Lib.size_eq,HOB.out];have h1:(l.take k).length≤200:=by rw[List.length_take];have:=HL2.out;omega
    have h2:(l.take k).length*1000001≤200*1000001:=Nat.mul_le_mul_right _ h1;omega
   have HOA:Hid ((ob ++ y ++ ⟨#[10]⟩:ByteArray).data.toList=catT (l.take (k+1))):=hid (by
    rw[HSN.out,← HOB.out,ByteArray.data_append,Array.toList_append,ByteArray.data_append,Array.toList_append,List.append_assoc])
   have hm1:¬ 9223372036854775807 < ob.size+y.size:=by omega
   have hm2:¬ 9223372036854775807 < ob.size+y.size+1:=by omega
   have hm3:¬ 9223372036854775807 < (ob ++ y).size+1:=by rw[ByteArray.size_append];omega
   clear hat hsn hcn hcl hc hln hy her hyl hys hos hll htk;go_wp2_with (go_at_call 15;refine HLN.out.mono ?_;intro e w7 hx;obtain⟨rfl,hb7⟩:=hx;refine Hid.out ?_);refine hid ?_;have HB7:=hid (HBq.out.trans (hb7.mono HBq.out.size));clear hb7 HLN HBq y0 y1 y2 y3 y4 y5 y6 y7 y8 y9;by_cases h0:er=0
   ·subst h0;have e0:((0:Int) != 0)=false:=rfl;have HER:Hid (errT (l.drop (k+1))=errT l):=hid (by rw[← HT.out,HAT.out];rfl);go_wp2;go_roundw
    case rel=>exact⟨k+1,_,HLT.out,rfl,(by first | rfl | (rw[hwk];rfl)),HB7,HOA,HER⟩
    case measure=>(try rw[hwk]);exact meas_step5b HLT.out
   ·have e0:(er != 0)=true:=by simpa using h0
    have HRE:Hid (r=([],er)):=hid (by
     have h1:errT l=er:=by rw[← HT.out,HAT.out,if_pos h0]
     rw[HR.out];unfold textP;rw[if_neg (by have:=HL2.out;omega),if_pos (by rw[h1];exact h0),h1])
    clear h0 HAT;go_wp2;go_ret2;exact⟨ret_se HRE.out,HB7.out⟩
  ·have hek:k=l.length:=by omega
   have dk:decide ((k:Int) < l.length)=false:=decide_eq_false (by omega);have hnlt:¬ k < l.length:=hlt;have HER:Hid (errT l=0):=hid (by rw[← HT.out,hek,List.drop_length];rfl);rw[show l.take k=l by rw[hek,List.take_length]] at HOB;have HRB:Hid (r=if 65536 < (catT l).length then ([],6) else (catT l,0)):=hid (by
    rw[HR.out];unfold textP;rw[if_neg (by have:=HL2.out;omega),if_neg (by rw[HER.out];simp)])
   have hos:ob.size=(catT l).length:=by rw[Lib.size_eq,HOB.out]
   clear hek hlt HT;by_cases h6:65536 < ob.size
   ·have d6:decide ((65536:Int) < (ob.size:Int))=true:=decide_eq_true (by omega);have h6i:(65536:Int) < (ob.size:Int):=by omega
    have HRE:Hid (r=([],6)):=hid (by rw[HRB.out,if_pos (by rw[← hos];exact h6)]);clear hos;go_wp2;go_ret2;exact⟨ret_se HRE.out,HBq.out⟩
   ·have d6:decide ((65536:Int) < (ob.size:Int))=false:=decide_eq_false (by omega);have h6i:¬ (65536:Int) < (ob.size:Int):=by omega
    have HRE:Hid (r=(ob.data.toList,0)):=hid (by rw[HRB.out,if_neg (by rw[← hos];exact h6),HOB.out]);clear hos;go_wp2;go_ret2;refine⟨?_,HBq.out⟩;have h:=ret_se HRE.out;rw[ba_eta] at h;exact h
set_option maxHeartbeats 16000000 in
theorem lawT_any (l:List Cmd)(v:Value)(w:World)(hl:CmsA w v l)(he:Env56 w):Calls Tryz.prog 5 #[v] w fun e w'=>e=.returned (.bool true)∧Below w.heap.size w w':=by
 have HENV:=hid he;have HB:Hid (Below w.heap.size w w):=hid (Below.refl _ _);have HL:=hid hl;clear he hl;cases hs:smallsC l with
 | false=>
  go_enter Tryz.func5,Tryz.ntmps5;have hcall:=smalls_any v l w HL.out;rw[hs] at hcall;have HCALL:=hid hcall;clear hcall;go_wp2_with (go_at_call 18;refine HCALL.out.mono ?_;intro e x1 hx;obtain⟨rfl,hb⟩:=hx;refine Hid.out ?_);refine hid ?_;replace HB:=hid (HB.out.trans (hb.mono HB.out.size));replace HENV:=hid (HENV.out.ext hb);replace HL:=hid (HL.out.ext hb);clear hb HCALL;have hcall:=awake_any x1 HENV.out;have HCALL:=hid hcall;clear hcall;go_wp2_with (go_at_call 9;refine HCALL.out.mono ?_;intro e x2 hx;obtain⟨rfl,hb⟩:=hx;refine Hid.out ?_);refine hid ?_;replace HB:=hid (HB.out.trans (hb.mono HB.out.size));replace HENV:=hid (HENV.out.ext hb);replace HL:=hid (HL.out.ext hb);clear hb HCALL;go_wp2;go_ret;exact⟨rfl,HB.out⟩
 | true=>
  have HNM:=hid (smalls_names hs);obtain⟨⟨y,er⟩,hy⟩:∃ p:ByteArray × Int,p=(⟨(textP l).1.toArray⟩,(textP l).2):=⟨_,rfl⟩
  have hy1:y=⟨(textP l).1.toArray⟩:=congrArg Prod.fst hy;have hy2:er=(textP l).2:=congrArg Prod.snd hy;have HP:Hid (∀ W,Env56 W→CmsA W v l→Calls Tryz.prog 19 #[v] W fun e w'=>e=.returned (.tuple #[.string y,.int .i64 er])∧Below W.heap.size W w'):=hid (fun W h1 h2=>by
   rw[hy1,hy2];exact text56_any v l W h1.1 h1.2 h2 HNM.out)
  have HQ:Hid (∀ W,CmsA W v l→Calls Tryz.prog 20 #[v] W fun e w'=>e=.returned (.tuple #[.string y,.int .i64 er])∧Below W.heap.size W w'):=hid (fun W h2=>by
   rw[hy1,hy2];exact rtext56_any v l W h2 HNM.out)
  clear hy hy1 hy2;have q2:((er:Int) == er)=true:=beq_self_eq_true _;go_enter Tryz.func5,Tryz.ntmps5;have hcall:=smalls_any v l w HL.out;rw[hs] at hcall;have HCALL:=hid hcall;clear hcall;go_wp2_with (go_at_call 18;refine HCALL.out.mono ?_;intro e x1 hx;obtain⟨rfl,hb⟩:=hx;refine Hid.out ?_);refine hid ?_;replace HB:=hid (HB.out.trans (hb.mono HB.out.size));replace HENV:=hid (HENV.out.ext hb);replace HL:=hid (HL.out.ext hb);clear hb HCALL;have hcall:=HP.out x1 HENV.out HL.out;have HCALL:=hid hcall;clear hcall;go_wp2_with (go_at_call 19;refine HCALL.out.mono ?_;intro e x2 hx;obtain⟨rfl,hb⟩:=hx;refine Hid.out ?_);refine hid ?_;replace HB:=hid (HB.out.trans (hb.mono HB.out.size));replace HENV:=hid (HENV.out.ext hb);replace HL:=hid (HL.out.ext hb);clear hb HCALL;have hcall:=HQ.out x2 HL.out;have HCALL:=hid hcall;clear hcall;go_wp2_with (go_at_call 20;refine HCALL.out.mono ?_;intro e x3 hx;obtain⟨rfl,hb⟩:=hx;refine Hid.out ?_);refine hid ?_;replace HB:=hid (HB.out.trans (hb.mono HB.out.size));replace HENV:=hid (HENV.out.ext hb);replace HL:=hid (HL.out.ext hb);clear hb HCALL;have hcall:=awake_any x3 HENV.out;have HCALL:=hid hcall;clear hcall;go_wp2_with (go_at_call 9;refine HCALL.out.mono ?_;intro e x4 hx;obtain⟨rfl,hb⟩:=hx;refine Hid.out ?_);refine hid ?_;replace HB:=hid (HB.out.trans (hb.mono HB.out.size));replace HENV:=hid (HENV.out.ext hb);replace HL:=hid (HL.out.ext hb);clear hb HCALL;go_wp2;go_ret;exact⟨rfl,HB.out⟩
end Go.Proofs.YtcfelnhmifkelaaGreatDoor
