/-
  texts Txt56 AwkM56 Awake56 Law056 LawP56 Laid Open: parts of the proof; conditions stand with each theorem.
-/
import Derived.Test.YtcfelnhmifkelaaGreatDoorVG21
import Derived.Test.YtcfelnhmifkelaaGreatDoorVG18
import Derived.Test.YtcfelnhmifkelaaGreatDoorVG19
import Derived.Test.YtcfelnhmifkelaaGreatDoorRows
import Derived.ProofKit
import Derived.OpenShut
import Derived.LaidMore
import Derived.Lay
import Derived.Deep.DeepHandedRow
import Derived.Lib.LaidTab
import Derived.Stop.LaidErr
import Derived.WalkKit
import Derived.HandedShaped
import Derived.Shelf.Vars
import Derived.Deep.SlicePairs
import Derived.MakeChecks
import Derived.Below
import Derived.ChangeSame
namespace Go.Proofs.YtcfelnhmifkelaaGreatDoor
open Lib(hid)
open Go.RowKit
set_option maxRecDepth 100000
set_option linter.unusedVariables false
set_option linter.unusedSimpArgs false
set_option maxHeartbeats 8000000 in
theorem text56_any (v:Value)(l:List Cmd)(w:World)(hg:Glob w)(he:ErrV w)(hl:CmsA w v l)(hn:∀ c ∈ l,c.name.length≤65536) :
  Calls Tryz.prog 19 #[v] w fun e w'=>e=.returned (.tuple #[.string ⟨(textP l).1.toArray⟩,.int .i64 (textP l).2])∧Below w.heap.size w w':=by
 obtain⟨LA,lc,rfl⟩:=hl.form;have hle:=hl.le;obtain⟨r,hr⟩:∃ r,r=textP l:=⟨_,rfl⟩
 rw[← hr];have HR:=hid hr;have HG:=hid hg;have HE:=hid he;have HL:=hid hl;have HN:=hid hn;clear hr hg he hl hn;go_enter Tryz.func19,Tryz.ntmps19;by_cases h2:200 < l.length
 ·have d2:decide ((200:Int) < (l.length:Int))=true:=decide_eq_true (by omega);have HRE:Hid (r=([],6)):=hid (by rw[HR.out];unfold textP;rw[if_pos h2]);clear hle;go_wp2;go_ret2;exact⟨ret_se HRE.out,Below.refl _ _⟩
 have d2:decide ((200:Int) < (l.length:Int))=false:=decide_eq_false (by omega);have HL2:Hid (l.length≤200):=hid (by omega);clear hle;go_wp2;clear d2 h2;go_loopw [4,5,15] (fun ov gv iv wr=>∃ (k:Nat) (ob:ByteArray) (lg:Bool),k≤l.length∧ov=.string ob∧gv=.bool lg∧iv=.int .i64 k∧Hid (Below w.heap.size w wr)∧Hid (lg=decide (65536 < (catT (l.take k)).length))∧Hid (lg=false→ob.data.toList=catT (l.take k))∧Hid (errT (l.drop k)=errT l)) (fun _ _ iv _=>l.length - (intOf iv).toNat)
 case atStart=>exact⟨0,⟨#[]⟩,false,Nat.zero_le _,rfl,rfl,rfl,hid (Below.refl _ _),hid rfl,hid (fun _=>rfl),hid rfl⟩
 case round=>
  obtain⟨k,ob,lg,hk,rfl,rfl,rfl,HBq,HLG,HOB,HT⟩:=hrel;have hwk:wrap64 ((k:Int)+1)=(k:Int)+1:=by have:=HL2.out;unfold wrap64;omega
  by_cases hlt:k < l.length
  ·obtain⟨lb,lo,lcc,A,n,e1,-,hcl,y0,y1,y2,y3,y4,y5,y6,y7,y8,y9⟩:=(HL.out.ext HBq.out).at_ hlt;injection e1 with e1 e2 e3
   subst e1 e3;have hat:=errT_drop hlt;have hsn:=catT_snoc hlt;have hcm:(catT (l.take (k+1))).length≤_:=catT_mono (Nat.succ_le_of_lt hlt);have hcn:=HN.out _ (List.getElem_mem hlt);obtain⟨c,hc⟩:∃ c,c=l[k]:=⟨_,rfl⟩
   rw[← hc] at hat hsn hcn hcl y0 y1 y2 y3 y4 y5 y6 y7 y8 y9;have HLT:=hid hlt;have HAT:=hid hat;have HSN:=hid hsn;obtain⟨w6,hw6⟩:∃ W,W=wr.alloc (.cells #[.int .i64 c.kind,.int .i64 c.x,.int .i64 c.y,.int .i64 c.n,.int .i64 c.m,.string (nmV c),.slice A c.cells.length n,.int .i64 c.p,.int .i64 c.dx,.int .i64 c.dy] 34):=⟨_,rfl⟩
   obtain⟨p6,hp6⟩:∃ p,p=wr.heap.size:=⟨_,rfl⟩
   have hk6:Blk w6 p6 34 #[.int .i64 c.kind,.int .i64 c.x,.int .i64 c.y,.int .i64 c.n,.int .i64 c.m,.string (nmV c),.slice A c.cells.length n,.int .i64 c.p,.int .i64 c.dx,.int .i64 c.dy]:=by rw[hw6,hp6];exact Blk.new _ _ _
   have hb6:Below wr.heap.size wr w6:=by rw[hw6];exact below_new _ _
   have HB6:=hid (HBq.out.trans (hb6.mono HBq.out.size));have x0:w6.cell? ⟨p6,0,none⟩=some (.int .i64 c.kind):=hk6.cell_ 0 _ rfl;have x1:w6.cell? ⟨p6,1,none⟩=some (.int .i64 c.x):=hk6.cell_ 1 _ rfl;have x2:w6.cell? ⟨p6,2,none⟩=some (.int .i64 c.y):=hk6.cell_ 2 _ rfl;have x3:w6.cell? ⟨p6,3,none⟩=some (.int .i64 c.n):=hk6.cell_ 3 _ rfl;have x4:w6.cell? ⟨p6,4,none⟩=some (.int .i64 c.m):=hk6.cell_ 4 _ rfl;have x5:w6.cell? ⟨p6,5,none⟩=some (.string (nmV c)):=hk6.cell_ 5 _ rfl;have x6:w6.cell? ⟨p6,6,none⟩=some (.slice A c.cells.length n):=hk6.cell_ 6 _ rfl;have x7:w6.cell? ⟨p6,7,none⟩=some (.int .i64 c.p):=hk6.cell_ 7 _ rfl;have x8:w6.cell? ⟨p6,8,none⟩=some (.int .i64 c.dx):=hk6.cell_ 8 _ rfl;have x9:w6.cell? ⟨p6,9,none⟩=some (.int .i64 c.dy):=hk6.cell_ 9 _ rfl;have hln:=line56_any c A n w6 (HG.out.ext HB6.out) (HE.out.ext HB6.out) (hcl.ext hb6) hcn;have hll:=line_len hcn;obtain⟨y,hy⟩:∃ b:ByteArray,b=⟨(lineP c).1.toArray⟩:=⟨_,rfl⟩
   obtain⟨er,her⟩:∃ e,e=(lineP c).2:=⟨_,rfl⟩
   have hyl:y.data.toList=(lineP c).1:=by rw[hy]
   have hys:y.size=(lineP c).1.length:=by rw[hy];show (lineP c).1.toArray.size=_;exact List.size_toArray
   rw[← hys] at hll;rw[← hy,← her] at hln;rw[← her] at HAT;rw[← hyl] at HSN;unfold cmdV at hln;have HLN:=hid hln;have HYS:Hid (y.data.toList.length=y.size):=hid (by rw[hyl,hys]);clear hat hsn hcm hcn hcl hc hk6 hb6 hln hy her hyl hys;go_upto_region 7 with fail
   rw[← hw6,← hp6];clear hw6 hp6 y0 y1 y2 y3 y4 y5 y6 y7 y8 y9;go_wp2_with (go_at_call 14;refine HLN.out.mono ?_;intro e w7 hx;obtain⟨rfl,hb7⟩:=hx;refine Hid.out ?_);refine hid ?_;have HB7:=hid (HB6.out.trans (hb7.mono HB6.out.size));clear hb7 HLN HB6 HBq x0 x1 x2 x3 x4 x5 x6 x7 x8 x9;by_cases h0:er=0
   ·subst h0;have e0:((0:Int) != 0)=false:=rfl;have HER:Hid (errT (l.drop (k+1))=errT l):=hid (by rw[← HT.out,HAT.out];rfl);cases lg with
    | true=>
     have HLG2:Hid (true=decide (65536 < (catT (l.take (k+1))).length)):=hid (by
      have h1:65536 < (catT (l.take k)).length:=of_decide_eq_true HLG.out.symm;have h2:(catT (l.take k)).length≤(catT (l.take (k+1))).length:=by rw[HSN.out,List.length_append];omega
      exact (decide_eq_true (Nat.lt_of_lt_of_le h1 h2)).symm)
     go_wp2;go_roundw
     case rel=>exact⟨k+1,ob,true,HLT.out,rfl,rfl,(by first | rfl | (rw[hwk];rfl)),HB7,HLG2,hid (fun h=>by cases h),HER⟩
     case measure=>(try rw[hwk]);exact meas_step5b HLT.out
    | false=>
     have hol:ob.data.toList.length=(catT (l.take k)).length:=by rw[HOB.out rfl]
     have hos:ob.size=ob.data.toList.length:=Array.length_toList.symm;have ho6:ob.size≤65536:=by
      have h1:=of_decide_eq_false HLG.out.symm;omega
     have hws:wrap64 ((ob.size:Int)+(y.size:Int))=(ob.size:Int)+(y.size:Int):=by unfold wrap64;omega
     have hsl:(catT (l.take (k+1))).length=ob.size+(y.size+1):=by
      rw[HSN.out,List.length_append,List.length_append,HYS.out,hos,hol];rfl
     have HSL:=hid hsl;have HLL:=hid hll;have HO6:=hid ho6;have HOA:Hid ((ob ++ (y ++ ⟨#[10]⟩):ByteArray).data.toList=catT (l.take (k+1))):=hid (by
      rw[HSN.out,← HOB.out rfl,ByteArray.data_append,Array.toList_append,ByteArray.data_append,Array.toList_append])
     have hm1:¬ 9223372036854775807 < y.size+1:=by omega
     have hm2:¬ 9223372036854775807 < ob.size+(y.size+1):=by omega
     by_cases h6:65536≤ob.size+y.size
     ·have d6:decide ((65536:Int)≤(ob.size:Int)+(y.size:Int))=true:=decide_eq_true (by omega);have h6i:(65536:Int)≤(ob.size:Int)+(y.size:Int):=by omega
      have HLG2:Hid (true=decide (65536 < (catT (l.take (k+1))).length)):=hid (decide_eq_true (by rw[HSL.out];omega)).symm;clear hol hos ho6 hsl h6;go_wp2;go_roundw
      case rel=>exact⟨k+1,ob,true,HLT.out,rfl,rfl,(by first | rfl | (rw[hwk];rfl)),HB7,HLG2,hid (fun h=>by cases h),HER⟩
      case measure=>(try rw[hwk]);exact meas_step5b HLT.out
     ·have d6:decide ((65536:Int)≤(ob.size:Int)+(y.size:Int))=false:=decide_eq_false (by omega);have h6i:¬ (65536:Int)≤(ob.size:Int)+(y.size:Int):=by omega
      have HLG2:Hid (false=decide (65536 < (catT (l.take (k+1))).length)):=hid (decide_eq_false (by rw[HSL.out];omega)).symm;clear hol hos ho6 hsl h6;go_wp2;go_roundw
      case rel=>exact⟨k+1,_,false,HLT.out,rfl,rfl,(by first | rfl | (rw[hwk];rfl)),HB7,HLG2,hid (fun _=>HOA.out),HER⟩
      case measure=>(try rw[hwk]);exact meas_step5b HLT.out
   ·have e0:(er != 0)=true:=by simpa using h0
    have HRE:Hid (r=([],er)):=hid (by
     have h1:errT l=er:=by rw[← HT.out,HAT.out,if_pos h0]
     rw[HR.out];unfold textP;rw[if_neg (by have:=HL2.out;omega),if_pos (by rw[h1];exact h0),h1])
    clear h0 HAT;go_wp2;go_ret2;exact⟨ret_se HRE.out,HB7.out⟩
  ·have hek:k=l.length:=by omega
   have dk:decide ((k:Int) < l.length)=false:=decide_eq_false (by omega);have hnlt:¬ k < l.length:=hlt;have HER:Hid (errT l=0):=hid (by rw[← HT.out,hek,List.drop_length];rfl);rw[show l.take k=l by rw[hek,List.take_length]] at HLG HOB;have HRB:Hid (r=if 65536 < (catT l).length then ([],6) else (catT l,0)):=hid (by
    rw[HR.out];unfold textP;rw[if_neg (by have:=HL2.out;omega),if_neg (by rw[HER.out];simp)])
   clear hek hlt HT;cases lg with
   | true=>
    have HRE:Hid (r=([],6)):=hid (by rw[HRB.out,if_pos (of_decide_eq_true HLG.out.symm)]);go_wp2;go_ret2;exact⟨ret_se HRE.out,HBq.out⟩
   | false=>
    have HRE:Hid (r=(ob.data.toList,0)):=hid (by rw[HRB.out,if_neg (of_decide_eq_false HLG.out.symm),HOB.out rfl]);go_wp2;go_ret2;refine⟨?_,HBq.out⟩;have h:=ret_se HRE.out;rw[ba_eta] at h;exact h
end Go.Proofs.YtcfelnhmifkelaaGreatDoor
namespace Go.Proofs.YtcfelnhmifkelaaGreatDoor
open Go.RowKit
set_option maxRecDepth 100000
set_option linter.unusedVariables false
set_option linter.unusedSimpArgs false
def Env56 (w:World):Prop:=Glob w∧ErrV w
theorem Env56.ext {w w':World}(h:Env56 w)(hb:Below w.heap.size w w'):Env56 w':=⟨h.1.ext hb,h.2.ext hb⟩
theorem parse_q (b:List UInt8){l:List Cmd}{N:Nat}{i er:Int}(w:World)(he:Env56 w)(h:scrP b=(l,i,er)) (hN:l.length=N)(hs:b.length≤70000) :
  Calls Tryz.prog 10 #[.string ⟨b.toArray⟩] w fun e w'=>∃ L c,e=.returned (.tuple #[.slice L N c,.int .i64 i,.int .i64 er])∧CmsA w' (.slice L N c) l∧Below w.heap.size w w':=by
 refine (parse56_any ⟨b.toArray⟩ w he.1.1 he.2 hs).mono ?_;rintro e w' ⟨v,rfl,hv,hb⟩;have e1:scrP (⟨b.toArray⟩:ByteArray).data.toList=(l,i,er):=h;rw[e1] at hv ⊢;obtain⟨L,c,rfl⟩:=hv.form;dsimp only at hv ⊢;rw[hN] at hv ⊢;exact⟨L,c,rfl,hv,hb⟩
theorem cms_one {w:World}{L:Option Addr}{c:Nat}{k:Cmd}(h:CmsA w (.slice L 1 c) [k]):∃ b o A n,L=some ⟨b,o,none⟩∧Cls w A k.cells∧w.cell? ⟨b,o,none⟩=some (.int .i64 k.kind)∧w.cell? ⟨b,o+1,none⟩=some (.int .i64 k.x)∧w.cell? ⟨b,o+2,none⟩=some (.int .i64 k.y)∧w.cell? ⟨b,o+3,none⟩=some (.int .i64 k.n)∧w.cell? ⟨b,o+4,none⟩=some (.int .i64 k.m)∧w.cell? ⟨b,o+5,none⟩=some (.string (nmV k))∧w.cell? ⟨b,o+6,none⟩=some (.slice A k.cells.length n)∧w.cell? ⟨b,o+7,none⟩=some (.int .i64 k.p)∧w.cell? ⟨b,o+8,none⟩=some (.int .i64 k.dx)∧w.cell? ⟨b,o+9,none⟩=some (.int .i64 k.dy):=by
 obtain⟨b,o,c',A,n,e,-,hcl,h0,h1,h2,h3,h4,h5,h6,h7,h8,h9⟩:=h.at_ (k:=0) (by simp);injection e with e1 e2 e3
 exact⟨b,o,A,n,e1,hcl,by simpa using h0,by simpa using h1,by simpa using h2,by simpa using h3,by simpa using h4,by simpa using h5,by simpa using h6,by simpa using h7,by simpa using h8,by simpa using h9⟩
theorem lineB_q {w:World}{AB:Option Addr}{nB:Nat}(he:Env56 w)(hc:Cls w AB exB.cells):Calls Tryz.prog 14 #[.agg #[.int .i64 2,.int .i64 0,.int .i64 0,.int .i64 0,.int .i64 0,.string ⟨#[103]⟩,.slice AB 5 nB,.int .i64 0,.int .i64 0,.int .i64 0]] w fun e w'=>e=.returned (.tuple #[.string ⟨#[99,101,108,108,115,32,103,32,98,111,36,50,98,111,36,51,111,33]⟩,.int .i64 0])∧Below w.heap.size w w':=by
 have h:=line56_any exB AB nB w he.1 he.2 hc (by decide);rw[exB_line] at h;exact h
theorem textA_q {w:World}{L:Option Addr}{c:Nat}(he:Env56 w)(h:CmsA w (.slice L 1 c) [exA]):Calls Tryz.prog 19 #[.slice L 1 c] w fun e w'=>e=.returned (.tuple #[.string ⟨#[112,117,116,32,103,32,97,116,32,45,51,32,52,32,116,117,114,110,32,50,10]⟩,.int .i64 0])∧Below w.heap.size w w':=by
 have h:=text56_any (.slice L 1 c) [exA] w he.1 he.2 h (by decide);rw[exA_text] at h;exact h
theorem sameA_q {w:World}{AA:Option Addr}{nA:Nat}(hc:Cls w AA exA.cells):Calls Tryz.prog 22 #[.agg #[.int .i64 3,.int .i64 (-3),.int .i64 4,.int .i64 2,.int .i64 0,.string ⟨#[103]⟩,.slice AA 0 nA,.int .i64 0,.int .i64 0,.int .i64 0],.agg #[.int .i64 3,.int .i64 (-3),.int .i64 4,.int .i64 2,.int .i64 0,.string ⟨#[103]⟩,.slice none 0 0,.int .i64 0,.int .i64 0,.int .i64 0]] w fun e w'=>e=.returned (.bool true)∧Below w.heap.size w w':=
 rsame_eq exA AA none nA 0 w hc Cls.nil
theorem rightA_q {w:World}{AA:Option Addr}{nA:Nat}(he:Env56 w)(hc:Cls w AA exA.cells):Calls Tryz.prog 16 #[.agg #[.int .i64 3,.int .i64 (-3),.int .i64 4,.int .i64 2,.int .i64 0,.string ⟨#[103]⟩,.slice AA 0 nA,.int .i64 0,.int .i64 0,.int .i64 0]] w fun e w'=>e=.returned (.bool true)∧Below w.heap.size w w':=by
 have h:=right56_any exA AA nA w he.1.1 he.2 hc (by decide);rw[exA_right] at h;exact h
end Go.Proofs.YtcfelnhmifkelaaGreatDoor
namespace Go.Proofs.YtcfelnhmifkelaaGreatDoor
open Lib(hid)
open Go.RowKit
set_option maxRecDepth 100000
set_option linter.unusedVariables false
set_option linter.unusedSimpArgs false
set_option maxHeartbeats 16000000 in
theorem awake_any (w:World)(he:Env56 w):Calls Tryz.prog 9 #[] w fun e w'=>e=.returned (.bool true)∧Below w.heap.size w w':=by
 have HENV:=hid he;have HB:Hid (Below w.heap.size w w):=hid (Below.refl _ _);clear he;go_enter Tryz.func9,Tryz.ntmps9;have hcall:=parse_q [112,117,116,32,103,32,97,116,32,45,51,32,52,32,116,117,114,110,32,50,32,35,32,116,119,111,32,116,117,114,110,115] (N:=1) w HENV.out exP1 rfl (by decide);have HCALL:=hid hcall;clear hcall;go_wp2_with (go_at_call 10;refine HCALL.out.mono ?_;intro e x1 hx;obtain⟨L1,c1,rfl,hc1,hb⟩:=hx;refine Hid.out ?_);refine hid ?_;replace HB:=hid (HB.out.trans (hb.mono HB.out.size));replace HENV:=hid (HENV.out.ext hb);clear hb HCALL;have HC1:=hid hc1;clear hc1;have hcall:=parse_q [99,101,108,108,115,32,103,32,50,98,111,36,51,98,111,36,98,51,111,33] (N:=1) x1 HENV.out exP2 rfl (by decide);have HCALL:=hid hcall;clear hcall;go_wp2_with (go_at_call 10;refine HCALL.out.mono ?_;intro e x2 hx;obtain⟨L2,c2,rfl,hc2,hb⟩:=hx;refine Hid.out ?_);refine hid ?_;replace HB:=hid (HB.out.trans (hb.mono HB.out.size));replace HENV:=hid (HENV.out.ext hb);replace HC1:=hid (HC1.out.ext hb);clear hb HCALL;have HC2:=hid hc2;clear hc2;have hcall:=parse_q [112,114,105,110,116,10,10,112,114,105,110,116,10,102,111,111] (N:=0) x2 HENV.out exP3 rfl (by decide);have HCALL:=hid hcall;clear hcall;go_wp2_with (go_at_call 10;refine HCALL.out.mono ?_;intro e x3 hx;obtain⟨L3,c3,rfl,hc3,hb⟩:=hx;refine Hid.out ?_);refine hid ?_;replace HB:=hid (HB.out.trans (hb.mono HB.out.size));replace HENV:=hid (HENV.out.ext hb);replace HC1:=hid (HC1.out.ext hb);replace HC2:=hid (HC2.out.ext hb);clear hb HCALL;clear hc3;have hcall:=parse_q [114,117,110,32,45,49] (N:=0) x3 HENV.out exP4 rfl (by decide);have HCALL:=hid hcall;clear hcall;go_wp2_with (go_at_call 10;refine HCALL.out.mono ?_;intro e x4 hx;obtain⟨L4,c4,rfl,hc4,hb⟩:=hx;refine Hid.out ?_);refine hid ?_;replace HB:=hid (HB.out.trans (hb.mono HB.out.size));replace HENV:=hid (HENV.out.ext hb);replace HC1:=hid (HC1.out.ext hb);replace HC2:=hid (HC2.out.ext hb);clear hb HCALL;clear hc4;have hcall:=parse_q [114,117,110,32,48,49] (N:=0) x4 HENV.out exP5 rfl (by decide);have HCALL:=hid hcall;clear hcall;go_wp2_with (go_at_call 10;refine HCALL.out.mono ?_;intro e x5 hx;obtain⟨L5,c5,rfl,hc5,hb⟩:=hx;refine Hid.out ?_);refine hid ?_;replace HB:=hid (HB.out.trans (hb.mono HB.out.size));replace HENV:=hid (HENV.out.ext hb);replace HC1:=hid (HC1.out.ext hb);replace HC2:=hid (HC2.out.ext hb);clear hb HCALL;clear hc5;have hcall:=parse_q [115,97,118,101,32,49,97] (N:=0) x5 HENV.out exP6 rfl (by decide);have HCALL:=hid hcall;clear hcall;go_wp2_with (go_at_call 10;refine HCALL.out.mono ?_;intro e x6 hx;obtain⟨L6,c6,rfl,hc6,hb⟩:=hx;refine Hid.out ?_);refine hid ?_;replace HB:=hid (HB.out.trans (hb.mono HB.out.size));replace HENV:=hid (HENV.out.ext hb);replace HC1:=hid (HC1.out.ext hb);replace HC2:=hid (HC2.out.ext hb);clear hb HCALL;clear hc6
 obtain⟨bB,oB,AB,nB,rfl,hclB,y0,y1,y2,y3,y4,y5,y6,y7,y8,y9⟩:=cms_one HC2.out
 replace y0:x6.cell? ⟨bB,oB,none⟩=some (.int .i64 2):=y0
 replace y1:x6.cell? ⟨bB,oB+1,none⟩=some (.int .i64 0):=y1
 replace y2:x6.cell? ⟨bB,oB+2,none⟩=some (.int .i64 0):=y2
 replace y3:x6.cell? ⟨bB,oB+3,none⟩=some (.int .i64 0):=y3
 replace y4:x6.cell? ⟨bB,oB+4,none⟩=some (.int .i64 0):=y4
 replace y5:x6.cell? ⟨bB,oB+5,none⟩=some (.string ⟨#[103]⟩):=y5
 replace y6:x6.cell? ⟨bB,oB+6,none⟩=some (.slice AB 5 nB):=y6
 replace y7:x6.cell? ⟨bB,oB+7,none⟩=some (.int .i64 0):=y7
 replace y8:x6.cell? ⟨bB,oB+8,none⟩=some (.int .i64 0):=y8
 replace y9:x6.cell? ⟨bB,oB+9,none⟩=some (.int .i64 0):=y9
 have HQ:=hid (lineB_q (nB:=nB) HENV.out hclB);clear hclB;have hcall:=HQ.out;have HCALL:=hid hcall;clear hcall;go_wp2_with (go_at_call 14;refine HCALL.out.mono ?_;intro e x7 hx;obtain⟨rfl,hb⟩:=hx;refine Hid.out ?_);refine hid ?_;replace HB:=hid (HB.out.trans (hb.mono HB.out.size));replace HENV:=hid (HENV.out.ext hb);replace HC1:=hid (HC1.out.ext hb);replace HC2:=hid (HC2.out.ext hb);clear hb HCALL;clear HQ y0 y1 y2 y3 y4 y5 y6 y7 y8 y9;have hcall:=textA_q HENV.out HC1.out;have HCALL:=hid hcall;clear hcall;go_wp2_with (go_at_call 19;refine HCALL.out.mono ?_;intro e x8 hx;obtain⟨rfl,hb⟩:=hx;refine Hid.out ?_);refine hid ?_;replace HB:=hid (HB.out.trans (hb.mono HB.out.size));replace HENV:=hid (HENV.out.ext hb);replace HC1:=hid (HC1.out.ext hb);replace HC2:=hid (HC2.out.ext hb);clear hb HCALL;obtain⟨bA,oA,AA,nA,rfl,hclA,y0,y1,y2,y3,y4,y5,y6,y7,y8,y9⟩:=cms_one HC1.out
 replace y0:x8.cell? ⟨bA,oA,none⟩=some (.int .i64 3):=y0
 replace y1:x8.cell? ⟨bA,oA+1,none⟩=some (.int .i64 (-3)):=y1
 replace y2:x8.cell? ⟨bA,oA+2,none⟩=some (.int .i64 4):=y2
 replace y3:x8.cell? ⟨bA,oA+3,none⟩=some (.int .i64 2):=y3
 replace y4:x8.cell? ⟨bA,oA+4,none⟩=some (.int .i64 0):=y4
 replace y5:x8.cell? ⟨bA,oA+5,none⟩=some (.string ⟨#[103]⟩):=y5
 replace y6:x8.cell? ⟨bA,oA+6,none⟩=some (.slice AA 0 nA):=y6
 replace y7:x8.cell? ⟨bA,oA+7,none⟩=some (.int .i64 0):=y7
 replace y8:x8.cell? ⟨bA,oA+8,none⟩=some (.int .i64 0):=y8
 replace y9:x8.cell? ⟨bA,oA+9,none⟩=some (.int .i64 0):=y9
 have HQ:=hid (sameA_q (nA:=nA) hclA);clear hclA;go_upto_region 11 with fail
 have hcall:=HQ.out;have HCALL:=hid hcall;clear hcall;go_wp2_with (go_at_call 22;refine HCALL.out.mono ?_;intro e x9 hx;obtain⟨rfl,hb⟩:=hx;refine Hid.out ?_);refine hid ?_;replace HB:=hid (HB.out.trans (hb.mono HB.out.size));replace HENV:=hid (HENV.out.ext hb);replace HC1:=hid (HC1.out.ext hb);replace HC2:=hid (HC2.out.ext hb);clear hb HCALL;clear HQ y0 y1 y2 y3 y4 y5 y6 y7 y8 y9;obtain⟨b2,o2,AA,nA,e2,hclA,y0,y1,y2,y3,y4,y5,y6,y7,y8,y9⟩:=cms_one HC1.out;injection e2 with e2
 injection e2 with e2 e3
 subst e2 e3
 replace y0:x9.cell? ⟨bA,oA,none⟩=some (.int .i64 3):=y0
 replace y1:x9.cell? ⟨bA,oA+1,none⟩=some (.int .i64 (-3)):=y1
 replace y2:x9.cell? ⟨bA,oA+2,none⟩=some (.int .i64 4):=y2
 replace y3:x9.cell? ⟨bA,oA+3,none⟩=some (.int .i64 2):=y3
 replace y4:x9.cell? ⟨bA,oA+4,none⟩=some (.int .i64 0):=y4
 replace y5:x9.cell? ⟨bA,oA+5,none⟩=some (.string ⟨#[103]⟩):=y5
 replace y6:x9.cell? ⟨bA,oA+6,none⟩=some (.slice AA 0 nA):=y6
 replace y7:x9.cell? ⟨bA,oA+7,none⟩=some (.int .i64 0):=y7
 replace y8:x9.cell? ⟨bA,oA+8,none⟩=some (.int .i64 0):=y8
 replace y9:x9.cell? ⟨bA,oA+9,none⟩=some (.int .i64 0):=y9
 have HQ:=hid (rightA_q (nA:=nA) HENV.out hclA);clear hclA;have hcall:=HQ.out;have HCALL:=hid hcall;clear hcall;go_wp2_with (go_at_call 16;refine HCALL.out.mono ?_;intro e x10 hx;obtain⟨rfl,hb⟩:=hx;refine Hid.out ?_);refine hid ?_;replace HB:=hid (HB.out.trans (hb.mono HB.out.size));replace HENV:=hid (HENV.out.ext hb);replace HC1:=hid (HC1.out.ext hb);replace HC2:=hid (HC2.out.ext hb);clear hb HCALL;clear HQ y0 y1 y2 y3 y4 y5 y6 y7 y8 y9;go_wp2;go_ret;exact⟨rfl,HB.out⟩
theorem runS_len:∀ (ls:List (List UInt8)) (i:Nat)(a:List Cmd),(runS i a ls).1.length≤a.length+ls.length
 | [],i,a=>Nat.le_refl _
 | l :: ls,i,a=>by
  rw[runS];cases cmdL l with
  | none=>
   have h:=runS_len ls (i+1) a;rw[List.length_cons];show (runS (i+1) a ls).1.length≤_;omega
  | some p=>
   obtain⟨c,e⟩:=p;dsimp only
   split
   ·exact Nat.zero_le _
   ·have h:=runS_len ls (i+1) (a ++ [c]);rw[List.length_append] at h;rw[List.length_cons];have h1:[c].length=1:=rfl;omega
theorem scr_len (s:List UInt8):(scrP s).1.length≤200:=by
 unfold scrP
 split
 ·exact Nat.zero_le _
 ·split
  ·exact Nat.zero_le _
  ·have h:=runS_len (linesP s) 0 [];rw[List.length_nil] at h;omega
theorem feeds_le (s:List UInt8):feeds s≤s.length:=List.countP_le_length
theorem feeds_snoc {l:List UInt8}{k:Nat}(h:k < l.length):feeds (l.take (k+1))=feeds (l.take k)+(if l[k]=10 then 1 else 0):=by
 unfold feeds;rw[List.take_succ_eq_append_getElem h,List.countP_append,List.countP_singleton];by_cases h:l[k]=10
 ·rw[if_pos h,if_pos (by rw[h];rfl)]
 ·rw[if_neg h,if_neg (by simpa using h)]
theorem byte_eq {b c:UInt8}(h:b=c):((b.toNat:Int) == (c.toNat:Int))=true:=by rw[h];exact beq_self_eq_true _
theorem byte_ne {b c:UInt8}(h:¬ b=c):((b.toNat:Int) == (c.toNat:Int))=false:=by
 simp only[beq_eq_false_iff_ne,ne_eq];intro h2;exact h (UInt8.toNat_inj.1 (by omega))
set_option maxHeartbeats 4000000 in
theorem lines_any (s:ByteArray)(w:World)(hs:s.data.toList.length≤1000000):Calls Tryz.prog 21 #[.string s] w fun e w'=>e=.returned (.int .i64 (feeds s.data.toList))∧w=w':=by
 obtain⟨l,hl⟩:∃ l,l=s.data.toList:=⟨_,rfl⟩
 have hgb:∀ j (h:j < s.size) (h':j < l.length),l[j]=s[j]:=by subst hl;exact get_byte9 s
 have hlen:l.length=s.size:=by rw[hl];rfl
 rw[← hl] at hs ⊢;have HS:=hid hs;have HG:=hid (And.intro hlen hgb);clear hl hgb hlen hs;go_enter Tryz.func21,Tryz.ntmps21;go_wp2;go_loopw [3,7] (fun nv iv wr=>∃ k:Nat,k≤s.size∧nv=.int .i64 (feeds (l.take k):Nat)∧iv=.int .i64 k∧w=wr) (fun _ iv _=>s.size - (intOf iv).toNat)
 case atStart=>exact⟨0,Nat.zero_le _,rfl,rfl,rfl⟩
 case round=>
  obtain⟨k,hk,rfl,rfl,rfl⟩:=hrel;have hwk:wrap64 ((k:Int)+1)=(k:Int)+1:=by have:=HS.out;have:=HG.out.1;unfold wrap64;omega
  by_cases hlt:k < s.size
  ·have hlt':k < l.length:=by rw[HG.out.1];exact hlt
   have hsn:=feeds_snoc hlt';rw[HG.out.2 k hlt hlt'] at hsn;have hfl:feeds (l.take k)≤1000000:=by
    have h1:=feeds_le (l.take k);rw[List.length_take] at h1;have:=HS.out;omega
   obtain⟨m,hm⟩:∃ m,m=feeds (l.take k):=⟨_,rfl⟩
   rw[← hm] at hsn hfl ⊢;have hwm:wrap64 ((m:Int)+1)=((m+1:Nat):Int):=by unfold wrap64;omega
   have HSN:=hid hsn;have HLT:=hid hlt;clear hm hsn hfl hlt';by_cases h10:(s[k]'hlt)=10
   ·have e1:(((s[k]'hlt).toNat:Int) == 10)=true:=byte_eq h10;have HN:Hid (m+1=feeds (l.take (k+1))):=hid (by rw[HSN.out];simp[h10]);clear h10 HSN;go_wp2;go_roundw
    case rel=>exact⟨k+1,HLT.out,(by rw[← HN.out];first | rfl | (rw[hwm])),(by first | rfl | (rw[hwk];rfl)),(by first | rfl | trivial)⟩
    case measure=>(try rw[hwk]);exact meas_step5b HLT.out
   ·have e1:(((s[k]'hlt).toNat:Int) == 10)=false:=byte_ne h10;have HN:Hid (m=feeds (l.take (k+1))):=hid (by rw[HSN.out];simp[h10]);clear h10 HSN;go_wp2;go_roundw
    case rel=>exact⟨k+1,HLT.out,(by rw[← HN.out]),(by first | rfl | (rw[hwk];rfl)),(by first | rfl | trivial)⟩
    case measure=>(try rw[hwk]);exact meas_step5b HLT.out
  ·have hek:k=s.size:=by omega
   have dk:decide ((k:Int) < (s.size:Int))=false:=decide_eq_false (by omega);have HE:Hid (l.take k=l):=hid (by rw[hek,← HG.out.1,List.take_length]);clear hek;go_wp2;go_ret;exact⟨by rw[HE.out];rfl,rfl⟩
theorem runS_idx:∀ (ls:List (List UInt8)) (i:Nat)(a:List Cmd),0≤(runS i a ls).2.1∧(runS i a ls).2.1≤(i:Int)+ls.length
 | [],i,a=>⟨Int.le_refl _,by show (0:Int)≤_;omega⟩
 | l :: ls,i,a=>by
  rw[runS];cases cmdL l with
  | none=>
   have h:=runS_idx ls (i+1) a;rw[List.length_cons];show 0≤(runS (i+1) a ls).2.1∧(runS (i+1) a ls).2.1≤_;omega
  | some p=>
   obtain⟨c,e⟩:=p;dsimp only
   split
   ·rw[List.length_cons];show 0≤(i:Int)+1∧(i:Int)+1≤_;omega
   ·have h:=runS_idx ls (i+1) (a ++ [c]);rw[List.length_cons];omega
theorem scr_idx (s:List UInt8):0≤(scrP s).2.1∧(scrP s).2.1≤200:=by
 unfold scrP
 split
 ·exact⟨Int.le_refl _,by decide⟩
 ·split
  ·exact⟨Int.le_refl _,by decide⟩
  ·have h:=runS_idx (linesP s) 0 [];omega
theorem parse_b (s:ByteArray){l:List Cmd}{N:Nat}{i er:Int}(w:World)(he:Env56 w)(h:scrP s.data.toList=(l,i,er)) (hN:l.length=N)(hs:s.data.toList.length≤70000) :
  Calls Tryz.prog 10 #[.string s] w fun e w'=>∃ L c,e=.returned (.tuple #[.slice L N c,.int .i64 i,.int .i64 er])∧CmsA w' (.slice L N c) l∧Below w.heap.size w w':=
 parse_q s.data.toList w he h hN hs
theorem wpList_catK {wr w0:World}{ops:Array Oper}{rest:List Oper}{o:Oper}{a:Act}{Q:Exit→Act→World→Prop}(hgd:o.guard=none)(s x:Operand)(t:TypeId)
  (ho:o.op=.call { callee:=.builtin .append,args:=#[s,x],argTypes:=#[t,t] })
  (base:Nat) (ht:Tryz.prog.underlying t=some (.slice 34))
  (v:Value) (cs ys:List Cmd) (L:Option Addr) (c:Nat) (hs:a.eval s=v) (hown:OwnK wr base v cs) (hx:a.eval x=.slice L ys.length c)
  (hy:CmsA w0 (.slice L ys.length c) ys) (hw:Below w0.heap.size w0 wr) (hfar:∀ g,v.ownBlock=some g→w0.heap.size≤g)
  (hn:cs.length+ys.length < 4294967296) (hbase:base≤wr.heap.size)
  (h:∀ v' w',OwnK w' base v' (cs ++ ys)→Below base wr w'→(∀ g,v'.ownBlock=some g→v.ownBlock=some g∨g=wr.heap.size)→wpList Tryz.prog ops Q rest (a.put o.dst v') w') :
  wpList Tryz.prog ops Q (o :: rest) a wr:=by
 obtain⟨svs,h1,h2,hS⟩:=hown;obtain⟨L',c',ts,e,t1,t2,-⟩:=hy;injection e with e1 e2 e3
 subst e1 e3;obtain⟨i0,hi0,hz0,hz1,hz2⟩:=info_parts Tryz.infoCommand;have hrd:Reads wr wr.heap.size 10 L ys.length ((ys.zip ts).flatMap cmdCells):=(Reads.below t2 hw).more hw.size;have hone:∀ u ∈ (ys.zip ts).flatMap cmdCells,u.oneCell'=true:=by
  intro u hu;obtain⟨p,hp,hu⟩:=List.mem_flatMap.1 hu;have hp2:=(List.of_mem_zip hp).2;obtain⟨j,hj,ej⟩:=List.getElem_of_mem hp2;obtain⟨B,m,e,-⟩:=t1.2 j (by rw[← t1.1];exact hj) hj;simp only[cmdCells,List.mem_cons,List.not_mem_nil,or_false] at hu;rcases hu with rfl | rfl | rfl | rfl | rfl | rfl | rfl | rfl | rfl | rfl <;> first | rfl | (rw[← ej,e];rfl)
 refine wpList_append_any _ hgd s x t ho base 34 i0 _ 10 104 ht hi0 hz0 hz1 hz2 rfl (by decide) v cs.length _ hs h2 _ _ ys.length _ _ hx hrd hone (by unfold maxLen;omega) (by omega) hbase ?_;intro v' w' h3 hg hv;have key:∀ ad:Addr,v.ownBlock≠some ad.block→ad.block < wr.heap.size→v'.ownBlock≠some ad.block∧ad.block < w'.heap.size:=by
  intro ad h5 h6;refine⟨?_,Nat.lt_of_lt_of_le h6 hg.size⟩;rcases hv with hv | hv
  ·rw[hv];exact h5
  ·rw[hv];intro e;injection e with e
   omega
 have cl:∀ (B:Option Addr) (ps:List Cel),Cls wr B ps→(ps.length≠0→∀ ad,B=some ad→v.ownBlock≠some ad.block)→Cls w' B ps:=by
  intro B ps h5 h6;by_cases h0:ps.length=0
  ·exact⟨⟨h5.1.1,fun h=>absurd h (by omega)⟩,h5.2⟩
  ·exact⟨(h5.1.grown56 hg (Nat.le_refl _) (h6 h0)).more hg.size,h5.2⟩
 have far:∀ (B:Option Addr) (ps:List Cel),Cls w0 B ps→ps.length≠0→∀ ad,B=some ad→v.ownBlock≠some ad.block∧ad.block < wr.heap.size:=by
  intro B ps h5 h0 ad e;obtain⟨b,o,e6,hbl,-⟩:=h5.at_ (k:=0) (by omega);rw[e] at e6;injection e6 with e6
  rw[e6];refine⟨fun e7=>?_,Nat.lt_of_lt_of_le hbl hw.size⟩;have h8:=hfar _ e7;have h9:b < w0.heap.size:=hbl;have h10:w0.heap.size≤b:=h8;omega
 refine h v' w' ⟨svs ++ ts,⟨by rw[List.length_append,List.length_append,h1.1,t1.1],fun i hi hi2=>?_⟩,?_,?_⟩ ?_ ?_
 ·by_cases hc:i < cs.length
  ·have hc2:i < svs.length:=by rw[h1.1];exact hc
   obtain⟨B,m,e,h5⟩:=h1.2 i hc hc2;rw[List.getElem_append_left hc2,List.getElem_append_left hc];refine⟨B,m,e,cl B _ h5 fun h0 ad e2=>?_⟩;subst e2;exact (hS _ (List.getElem_mem hc2) ad _ _ e h0).1
  ·have hl:i - cs.length < ys.length:=by rw[List.length_append] at hi;omega
   have hl2:i - cs.length < ts.length:=by rw[t1.1];exact hl
   obtain⟨B,m,e,h5⟩:=t1.2 _ hl hl2;have e1:(svs ++ ts)[i]=ts[i - cs.length]:=by rw[List.getElem_append_right (by rw[h1.1];omega)];simp only[h1.1]
   have e2:(cs ++ ys)[i]=ys[i - cs.length]:=List.getElem_append_right (by omega);rw[e1,e2];exact⟨B,m,e,cl B _ (h5.ext hw) fun h0 ad e=>(far B _ h5 h0 ad e).1⟩
 ·rw[List.length_append,List.zip_append (by rw[h1.1]),List.flatMap_append];exact h3
 ·intro sv hsv ad n k2 e h0;rcases List.mem_append.1 hsv with hsv | hsv
  ·have:=hS sv hsv ad n k2 e h0;exact key ad this.1 this.2
  ·obtain⟨j,hj,ej⟩:=List.getElem_of_mem hsv;obtain⟨B,m,e5,h5⟩:=t1.2 j (by rw[← t1.1];exact hj) hj;rw[ej,e] at e5;injection e5 with e6 e7 e8
   have:=far B _ h5 (by rw[← e7];exact h0) ad e6.symm;exact key ad this.1 this.2
 ·have hbr:∀ g,v.ownBlock=some g→base≤g:=by
   intro g hg2;rcases h2.2 with ⟨rfl,_⟩ | ⟨g',cap,cur,rfl,h4,h5,_⟩
   ·simp[Value.ownBlock] at hg2
   ·simp[Value.ownBlock] at hg2;omega
  exact⟨hg.os,hg.tape,hg.output,hg.size,fun j hj=>hg.block j (by omega) (fun e=>by have:=hbr j e.symm;omega)⟩
 ·intro g hg2;rcases hv with hv | hv
  ·left;rw[← hv];exact hg2
  ·right;rw[hv] at hg2;injection hg2 with hg2;exact hg2.symm
theorem lawP_any (s:ByteArray)(w:World)(he:Env56 w):Calls Tryz.prog 3 #[.string s] w fun e w'=>e=.returned (.bool true)∧Below w.heap.size w w':=by
 have HENV:=hid he;have HB:Hid (Below w.heap.size w w):=hid (Below.refl _ _);clear he;have hsl:s.data.toList.length=s.size:=(Lib.size_eq s).symm;by_cases hs:2000 < s.size
 ·have d1:decide ((2000:Int) < (s.size:Int))=true:=decide_eq_true (by omega);have hs2:(2000:Int) < (s.size:Int):=by omega
  clear hsl;go_enter Tryz.func3,Tryz.ntmps3;have hcall:=awake_any w HENV.out;have HCALL:=hid hcall;clear hcall;go_wp2_with (go_at_call 9;refine HCALL.out.mono ?_;intro e x1 hx;obtain⟨rfl,hb⟩:=hx;refine Hid.out ?_);refine hid ?_;replace HB:=hid (HB.out.trans (hb.mono HB.out.size));replace HENV:=hid (HENV.out.ext hb);clear hb HCALL;go_wp2;go_ret;exact⟨rfl,HB.out⟩
 ·have d1:decide ((2000:Int) < (s.size:Int))=false:=decide_eq_false (by omega);have hs2:¬ (2000:Int) < (s.size:Int):=by omega
  obtain⟨l,i,er,hr⟩:∃ l i er,scrP s.data.toList=(l,i,er):=⟨_,_,_,rfl⟩
  have HLL:Hid (l.length≤1000000):=hid (by have:=scr_len s.data.toList;rw[hr] at this;dsimp only at this;omega);have HP:Hid (∀ W,Env56 W→Calls Tryz.prog 10 #[.string s] W fun e w'=>∃ v,e=.returned (.tuple #[v,.int .i64 i,.int .i64 er])∧CmsA w' v l∧Below W.heap.size W w'):=hid (fun W hW=>by
   have h:=parse56_any s W hW.1.1 hW.2 (by omega);rw[hr] at h;exact h)
  have HQ:Hid (∀ W,Calls Tryz.prog 11 #[.string s] W fun e w'=>∃ v,e=.returned (.tuple #[v,.int .i64 i,.int .i64 er])∧CmsA w' v l∧Below W.heap.size W w'):=hid (fun W=>by
   have h:=rparse56_any s W (by omega);rw[hr] at h;exact h)
  clear hr hsl;have q1:((i:Int) == i)=true:=beq_self_eq_true _;have q2:((er:Int) == er)=true:=beq_self_eq_true _;go_enter Tryz.func3,Tryz.ntmps3;have hcall:=HP.out w HENV.out;have HCALL:=hid hcall;clear hcall;go_wp2_with (go_at_call 10;refine HCALL.out.mono ?_;intro e x1 hx;obtain⟨v1,rfl,hc1,hb⟩:=hx;refine Hid.out ?_);refine hid ?_;replace HB:=hid (HB.out.trans (hb.mono HB.out.size));replace HENV:=hid (HENV.out.ext hb);clear hb HCALL;have HC1:=hid hc1;clear hc1;have hcall:=HQ.out x1;have HCALL:=hid hcall;clear hcall;go_wp2_with (go_at_call 11;refine HCALL.out.mono ?_;intro e x2 hx;obtain⟨v2,rfl,hc2,hb⟩:=hx;refine Hid.out ?_);refine hid ?_;replace HB:=hid (HB.out.trans (hb.mono HB.out.size));replace HENV:=hid (HENV.out.ext hb);replace HC1:=hid (HC1.out.ext hb);clear hb HCALL;have HC2:=hid hc2;clear hc2;have hcall:=requal_eq l v1 v2 x2 HC1.out HC2.out HLL.out;have HCALL:=hid hcall;clear hcall;go_wp2_with (go_at_call 12;refine HCALL.out.mono ?_;intro e x3 hx;obtain⟨rfl,hb⟩:=hx;refine Hid.out ?_);refine hid ?_;replace HB:=hid (HB.out.trans (hb.mono HB.out.size));replace HENV:=hid (HENV.out.ext hb);replace HC1:=hid (HC1.out.ext hb);replace HC2:=hid (HC2.out.ext hb);clear hb HCALL;have hcall:=awake_any x3 HENV.out;have HCALL:=hid hcall;clear hcall;go_wp2_with (go_at_call 9;refine HCALL.out.mono ?_;intro e x4 hx;obtain⟨rfl,hb⟩:=hx;refine Hid.out ?_);refine hid ?_;replace HB:=hid (HB.out.trans (hb.mono HB.out.size));replace HENV:=hid (HENV.out.ext hb);replace HC1:=hid (HC1.out.ext hb);replace HC2:=hid (HC2.out.ext hb);clear hb HCALL;go_wp2;go_ret;exact⟨rfl,HB.out⟩
end Go.Proofs.YtcfelnhmifkelaaGreatDoor
namespace Go.Proofs.YtcfelnhmifkelaaGreatDoor
set_option linter.unusedSimpArgs false
set_option linter.unusedVariables false
open Go.ChangeShapes Go.WideShapes Go.ChangeAt Go.RowKit
set_option maxRecDepth 1000000

noncomputable def laidW (os:Os):World:=World.laidAll Tryz.prog os Rows.syntaxParsesRow.laid
theorem laidW_os (os:Os):(laidW os).os=os:=World.laidAll_os _ _ _
theorem laidW_shaped (os:Os)(args:Array Value):((laidW os).forCall (fun _ _=>0) ⟨#[],args,[]⟩).Shaped Tryz.prog:=World.shaped_of_ZipB (by kernel_rfl) (by kernel_rfl)
theorem laidW_met (os:Os)(args:Array Value):laidMetH Tryz.prog Rows.syntaxParsesRow.laid ((laidW os).forCall (fun _ _=>0) ⟨#[],args,[]⟩).memory:=by
 rw[MakeChecks.laidMetH_plain _ _ _ (by kernel_rfl)];exact laidMet_laidAll _ (by kernel_rfl) (by kernel_rfl)
theorem laidW_witness {H:Type}{enc:TypeId × Value→H}{f:FuncId}{fn:Func}{s:OpenSpec}{conds:List PathCond}{apart:Bool}(os:Os)(args:Array Value)
  (hok:Input.okWideB Tryz.checked.prog ((laidW os).forCall (fun _ _=>0) ⟨#[],args,[]⟩) f ⟨#[],args,[]⟩=true)
  (hrow:s.preRow enc Tryz.checked.prog fn conds apart Rows.syntaxParsesRow.laid ((laidW os).forCall (fun _ _=>0) ⟨#[],args,[]⟩).memory args) :
  ∃ (w:World) (tape:Tape) (i:Input),w.os=os∧(w.forCall tape i).Shaped Tryz.checked.prog∧i.vars=[]∧Input.okWide Tryz.checked.prog (w.forCall tape i) .any w.heap.size f i∧
   s.preRow enc Tryz.checked.prog fn conds apart Rows.syntaxParsesRow.laid (w.forCall tape i).memory i.args∧({}:Assume).holds Tryz.checked.prog (lone (Frame.enter Tryz.checked.prog f i.args .normal) [] (w.forCall tape i)):=
 ⟨laidW os,fun _ _=>0,⟨#[],args,[]⟩,laidW_os os,laidW_shaped os args,(Input.okWide_of_okWideB (base:=0) hok).1,(Input.okWide_of_okWideB hok).2,hrow,by
  simp only[Assume.holds];exact⟨by simp,by simp,fun _=>Modest.zero,by simp,by simp⟩⟩
end Go.Proofs.YtcfelnhmifkelaaGreatDoor
namespace Go.Proofs.YtcfelnhmifkelaaGreatDoor
set_option linter.unusedSimpArgs false
open Go.ChangeShapes Go.WideShapes Go.ChangeAt Go.RowKit Go.Deep
set_option maxRecDepth 100000
set_option linter.unusedVariables false

section
variable {H : Type} {enc : TypeId × Value → H} {P : Program}
theorem post_of_below {f:Func}{s:ChangeSpec}{apart fresh handsOn again:Bool}{W W':World}{args:Array Value}{v:Value}{ds gs:List (DataW H)} {before pa pv:List MemPlace}
  (hW:DataW.Whole enc P f.params.toList s.vars apart W args.toList ds gs before)
  (hres:∀ (b:Nat) (sp:Nat→Bool) (hd:Bool),DataW.TrodAll enc P W' b sp hd f.resultTypes.toList (v.resultList f.resultTypes.size) (s.fn H (ds ++ gs)).results [])
  (hargs:∀ sp:Nat→Bool,(∀ p ∈ before,sp p.block=true)→DataW.TrodAll enc P W' 0 sp true f.params.toList args.toList (s.fn H (ds ++ gs)).args pa)
  (hvars:∀ sp:Nat→Bool,(∀ p ∈ before,sp p.block=true)→DataW.TrodVars enc P W' sp s.vars (s.fn H (ds ++ gs)).vars pv)
  (hps:before=pa ++ pv) (hb:Below W.heap.size W W')
  (hok:∀ (j:Nat) (t:TypeId) (r:Value),f.resultTypes[j]?=some t→(v.resultList f.resultTypes.size)[j]?=some r→Value.okWide P W' .any 0 t r) :
  s.post enc P f apart fresh handsOn again W args v W':=by
 have hlt:∀ p ∈ before,p.block < W.heap.size:=fun p hp=>hW.lt p hp;have hold:∀ p ∈ before,(fun b=>decide (b < W.heap.size)) p.block=true:=fun p hp=>by simpa using hlt p hp
 refine⟨ds,gs,before,[],pa,pv,hW,hres _ _ _,hargs _ hold,hvars _ hold,World.keptBut_mono (fun p hp=>⟨hp,?_⟩) (hb.frame (· ∈ before)),fun _=>?_⟩
 ·rw[hps,List.mem_append] at hp;exact Or.inr hp
 ·obtain⟨_,_,_,_,_,hz,hn⟩:=hW;refine⟨hok,_,_,([] ++ pa) ++ pv,⟨[] ++ pa,pv,trodAll_append (hargs _ (fun _ _=>rfl)) (hres _ _ _),hvars _ (fun _ _=>rfl),rfl,?_,?_⟩,?_⟩
  ·intro b off hp;have hin:MemPlace.cell b off ∈ before:=by rw[hps];simpa using hp
   rw[hb.frozen (hlt _ hin)];exact hz b off hin
  ·intro ha;have:=hn ha;rw[hps] at this;simpa using this
  ·intro p hp _;rw[hps];simpa using hp
end
theorem star56 : "*" ++ "errors.errorString" = "*errors.errorString" := by decide
theorem tp_of (u : TypeId) (h : Tryz.prog.typeName? 3 u = some "*errors.errorString") : u = 225 :=
 typeName_ptr_named (nm := "errors.errorString") (by rw [star56]; kernel_rfl) (by kernel_rfl) (by decide) u (by rw [star56]; exact h)
theorem u8_of {m:Int}(hm:(Lit.int .u8 m).wf=true):0≤m∧m≤255:=by
 have e1:IntKind.u8.min=0:=rfl;have e2:IntKind.u8.max=255:=rfl;simp[Lit.wf,e1,e2] at hm;exact hm
theorem errv_of {w:World}(hL:laidMetH Tryz.prog Rows.syntaxParsesRow.laid w):ErrV w:=by
 rw[MakeChecks.laidMetH_plain _ _ _ (by kernel_rfl)] at hL;obtain⟨a,t,h1,-⟩:=laid_sentinel (g:=5) (ti:=99) (tp:=225) (te:=227) (ts:=9) hL.tail.tail.tail.tail (by kernel_rfl) (by kernel_rfl) Tryz.underlying99 tp_of Tryz.underlying225 Tryz.underlying227 rfl rfl Tryz.underlying9 (by kernel_rfl) (by kernel_rfl);refine⟨.iface 225 (.pointer (some a)),?_,.inr ⟨225,.pointer (some a),rfl⟩⟩;have h:=World.var?_cell (g:=5) (by kernel_rfl) h1 0;rw[h];rfl
theorem env_of {w:World}(h:w.ShapedOpen Tryz.prog)(hL:laidMetH Tryz.prog Rows.syntaxParsesRow.laid w):Env56 w:=by
 refine⟨⟨?_,?_⟩,errv_of hL⟩
 ·exact cell_of_shapedOpen_int (t:=3) (zero:=#[.int .i64 0]) h (of_decide_eq_true (by kernel_rfl)) (by kernel_rfl) rfl (by kernel_rfl) (by kernel_rfl) Tryz.underlying3
 ·rw [MakeChecks.laidMetH_plain _ _ _ (by kernel_rfl)] at hL; have h3 : laidMet Tryz.prog (("internal/strconv.uint64pow10", Rows.laid_internal_strconv_uint64pow10) :: _) w := hL.tail.tail; exact Lib.tabIs_of_head (g := 3) (t := 207) (e := 163) (by kernel_rfl) (by kernel_rfl) Tryz.underlying207 Tryz.underlying163 (by kernel_rfl) (by kernel_rfl) h3
end Go.Proofs.YtcfelnhmifkelaaGreatDoor
