/-
  texts BldrR: parts of the proof; conditions stand with each theorem.
-/
import Derived.Test.YtlegfdllipkggaaGreatDoorWBldrT
import Derived.Test.YtlegfdllipkggaaGreatDoorWG7
import Derived.Test.YtlegfdllipkggaaGreatDoorWG2
import Derived.Lib.QuietBelow
namespace Go.Proofs.YtlegfdllipkggaaGreatDoor
open Lib(hid)
open Go.RowKit Go.Maps Go.Sort
set_option maxRecDepth 100000
set_option linter.unusedVariables false
set_option linter.unusedSimpArgs false

structure Bd11RJ (V:World)(pp:Value)(p4:Value)(iv:Value)(m:Nat)(gg:Nat)(ic:Nat)(pn:Nat)(b0 b1 b2 b3 b4 b5 b6 b7 b8 b9 b10 b11 b12 b13 b14:Bool)(v57 v58 v59 v60 v61 v62 v63 v64 v65 v66 v67 v68 v69 v70:Value)(w:World):Prop where
 h0:b0=true→v57=pp
 h1:b1=true→v58=pp
 h2:b2=true→v59=pp
 h3:b3=true→v60=p4
 h4:b4=true→v61=iv
 h5:b5=true→v62=pp
 h6:b6=true→v63=pp
 h7:b7=true→v64=p4
 h8:b8=true→v65=iv
 h9:b9=true→v66=.int .i64 ((m:Int)+1)
 h10:b10=true→v67=.int .i64 (m:Int)
 h11:b11=true→v68=.slice (some ⟨gg,0,none⟩) m ic
 h12:b12=true→v69=pp
 h13:b13=true→v70=p4
 below:b14=false→Below V.heap.size V w
 wd:b14=true→∃ W9:World,Below V.heap.size V W9∧w=W9.setCell ⟨pn,4,none⟩ (.slice (some ⟨gg,0,none⟩) m ic)
 o2:b2=true→b1=true
 o3:b3=true→b2=true
 o4:b4=true→b3=true
 o6:b6=true→b5=true
 o7:b7=true→b6=true
 o8:b8=true→b7=true
 o9:b9=true→b8=true
 o10:b10=true→b9=true
 o11:b11=true→b4=true∧b10=true
 o12:b12=true→b0=true
 o13:b13=true→b12=true
 o14:b14=true→b13=true∧b11=true
structure Bd19RJ (V:World)(bs:Nat)(acc:List Hd)(xv:Value)(lv:Int)(zA:Option Addr)(zc:Nat)(zs:List Int)(p:Nat)(post:World→Prop)(b0 b1 b2 b3 b4 b5 b6 b7 b8 b9 b10 b11 b12:Bool)(v108 v109 v110 v111 v112 v113 v114 v115 v116 v117 v118 v119:Value)(w:World):Prop where
 h0:b0=true→v108=.pointer (some ⟨p,0,none⟩)
 h1:b1=true→v109=.pointer (some ⟨p,0,none⟩)
 h2:b2=true→v110=.pointer (some ⟨p,0,none⟩)
 h3:b3=true→v111=.pointer (some ⟨p,0,none⟩)
 h4:b4=true→v112=.pointer (some ⟨p,2,none⟩)
 h5:b5=true→v113=xv
 h6:b6=true→v114=.agg #[.int .i64 lv,.slice zA zs.length zc]
 h9:b9=true→v117=.pointer (some ⟨p,0,none⟩)
 h10:b10=true→v118=.pointer (some ⟨p,0,none⟩)
 h11:b11=true→v119=.pointer (some ⟨p,2,none⟩)
 hk:b8=false→∀ p:Addr,p.block < V.heap.size→w.cell? p=V.cell? p
 wa:b7=false→w=V.drew
 wb:b7=true→b8=false→v115=.slice (some ⟨V.heap.size,0,none⟩) 1 1∧w=V.drew.alloc (.cells #[.int .i64 lv,.slice zA zs.length zc] 58)
 wc:b8=true→b12=false→∃ X c,v116=.slice X (acc.length+1) c∧OwnNA w bs (.slice X (acc.length+1) c) (acc ++ [⟨lv,zA,zc,zs⟩])∧Kept (fun g=>xv.ownBlock=some g) V w∧((Value.slice X (acc.length+1) c).ownBlock=xv.ownBlock∨∃ g,(Value.slice X (acc.length+1) c).ownBlock=some g∧V.heap.size≤g)
 wd:b12=true→post w
 ord2:b12=true→b8=true∧b11=true
 o2:b2=true→b1=true
 o3:b3=true→b2=true
 o4:b4=true→b3=true
 o5:b5=true→b4=true
 o7:b7=true→b6=true
 o8:b8=true→b5=true∧b7=true
 o9:b9=true→b0=true
 o10:b10=true→b9=true
 o11:b11=true→b10=true
set_option maxHeartbeats 64000000 in
theorem buildR_any (B p M:Nat)(hA:Option Addr)(hc q N:Nat)(gt:Nat)(gr:Nat)(f:List Nat→Int)(WB:World)(hWB:WB.heap.size=B)(hq1:1≤q)(hq8:q≤8)(hN:N≤25)(hT:TabB B WB)(hF:∀ l:List Nat,l.length=N→(∀ t ∈ l,t < q)→0≤f l∧f l < (q:Int))
  (hval:∀ (l:List Nat) (A:Option Addr) (c:Nat) (W:World),l.length=N→(∀ t ∈ l,t < q)→Ints W A (intsN l)→Below B WB W→Calls Tryz.prog 29 #[.slice A N c,.pointer (some ⟨gt,0,none⟩),.pointer (some ⟨gr,0,none⟩)] W fun e w'=>e=.returned (.int .i64 (f l))∧Below W.heap.size W w') :
  ∀ (n:Nat) (insN:List Nat) (ov iv:Value) (os:List Hd) (D:DataW Unit) (w:World),insN.length+n=N→(∀ t ∈ insN,t < q)→NV q (os.map Hd.nd)→TbM B p M (q:Int) hA N hc (.func (.func 29) #[] #[.pointer (some ⟨gt,0,none⟩),.pointer (some ⟨gr,0,none⟩)]) ov os D iv (intsN insN) w→Below B WB w→os.length+cap q n≤1000000→
  Calls Tryz.prog 49 #[.pointer (some ⟨p,0,none⟩)] w (TbPost B p M (q:Int) hA N hc (.func (.func 29) #[] #[.pointer (some ⟨gt,0,none⟩),.pointer (some ⟨gr,0,none⟩)]) (intsN insN) (growP q f n insN (os.map Hd.nd)) ov iv os w):=by
 have HQ:=hid (And.intro hq1 (And.intro hq8 hN));have HWB:=hid hWB;have HTAB:=hid hT;have HF:=hid hF;have HVAL:=hid hval;have hN9:N≤9223372036854775807:=by omega
 clear hq1 hq8 hN hWB hT hF hval;intro n;induction n with
 | zero=>
  intro insN ov iv os D w hl hq hnv hT hb hsz;obtain⟨iA,ic,ei,hii,-⟩:=hT.ir.ints;rw[intsN_len] at ei;subst ei;have hil9:insN.length≤9223372036854775807:=by omega
  have HT:=hid hT;have HII:=hid hii;have x1:=hT.blk.cell_ 1 (.slice hA N hc) rfl;have x4:=hT.blk.cell_ 4 (.slice iA insN.length ic) rfl;have hwl:wrap64 ((N:Int) - (insN.length:Int))=0:=by unfold wrap64;omega
  have hln:insN.length=N:=by omega
  have HLN:=hid (And.intro hln hq);have HBB:=hid hb;have hlI:((N:Int) - (insN.length:Int))=0:=by omega
  clear hl hq hnv hT hb hsz hii hln;go_enter Tryz.func49,Tryz.ntmps49;go_upto_region 1 with fail
  go_quiet (fail)
  obtain⟨w1,hw1⟩:∃ W,W=w.drewN nq:=⟨_,rfl⟩
  rw[← hw1];have hb1:Below w.heap.size w w1:=by rw[hw1];exact below_drewN (Below.refl _ w) nq
  have HT1:=hid (HT.out.ext hb1);have HB1:=hid hb1;have hBw:B≤w.heap.size:=Nat.le_trans HT.out.lo.1 (Nat.le_of_lt HT.out.blk.lt);have HCV:Hid (∀ d os,Calls Tryz.prog 29 #[.slice iA insN.length ic,.pointer (some ⟨gt,0,none⟩),.pointer (some ⟨gr,0,none⟩)] (grow (redrawn w1 d) os) fun e w''=>e=.returned (.int .i64 (f insN))∧∃ p:Regrown,w''=grow (redrawn w1 p.d) p.os):=hid (fun d os=>Calls.regrown_of (by
   have:=HVAL.out insN iA ic (grow (redrawn w1 d) os) HLN.out.1 HLN.out.2 ((HII.out.ext hb1).ext (below_regrown w1 d os)) ((HBB.out.trans (hb1.mono hBw)).trans ((below_regrown w1 d os).mono (Nat.le_trans hBw hb1.size)));rw[HLN.out.1];exact this))
  have j4:=cell_regrown (HT1.out.blk.cell_ 4 (.slice iA insN.length ic) rfl);have j5:=cell_regrown (HT1.out.blk.cell_ 5 ((.func (.func 29) #[] #[.pointer (some ⟨gt,0,none⟩),.pointer (some ⟨gr,0,none⟩)])) rfl);clear hw1 hb1 hBw x1 x4;go_upto_region 3 with fail
  refine wp_region_quiet_below (by kernel_rfl) (by kernel_rfl) ?_;repeat (go_big_quiet_step (first | with_reducible exact HCV.out _ _))
  refine wpQuiet_nil ?_;intro _ hw';obtain⟨⟨dq,osq⟩,hw''⟩:=hw';subst hw'';go_wp2;go_ret;exact⟨ov,os,D,_,rfl,rfl,HT1.out.ext (below_regrown w1 dq osq),TbV.of_new (HB1.out.trans ((below_regrown w1 dq osq).mono HB1.out.size))⟩
 | succ n ih=>
  intro insN ov iv os D w hl hq hnv hT hb hsz;obtain⟨iA,ic,ei,hii,-⟩:=hT.ir.ints;rw[intsN_len] at ei;subst ei;have hil9:insN.length≤9223372036854775807:=by omega
  obtain⟨lv,hlv⟩:∃ lv:Int,lv=((n+1:Nat):Int):=⟨_,rfl⟩
  have hwl:wrap64 ((N:Int) - (insN.length:Int))=lv:=by rw[hlv];have:=HQ.out;unfold wrap64;omega
  have hlI:((N:Int) - (insN.length:Int))=lv:=by omega
  have hne0:(lv == 0)=false:=beq_false_of_ne (by omega);have HT:=hid hT;have HNV:=hid hnv;have HLN:=hid (And.intro hl hq);have HLV:Hid (lv=((n+1:Nat):Int)∧1≤lv∧lv≤25):=hid ⟨hlv,by have:=HQ.out;omega,by have:=HQ.out;omega⟩;have HBB:=hid hb;have HSZ:=hid hsz;have HIH:=hid ih;have hBw:B≤w.heap.size:=Nat.le_trans hT.lo.1 (Nat.le_of_lt hT.blk.lt);have HBW:=hid hBw;have x1:=hT.blk.cell_ 1 (.slice hA N hc) rfl;have x4:=hT.blk.cell_ 4 (.slice iA insN.length ic) rfl;obtain⟨gk,hgk⟩:∃ gk:Nat→List Int × List Nd,gk=fun j=>growK (growP q f n) insN j (os.map Hd.nd):=⟨_,rfl⟩
  have hko:=growK_ok HF.out hl hq hnv;have HKO:Hid (∀ j,j≤q→GKOk q f n insN j (os.map Hd.nd) (gk j)):=hid (by rw[hgk];exact hko);have HG0:Hid (gk 0=([],os.map Hd.nd)):=hid (by rw[hgk];rfl);have HGS:Hid (∀ j,gk (j+1)=((gk j).1 ++ [(growP q f n (insN ++ [j]) (gk j).2).1],(growP q f n (insN ++ [j]) (gk j).2).2)):=hid (fun j=>by rw[hgk];rfl);obtain⟨rg,hrg⟩:∃ r,r=growP q f (n+1) insN (os.map Hd.nd):=⟨_,rfl⟩
  have HRG:Hid (rg=(((addN (gk q).2 (lv,(gk q).1)).1:Int),(addN (gk q).2 (lv,(gk q).1)).2)):=hid (by rw[hrg,hgk,hlv];rfl);rw[← hrg];clear hl hq hnv hT hb hsz hii ih hlv hko hgk hrg;go_enter Tryz.func49,Tryz.ntmps49;go_upto_region 1 with fail
  go_quiet (fail)
  obtain⟨w1,hw1⟩:∃ W,W=w.drewN nq:=⟨_,rfl⟩
  rw[← hw1];have hb1:Below w.heap.size w w1:=by rw[hw1];exact below_drewN (Below.refl _ w) nq
  have HB1:=hid hb1;clear hw1 hb1 x1 x4 hBw;go_upto_region 5 with fail
  obtain⟨w2,hw2⟩:∃ W,W=w1.alloc (.cells #[.int .i64 lv,.slice none 0 0] 58):=⟨_,rfl⟩
  have hb2:Below w1.heap.size w1 w2:=by rw[hw2];exact below_new _ _
  obtain⟨gX,hgX⟩:∃ g,g=w1.heap.size:=⟨_,rfl⟩
  rw[← hw2,← hgX];have HG2:Hid (Blk w2 gX 58 #[.int .i64 lv,.slice none 0 0]):=hid (by rw[hgX,hw2];exact Blk.new _ _ _);have HB2:=hid (HB1.out.trans (hb2.mono HB1.out.size));have HX:Hid (w.heap.size≤gX):=hid (by rw[hgX];exact HB1.out.size);have HK0:=hid (appIntK w.heap.size [] lv (.slice none 0 0) w2 (OwnB.nil _ _) HB2.out.size (by simp) (by have:=HLV.out;omega) (by have:=HLV.out;omega) ((HTAB.out.on (HBB.out.trans (HB2.out.mono HBW.out))).up HBW.out));clear hw2 hb2 hgX;go_wp2_with (go_at_call 68;refine HK0.out.mono ?_;rintro e w3 ⟨v3,rfl,ho3,hk3,hb3⟩;refine Hid.out ?_);refine hid ?_;have HL3:Hid (TbL B p M (q:Int) hA N hc (.func (.func 29) #[] #[.pointer (some ⟨gt,0,none⟩),.pointer (some ⟨gr,0,none⟩)]) w ov (.slice iA insN.length ic) os gX lv [] (keyB (lv,[])) ov os D (.slice iA insN.length ic) (intsN insN) (.slice none 0 0) v3 w3):=hid (TbL.start HT.out (HB2.out.trans hb3) (hk3.blk HG2.out (u8_blk HG2.out (by decide))) (by rw[show keyB (lv,[])=[] ++ Lib.itoa lv by simp[keyB,tailB]];exact ho3) HX.out);have x0:=HL3.out.tb.blk.cell_ 0 (.int .i64 (q:Int)) rfl;clear ho3 hk3 hb3 HK0;go_wp2;clear x0;go_loopw [5,42] (fun kv sv wr=>∃ (j:Nat) (ov1:Value) (os1:List Hd) (D1:DataW Unit) (iA1:Option Addr) (ic1:Nat) (xA:Option Addr) (xc:Nat),j≤q∧sv=.int .i64 j∧Hid (TbL B p M (q:Int) hA N hc (.func (.func 29) #[] #[.pointer (some ⟨gt,0,none⟩),.pointer (some ⟨gr,0,none⟩)]) w ov (.slice iA insN.length ic) os gX lv (gk j).1 (keyB (lv,(gk j).1)) ov1 os1 D1 (.slice iA1 insN.length ic1) (intsN insN) (.slice xA j xc) kv wr)∧Hid (os1.map Hd.nd=(gk j).2)) (fun _ sv _=>q - (intOf sv).toNat)
  case atStart=>exact⟨0,ov,os,D,iA,ic,none,0,Nat.zero_le _,rfl,hid (by rw[HG0.out];exact HL3.out),hid (by rw[HG0.out])⟩
  case round=>
   clear HL3 HG0;obtain⟨j,ov1,os1,D1,iA1,ic1,xA,xc,hj,rfl,HLo,HOS⟩:=hrel;by_cases hjq:j < q
   ·have hkoj:=HKO.out j hj;have hal9:=hkoj.len;have HJ:=hid hjq;have hwj:wrap64 ((j:Int)+1)=(j:Int)+1:=by have:=HQ.out;unfold wrap64;omega
    have HWJ:=hid hwj;have hsz1:os1.length+cap q n≤1000000:=by
     have h1:=hkoj.sz;rw[← HOS.out,List.length_map,List.length_map] at h1;have h2:=HSZ.out;have h3:(j+1)*cap q n≤q*cap q n:=Nat.mul_le_mul_right _ hjq;rw[Nat.succ_mul] at h3;rw[show cap q (n+1)=q*cap q n+1 from rfl] at h2;omega
    have HSZ1:=hid hsz1;obtain⟨acc,hacc⟩:∃ acc,acc=(gk j).1:=⟨_,rfl⟩
    obtain⟨rr,hrr⟩:∃ r,r=growP q f n (insN ++ [j]) (os1.map Hd.nd):=⟨_,rfl⟩
    have hgs:=HGS.out j;rw[← HOS.out,← hrr,← hacc] at hgs;have harng:∀ z ∈ acc,0≤z∧z≤(1000000:Int):=by
     rw[hacc];refine growK_rng HNV.out hkoj (by have:=HQ.out;omega) (N:=1000000) ?_ (by decide);rw[← HOS.out,List.length_map];omega
    have hgo:=grow_ok HF.out n (insN ++ [j]) (os1.map Hd.nd) (by rw[List.length_append,List.length_singleton];have:=HLN.out.1;omega) (fun t ht=>by
     rcases List.mem_append.1 ht with ht | ht
     ·exact HLN.out.2 t ht
     ·rw[List.mem_singleton.1 ht];exact hjq) (by rw[HOS.out];exact hkoj.nv)
    rw[← hrr] at hgo;have hkr:0≤rr.1∧rr.1≤1000000:=by
     have h1:=vis_ok n _ _ _ (by rw[HOS.out];exact hkoj.nv) hgo.vis;have h2:=hgo.sz;rw[List.length_map] at h2;by_cases hn1:1≤n
     ·obtain⟨a1,a2,a3⟩:=h1.nd hn1;omega
     ·obtain⟨a1,a2,a3⟩:=h1.low (by omega);have:=HQ.out;omega
    rw[← hacc] at HLo;have hal:acc.length=j:=by rw[hacc];exact hal9
    have HACC:=hid (And.intro hal (And.intro harng hkr));have HGSJ:=hid hgs;have HRR:=hid hrr;have HNVJ:Hid (NV q (os1.map Hd.nd)):=hid (by rw[HOS.out];exact hkoj.nv);have x4:=HLo.out.tb.blk.cell_ 4 (.slice iA1 insN.length ic1) rfl;have hown:=HLo.out.tb.ir;have hln:(intsN insN).length < 1000000000000:=by rw[intsN_len];have:=HLN.out;have:=HQ.out;omega
    have hbs:B≤wr.heap.size:=Nat.le_trans HLo.out.tb.lo.1 (Nat.le_of_lt HLo.out.tb.blk.lt);clear hkoj hal9 hj hwj hsz1 hacc hgs harng hgo hkr hal hrr;go_wp2_with (at_builtin;refine wpList_pushIk rfl _ _ _ rfl B 3 Tryz.underlying38 Tryz.infoInt _ _ rfl hown _ rfl hln hbs ?_);intro v6 w6 ho6 hk6 hm6;obtain⟨iA6,ic6,e6,-,-⟩:=ho6.ints;rw[List.length_append,intsN_len,List.length_singleton] at e6;subst e6;obtain⟨ht6,hv6,b6⟩:=HLo.out.tb.pushI ho6 hk6 hm6;have c6:=b6.cell_ 4 (.slice iA1 insN.length ic1) rfl;have f6:=b6.frozen 4;have HL7:=hid (HLo.out.turn ht6 hv6);clear ho6 hk6 hm6 ht6 hv6 b6 hown hln hbs x4;go_upto_region 10 with fail
    obtain⟨w7,hw7⟩:∃ W,W=w6.setCell ⟨p,4,none⟩ (.slice iA6 (insN.length+1) ic6):=⟨_,rfl⟩
    rw[← hw7] at HL7 ⊢;have hcall:=HIH.out (insN ++ [j]) ov1 (.slice iA6 (insN.length+1) ic6) os1 D1 w7 (by rw[List.length_append,List.length_singleton];have:=HLN.out.1;omega) (fun t ht=>by
     rcases List.mem_append.1 ht with ht | ht
     ·exact HLN.out.2 t ht
     ·rw[List.mem_singleton.1 ht];exact HJ.out) HNVJ.out (by rw[intsN_snoc];exact HL7.out.tb) (HBB.out.trans (HT.out.below HL7.out.mv)) HSZ1.out
    rw[← HRR.out,intsN_snoc] at hcall;obtain⟨rk,hrk⟩:∃ k,k=rr.1:=⟨_,rfl⟩
    have HCALL:=hid hcall;have HRK:Hid (rk=rr.1):=hid hrk;clear hcall hw7 c6 f6 hrk;go_wp2_with (go_at_call 49;refine HCALL.out.mono ?_;rintro e w8 ⟨ov2,os2,D2,iv2,rfl,heq,ht8,hv8⟩;refine Hid.out ?_);refine hid ?_;rw[← HRK.out];obtain⟨g8,ic8,e8,hcap8⟩:=own_capI ht8.ir (by rw[List.length_append,List.length_singleton];omega);rw[List.length_append,intsN_len,List.length_singleton] at e8 hcap8;subst e8;have HL8:=hid (HL7.out.turn ht8 hv8);have HEQ:=hid heq;clear heq ht8 hv8 HCALL HL7;go_upto_region 11 with fail
    have HM9:Hid ((((insN.length+1:Nat):Int))=(insN.length:Int)+1):=hid (by omega);have HM8:Hid (wrap64 ((insN.length:Int)+1 - 1)=(insN.length:Int)):=hid (by unfold wrap64;omega);have HCP8:Hid (insN.length≤ic8):=hid (by omega);have hm9:=HM9.out;have hm8:=HM8.out;have hil1:insN.length+1≤9223372036854775807:=by have:=HLN.out.1;have:=HQ.out;omega
    clear hcap8;refine wp_region_J (by kernel_rfl) (fun listed act w'=>∃ b0 b1 b2 b3 b4 b5 b6 b7 b8 b9 b10 b11 b12 b13 b14 v57 v58 v59 v60 v61 v62 v63 v64 v65 v66 v67 v68 v69 v70,listed=#[b0,b1,b2,b3,b4,b5,b6,b7,b8,b9,b10,b11,b12,b13,b14]∧act=Act.mk #[.pointer (some ⟨p,0,none⟩),undef,.int .i64 0,.int .i64 lv,.pointer (some ⟨gX,0,none⟩),u5,.int .i64 ↑j,.int .i64 rk,undef,undef,.pointer (some ⟨p,0,none⟩),.pointer (some ⟨p,0,none⟩),.pointer (some ⟨p,0,none⟩),.pointer (some ⟨p,1,none⟩),.slice hA N hc,.int .i64 ↑N,.pointer (some ⟨p,0,none⟩),.pointer (some ⟨p,0,none⟩),.pointer (some ⟨p,4,none⟩),.slice iA insN.length ic,.int .i64 ↑insN.length,.int .i64 lv,.int .i64 lv,.bool false,undef,undef,undef,undef,undef,undef,undef,undef,undef,.int .i64 lv,.agg #[.int .i64 lv,.slice none 0 0],.int .i64 lv,v3,.pointer (some ⟨p,0,none⟩),.pointer (some ⟨p,0,none⟩),.pointer (some ⟨p,0,none⟩),.pointer (some ⟨p,0,none⟩),.int .i64 ↑q,.int .i64 ↑j,.bool true,.int .i64 ↑j,.pointer (some ⟨p,0,none⟩),.pointer (some ⟨p,0,none⟩),.pointer (some ⟨p,0,none⟩),.pointer (some ⟨p,4,none⟩),.slice iA1 insN.length ic1,.int .i64 ↑j,.slice (some ⟨wr.heap.size,0,none⟩) 1 1,.slice iA6 (insN.length+1) ic6,.pointer (some ⟨p,0,none⟩),.pointer (some ⟨p,4,none⟩),.pointer (some ⟨p,0,none⟩),.int .i64 rk,v57,v58,v59,v60,v61,v62,v63,v64,v65,v66,v67,v68,v69,v70,u71,u72,u73,u74,u75,u76,u77,u78,u79,u80,u81,u82,undef,undef,undef,undef,undef,undef,undef,undef,undef,undef,undef,undef,undef,undef,undef,undef,undef,undef,undef,undef,undef,undef,undef,undef,undef,undef,undef,undef,undef,undef,undef,undef,undef,undef,undef,undef,undef,undef] []∧Bd11RJ w8 (.pointer (some ⟨p,0,none⟩)) (.pointer (some ⟨p,4,none⟩)) (.slice (some ⟨g8,0,none⟩) (insN.length+1) ic8) (insN.length) (g8) (ic8) (p) b0 b1 b2 b3 b4 b5 b6 b7 b8 b9 b10 b11 b12 b13 b14 v57 v58 v59 v60 v61 v62 v63 v64 v65 v66 v67 v68 v69 v70 w') ?_ ?_ ?_
    ·exact (e_8 (e_8 (e_8 (e_4 (e_1 ⟨rfl,rfl,(by constructor;(case below=>exact (fun _=>(Below.refl _ w8).drew));all_goals simp)⟩)))))
    ·rintro i listed act w' hi ⟨b0,b1,b2,b3,b4,b5,b6,b7,b8,b9,b10,b11,b12,b13,b14,v57,v58,v59,v60,v61,v62,v63,v64,v65,v66,v67,v68,v69,v70,rfl,rfl,H⟩;have hi16:i < 15:=by
      obtain⟨-,o,ho,-⟩:=mem_ready.1 hi;exact (Array.getElem?_eq_some_iff.1 ho).1
     obtain rfl | rfl | rfl | rfl | rfl | rfl | rfl | rfl | rfl | rfl | rfl | rfl | rfl | rfl | rfl:i=0∨i=1∨i=2∨i=3∨i=4∨i=5∨i=6∨i=7∨i=8∨i=9∨i=10∨i=11∨i=12∨i=13∨i=14:=by omega
     all_goals simp[mem_ready,Region.binds] at hi
     ·refine wpOp_hidden rfl fun K hK=>?_;go_wp2;refine OnlyN.mk (hK.out _ _ (e_8 (e_8 (e_8 (e_4 (e_1 ⟨rfl,rfl,{ H with h0:=fun _=>rfl,o12:=fun h=>rfl }⟩))))))
     ·refine wpOp_hidden rfl fun K hK=>?_;go_wp2;refine OnlyN.mk (hK.out _ _ (e_8 (e_8 (e_8 (e_4 (e_1 ⟨rfl,rfl,{ H with h1:=fun _=>rfl,o2:=fun h=>rfl }⟩))))))
     ·obtain rfl:=H.h1 (by simp[hi]);refine wpOp_hidden rfl fun K hK=>?_;go_wp2;refine OnlyN.mk (hK.out _ _ (e_8 (e_8 (e_8 (e_4 (e_1 ⟨rfl,rfl,{ H with h2:=fun _=>rfl,o2:=fun _=>(by simp[hi]),o3:=fun h=>rfl }⟩))))))
     ·obtain rfl:=H.h2 (by simp[hi]);refine wpOp_hidden rfl fun K hK=>?_;go_wp2;refine OnlyN.mk (hK.out _ _ (e_8 (e_8 (e_8 (e_4 (e_1 ⟨rfl,rfl,{ H with h3:=fun _=>rfl,o3:=fun _=>(by simp[hi]),o4:=fun h=>rfl }⟩))))))
     ·obtain rfl:=H.h3 (by simp[hi]);have bff:b14=false:=by
       cases hb:b14 with
       | false=>rfl
       | true=>exact absurd (H.o11 (H.o14 hb).2).1 (by simp[hi])
      have hB:=H.below bff;have BFF:=hid bff;clear bff;have cc:=(HL8.out.ext hB).tb.blk.cell_ 4 (.slice (some ⟨g8,0,none⟩) (insN.length+1) ic8) rfl;clear hB;refine wpOp_hidden rfl fun K hK=>?_;go_wp2;refine OnlyN.mk (hK.out _ _ (e_8 (e_8 (e_8 (e_4 (e_1 ⟨rfl,rfl,{ H with h4:=fun _=>rfl,o4:=fun _=>(by simp[hi]),o11:=fun h=>⟨rfl,(H.o11 h).2⟩ }⟩))))))
     ·refine wpOp_hidden rfl fun K hK=>?_;go_wp2;refine OnlyN.mk (hK.out _ _ (e_8 (e_8 (e_8 (e_4 (e_1 ⟨rfl,rfl,{ H with h5:=fun _=>rfl,o6:=fun h=>rfl }⟩))))))
     ·obtain rfl:=H.h5 (by simp[hi]);refine wpOp_hidden rfl fun K hK=>?_;go_wp2;refine OnlyN.mk (hK.out _ _ (e_8 (e_8 (e_8 (e_4 (e_1 ⟨rfl,rfl,{ H with h6:=fun _=>rfl,o6:=fun _=>(by simp[hi]),o7:=fun h=>rfl }⟩))))))
     ·obtain rfl:=H.h6 (by simp[hi]);refine wpOp_hidden rfl fun K hK=>?_;go_wp2;refine OnlyN.mk (hK.out _ _ (e_8 (e_8 (e_8 (e_4 (e_1 ⟨rfl,rfl,{ H with h7:=fun _=>rfl,o7:=fun _=>(by simp[hi]),o8:=fun h=>rfl }⟩))))))
     ·obtain rfl:=H.h7 (by simp[hi]);have bff:b14=false:=by
       cases hb:b14 with
       | false=>rfl
       | true=>exact absurd (H.o9 (H.o10 (H.o11 (H.o14 hb).2).2)) (by simp[hi])
      have hB:=H.below bff;have BFF:=hid bff;clear bff;have cc:=(HL8.out.ext hB).tb.blk.cell_ 4 (.slice (some ⟨g8,0,none⟩) (insN.length+1) ic8) rfl;clear hB;refine wpOp_hidden rfl fun K hK=>?_;go_wp2;refine OnlyN.mk (hK.out _ _ (e_8 (e_8 (e_8 (e_4 (e_1 ⟨rfl,rfl,{ H with h8:=fun _=>rfl,o8:=fun _=>(by simp[hi]),o9:=fun h=>rfl }⟩))))))
     ·obtain rfl:=H.h8 (by simp[hi]);have hm9:=HM9.out;refine wpOp_hidden rfl fun K hK=>?_;go_wp2;refine OnlyN.mk (hK.out _ _ (e_8 (e_8 (e_8 (e_4 (e_1 ⟨rfl,rfl,{ H with h9:=fun _=>rfl,o9:=fun _=>(by simp[hi]),o10:=fun h=>rfl }⟩))))))
     ·obtain rfl:=H.h9 (by simp[hi]);have hm8:=HM8.out;refine wpOp_hidden rfl fun K hK=>?_;go_wp2;refine OnlyN.mk (hK.out _ _ (e_8 (e_8 (e_8 (e_4 (e_1 ⟨rfl,rfl,{ H with h10:=fun _=>rfl,o10:=fun _=>(by simp[hi]),o11:=fun h=>⟨(H.o11 h).1,rfl⟩ }⟩))))))
     ·obtain rfl:=H.h4 (by simp[hi]);obtain rfl:=H.h10 (by simp[hi]);have hcp:=HCP8.out;have hm9:=HM9.out;refine wpOp_hidden rfl fun K hK=>?_;go_wp2;refine OnlyN.mk (hK.out _ _ (e_8 (e_8 (e_8 (e_4 (e_1 ⟨rfl,rfl,{ H with h11:=fun _=>rfl,o11:=fun _=>(by simp[hi]),o14:=fun h=>⟨(H.o14 h).1,rfl⟩ }⟩))))))
     ·obtain rfl:=H.h0 (by simp[hi]);refine wpOp_hidden rfl fun K hK=>?_;go_wp2;refine OnlyN.mk (hK.out _ _ (e_8 (e_8 (e_8 (e_4 (e_1 ⟨rfl,rfl,{ H with h12:=fun _=>rfl,o12:=fun _=>(by simp[hi]),o13:=fun h=>rfl }⟩))))))
     ·obtain rfl:=H.h12 (by simp[hi]);refine wpOp_hidden rfl fun K hK=>?_;go_wp2;refine OnlyN.mk (hK.out _ _ (e_8 (e_8 (e_8 (e_4 (e_1 ⟨rfl,rfl,{ H with h13:=fun _=>rfl,o13:=fun _=>(by simp[hi]),o14:=fun h=>⟨rfl,(H.o14 h).2⟩ }⟩))))))
     ·obtain rfl:=H.h13 (by simp[hi]);obtain rfl:=H.h11 (by simp[hi]);have hB:=H.below (by simp[hi]);have HBW:=hid hB;clear hB;have cr:=(HL8.out.ext HBW.out).tb.blk.cell_ 4 (.slice (some ⟨g8,0,none⟩) (insN.length+1) ic8) rfl;have fr:=(HL8.out.ext HBW.out).tb.blk.frozen 4;refine wpOp_hidden rfl fun K hK=>?_;go_wp2;refine OnlyN.mk (hK.out _ _ (e_8 (e_8 (e_8 (e_4 (e_1 ⟨rfl,rfl,{ H with below:=fun h=>(by cases h),wd:=fun _=>⟨w',HBW.out,rfl⟩,o14:=fun _=>(by simp[hi]) }⟩))))))
    ·rintro listed act w' hr ⟨b0,b1,b2,b3,b4,b5,b6,b7,b8,b9,b10,b11,b12,b13,b14,v57,v58,v59,v60,v61,v62,v63,v64,v65,v66,v67,v68,v69,v70,rfl,rfl,H⟩;have hn:=List.eq_nil_iff_forall_not_mem.1 hr;have r0:=hn 0;simp[mem_ready,Region.binds] at r0;subst r0;have r1:=hn 1;simp[mem_ready,Region.binds] at r1;subst r1;have r2:=hn 2;simp[mem_ready,Region.binds] at r2;subst r2;have r3:=hn 3;simp[mem_ready,Region.binds] at r3;subst r3;have r4:=hn 4;simp[mem_ready,Region.binds] at r4;subst r4;have r5:=hn 5;simp[mem_ready,Region.binds] at r5;subst r5;have r6:=hn 6;simp[mem_ready,Region.binds] at r6;subst r6;have r7:=hn 7;simp[mem_ready,Region.binds] at r7;subst r7;have r8:=hn 8;simp[mem_ready,Region.binds] at r8;subst r8;have r9:=hn 9;simp[mem_ready,Region.binds] at r9;subst r9;have r10:=hn 10;simp[mem_ready,Region.binds] at r10;subst r10;have r11:=hn 11;simp[mem_ready,Region.binds] at r11;subst r11;have r12:=hn 12;simp[mem_ready,Region.binds] at r12;subst r12;have r13:=hn 13;simp[mem_ready,Region.binds] at r13;subst r13;have r14:=hn 14;simp[mem_ready,Region.binds] at r14;subst r14;try dsimp only
     obtain⟨W9,hb9,rfl⟩:=H.wd rfl;have hL8:=HL8.out.ext hb9;obtain⟨ht9,hv9⟩:=hL8.tb.cutI (m:=insN.length) (by rw[List.length_append,intsN_len,List.length_singleton]) (Nat.le_succ _);rw[show (intsN insN ++ [(j:Int)]).take insN.length=intsN insN from List.take_left' (intsN_len insN)] at ht9;have HL9:=hid (hL8.turn ht9 hv9);obtain⟨w10,hw10⟩:∃ W,W=W9.setCell ⟨p,4,none⟩ (.slice (some ⟨g8,0,none⟩) insN.length ic8):=⟨_,rfl⟩
     rw[← hw10] at HL9 ⊢;have x1:=HL9.out.G.cell_ 1 (.slice xA j xc) rfl;have hown:=HL9.out.R;have hln:acc.length < 1000000000000:=by have:=HACC.out.1;have:=HJ.out;have:=HQ.out;omega
     have hbs:w.heap.size≤w10.heap.size:=HL9.out.mv.kp.below.size;clear H hr hn hb9 hL8 ht9 hv9 hw10 HL8 hm9 hm8;go_wp2_with (at_builtin;refine wpList_pushIk rfl _ _ _ rfl w.heap.size 3 Tryz.underlying38 Tryz.infoInt _ _ rfl hown _ rfl hln hbs ?_);intro v12 w12 ho12 hk12 hm12;obtain⟨xA2,xc2,e12,-,-⟩:=ho12.ints;rw[List.length_append,List.length_singleton,HACC.out.1] at e12;subst e12;obtain⟨hL12,g12⟩:=HL9.out.push ho12 hk12 hm12;have c12:=g12.cell_ 1 (.slice xA j xc) rfl;have f12:=g12.frozen 1;have HL12:=hid hL12;clear hL12 g12 ho12 hk12 hm12 hown hln hbs x1;go_upto_region 13 with fail
     obtain⟨w13,hw13⟩:∃ W,W=w12.setCell ⟨gX,1,none⟩ (.slice xA2 (j+1) xc2):=⟨_,rfl⟩
     rw[← hw13] at HL12 ⊢;have hzb:∀ z ∈ acc ++ [rk],-9223372036854775808≤z∧z≤9223372036854775807:=fun z hz=>by
      rcases List.mem_append.1 hz with hz | hz
      ·have:=HACC.out.2.1 z hz;omega
      ·rw[List.mem_singleton.1 hz];have:=HACC.out.2.2;have:=HRK.out;omega
     have hkl:(keyB (lv,acc ++ [rk])).length≤100000:=by
      have h1:=key_len (x:=(lv,acc ++ [rk])) (by dsimp only;have:=HLV.out;omega) hzb;dsimp only at h1;rw[List.length_append,List.length_singleton,HACC.out.1] at h1;have:=HJ.out;have:=HQ.out;omega
     have hks:=keyB_snoc lv acc rk;have hkl2:(keyB (lv,acc)).length+1≤100000:=by rw[hks,List.length_append,List.length_append,List.length_singleton] at hkl;omega
     have hown:=HL12.out.K;have hln:(keyB (lv,acc)).length < 1000000000000:=by omega
     have hbs:w.heap.size≤w13.heap.size:=HL12.out.mv.kp.below.size;have HKL:=hid (And.intro hkl2 hks);have HZR:Hid (-9223372036854775808≤rk∧rk≤9223372036854775807):=hid (hzb rk (by simp));clear hw13 c12 f12 hzb hkl hkl2 hks;go_wp2_with (at_builtin;refine wpList_pushBk rfl _ _ rfl w.heap.size _ _ rfl hown 32 _ rfl rfl hln hbs ?_);intro v14 w14 ho14 hk14 hb14;have HL14:=hid (HL12.out.key ho14 hk14 hb14);have HA14:=hid (appIntK w.heap.size (keyB (lv,acc) ++ [32]) rk v14 w14 ho14 HL14.out.mv.kp.below.size (by rw[List.length_append,List.length_singleton];have:=HKL.out.1;omega) HZR.out.1 HZR.out.2 ((HTAB.out.on (HBB.out.trans (HT.out.below HL14.out.mv))).up HBW.out));clear ho14 hk14 hb14 hown hln hbs;go_wp2_with (go_at_call 68;refine HA14.out.mono ?_;rintro e w15 ⟨v15,rfl,ho15,hk15,hb15⟩;refine Hid.out ?_);refine hid ?_;rw[← HKL.out.2] at ho15;have HL15:Hid (TbL B p M (q:Int) hA N hc (.func (.func 29) #[] #[.pointer (some ⟨gt,0,none⟩),.pointer (some ⟨gr,0,none⟩)]) w ov (.slice iA insN.length ic) os gX lv (gk (j+1)).1 (keyB (lv,(gk (j+1)).1)) ov2 os2 D2 (.slice (some ⟨g8,0,none⟩) insN.length ic8) (intsN insN) (.slice xA2 (j+1) xc2) v15 w15):=hid (by
      rw[HGSJ.out];dsimp only;rw[← HRK.out];exact HL14.out.key ho15 hk15 hb15)
     have HOS2:Hid (os2.map Hd.nd=(gk (j+1)).2):=hid (by rw[HGSJ.out];exact HEQ.out);clear ho15 hk15 hb15 HA14 HL14 HL12 HL9;go_wp2;go_roundw
     case rel=>exact⟨j+1,ov2,os2,D2,some ⟨g8,0,none⟩,ic8,xA2,xc2,HJ.out,(by first | rfl | (rw[HWJ.out];rfl)),HL15,HOS2⟩
     case measure=>(try rw[HWJ.out]);exact meas_step HJ.out
   ·obtain rfl:q=j:=Nat.le_antisymm (Nat.le_of_not_lt hjq) hj;have hkoj:=HKO.out q hj;have hal9:=hkoj.len;have hsz1:os1.length≤1000000:=by
     have h1:=hkoj.sz;rw[← HOS.out,List.length_map,List.length_map] at h1;have h2:=HSZ.out;rw[show cap q (n+1)=q*cap q n+1 from rfl] at h2;omega
    obtain⟨acc,hacc⟩:∃ acc,acc=(gk q).1:=⟨_,rfl⟩
    have harng:∀ z ∈ acc,0≤z∧z≤(1000000:Int):=by
     rw[hacc];refine growK_rng HNV.out hkoj (by have:=HQ.out;omega) (N:=1000000) ?_ (by decide);rw[← HOS.out,List.length_map];omega
    have hrg2:=HRG.out;rw[← hacc,← HOS.out] at hrg2;rw[← hacc] at HLo hal9;have HALN:=hid hal9;have HSZ1:=hid hsz1;have HRG2:=hid hrg2;have hkl:(keyB (lv,acc)).length≤100000:=by
     have h1:=key_len (x:=(lv,acc)) (by dsimp only;have:=HLV.out;omega) (fun z hz=>by have:=harng z hz;omega);dsimp only at h1;rw[hal9] at h1;have:=HQ.out;omega
    obtain⟨A7,c7,hv7⟩:=HLo.out.K.form;subst hv7;have HCV:∀ n,(convert 95 9 (.slice A7 (keyB (lv,acc)).length c7)).run Tryz.prog (wr.drewN n)=.ok (.string ⟨(keyB (lv,acc)).toArray⟩) (wr.drewN n):=fun n=>back_any (w:=wr.drewN n) (HLo.out.K.ext (below_drewN (Below.refl _ _) n));have hksl:(keyB (lv,acc)).length≤maxLen:=by unfold maxLen;omega
    have HKY:keyOf Tryz.prog 9 (.string ⟨(keyB (lv,acc)).toArray⟩)=some (.string (keyB (lv,acc))):=WideMaps.keyOf_string_mk Tryz.underlying9 hksl;have HLK:∀ n,∃ v:Int,(Instr.lookup 76 (.map (some M)) (.string ⟨(keyB (lv,acc)).toArray⟩) true).run Tryz.prog (wr.drewN n)=.ok (.tuple #[.int .i64 v,.bool (Maps.has D1 (.string (keyB (lv,acc))))]) (wr.drewN n)∧D1.atKey (.string (keyB (lv,acc))) (.lit (.int .i64 0))=.lit (.int .i64 v):=by
     intro n;have hm:MapA (wr.drewN n) M os1.length D1:=HLo.out.tb.mp;obtain⟨v,ps,hrun,hat⟩:=hm.look_ok Tryz.law Tryz.underlying76 (Tryz.zeroInt _) (plainElem_int Tryz.underlying3 (by decide)) HKY;obtain⟨x,rfl,hx,-⟩:=plainElem_int_inv Tryz.underlying3 hat;exact⟨x,hrun,congrArg Prod.fst hx⟩
    have hkn:=HLo.out.tb.kn.2 (lv,acc);have x3:=HLo.out.tb.blk.cell_ 3 (.map (some M)) rfl;obtain⟨KS,hKS⟩:∃ KS:ByteArray,KS=⟨(keyB (lv,acc)).toArray⟩:=⟨_,rfl⟩
    obtain⟨KL,hKL⟩:∃ KL,KL=(keyB (lv,acc)).length:=⟨_,rfl⟩
    rw[← hKS] at HCV HLK HKY;rw[← hKL] at HCV ⊢;have HKLe:=hid hKL;have HKSe:=hid hKS;have HKY2:=hid HKY;clear hkoj hal9 hsz1 hacc harng hrg2 hkl hksl hKS hKL HKY hj hjq;cases hpo:posOf (os1.map Hd.nd) (lv,acc) with
    | some i=>
     have HH:Maps.has D1 (.string (keyB (lv,acc)))=true:=by have:=hkn.1;rw[hpo] at this;exact this
     have HV:=hkn.2 i hpo;rw[HH] at HLK;have hlk:∀ n,(Instr.lookup 76 (.map (some M)) (.string KS) true).run Tryz.prog (wr.drewN n)=.ok (.tuple #[.int .i64 i,.bool true]) (wr.drewN n):=by
      intro n;obtain⟨v,h1,h2⟩:=HLK n;rw[HV] at h2;injection h2 with h2
      injection h2 with _ h2
      rw[h1,h2]
     have HE:Hid (rg=((i:Int),os1.map Hd.nd)):=hid (by rw[HRG2.out];unfold addN;rw[hpo]);clear HLK HV HH hpo hkn;go_wp2;go_quiet (fail)
     obtain⟨wq,hwq⟩:∃ W,W=wr.drewN nq:=⟨_,rfl⟩
     rw[← hwq];have hbq:Below wr.heap.size wr wq:=by rw[hwq];exact below_drewN (Below.refl _ wr) nq
     have HLq:=hid (HLo.out.ext hbq);clear hwq hbq;go_wp2;go_ret;exact⟨ov1,os1,D1,_,(by first | (rw[HE.out];done) | (rw[HE.out];rfl)),by rw[HE.out],HLq.out.tb,HLq.out.mv⟩
    | none=>
     have HH:Maps.has D1 (.string (keyB (lv,acc)))=false:=by have:=hkn.1;rw[hpo] at this;exact this
     rw[HH] at HLK;obtain⟨v0,-,hv0⟩:=HLK 0;have hlk:∀ n,(Instr.lookup 76 (.map (some M)) (.string KS) true).run Tryz.prog (wr.drewN n)=.ok (.tuple #[.int .i64 v0,.bool false]) (wr.drewN n):=by
      intro n;obtain⟨v,h1,h2⟩:=HLK n;rw[hv0] at h2;injection h2 with h2
      injection h2 with _ h2
      rw[h1,h2]
     have HE:Hid (rg=((os1.length:Int),os1.map Hd.nd ++ [(lv,acc)])):=hid (by rw[HRG2.out];unfold addN;rw[hpo];simp);have HPO:=hid hpo;clear HLK hv0 HH hpo hkn;go_wp2;go_quiet (fail)
     obtain⟨wq,hwq⟩:∃ W,W=wr.drewN nq:=⟨_,rfl⟩
     rw[← hwq];have hbq:Below wr.heap.size wr wq:=by rw[hwq];exact below_drewN (Below.refl _ wr) nq
     have HLq:=hid (HLo.out.ext hbq);clear hwq hbq hlk HCV x3 HLo;obtain⟨oA,oc,eov,-,-⟩:=HLq.out.tb.out.nds;subst eov;have x2:=HLq.out.tb.blk.cell_ 2 (.slice oA os1.length oc) rfl;have x3:=HLq.out.tb.blk.cell_ 3 (.map (some M)) rfl;have ho9:os1.length≤9223372036854775807:=by have:=HSZ1.out;omega
     have HLd:=hid (HLq.out.ext (Below.refl _ wq).drew);obtain⟨w11,hrun,hM11,hg11⟩:=World.ownsMap.update (w:=wq.drew) HLd.out.tb.mp Tryz.law Tryz.underlying76 (by have:=HSZ1.out;unfold maxLen;omega) HKY2.out (plainElem_int (q:=.i64) (a:=(os1.length:Int)) Tryz.underlying3 (WalkArith.wf_i64 (by have:=HSZ1.out;omega)));change (Instr.mapUpdate 76 (.map (some M)) (.string KS) (.int .i64 (os1.length:Int))).run Tryz.prog wq.drew=.ok () w11 at hrun;have hcv1:(convert 95 9 (.slice A7 KL c7)).run Tryz.prog wq.drew=.ok (.string KS) wq.drew:=by
      have:=back_any (w:=wq.drew) (base:=w.heap.size) (A:=A7) (c:=c7) (l:=keyB (lv,acc)) (by have:=HLd.out.K;rw[← HKLe.out] at this ⊢;exact this);rw[← HKLe.out,← HKSe.out] at this;exact this
     have hmp:=HLd.out.tb.mapped hg11;have HKN:Hid (Known (D1.put (.string (keyB (lv,acc))) (.lit (.int .i64 os1.length))) (os1.map Hd.nd ++ [(lv,acc)])):=hid (by
      have:=HLd.out.tb.kn.push HPO.out;rw[List.length_map] at this;exact this)
     have HMP:=hid hmp;have HG11:=hid (And.intro hg11 hM11);clear hmp hg11 hM11;go_upto_region 18 with fail
     go_region
     go_upto_region 19 with fail
     clear hrun hcv1 x2 x3;have hX11:Blk w11 gX 58 #[.int .i64 lv,.slice xA q xc]:=HMP.out.1.blk HLd.out.G (fun e=>HLd.out.far.2.2 (.inr (.inl e)));have hR11:OwnIA w11 w.heap.size (.slice xA acc.length xc) acc:=by rw[HALN.out];exact HMP.out.1.own HLd.out.R (fun g e1 e2=>HLd.out.far.1 g e1 (.inr (.inl e2)))
     have HI6:Hid (OwnIA w11 B (.slice xA acc.length xc) acc):=hid (own_down hR11 HBW.out);have HOWN:=hid HMP.out.2.2.1;have HAL:Hid (os1.length < 1000000000000):=hid (by have:=HSZ1.out;omega);have HBS:Hid (B≤w11.heap.size):=hid (Nat.le_trans HLd.out.tb.lo.1 (Nat.le_of_lt HMP.out.2.1.lt));have HLX:Hid ((gX < w11.heap.size∧w11.cell? ⟨gX,0,none⟩=some (.int .i64 lv)∧w11.cell? ⟨gX,1,none⟩=some (.slice xA acc.length xc))∧p < w11.heap.size∧w11.cell? ⟨p,2,none⟩=some (.slice oA os1.length oc)):=hid ⟨⟨hX11.lt,hX11.cell_ 0 _ rfl,by rw[HALN.out];exact hX11.cell_ 1 _ rfl⟩,HMP.out.2.1.lt,HMP.out.2.1.cell_ 2 _ rfl⟩;have HXN:Hid (∀ g,(⟨lv,xA,xc,acc⟩:Hd).val.ownBlock=some g→w.heap.size≤g∧(Value.slice iA1 insN.length ic1).ownBlock≠some g):=hid (fun g e=>by
      have e':(Value.slice xA q xc).ownBlock=some g:=by rw[← HALN.out];exact e
      exact⟨(own_lt' HLd.out.R e').2,fun e2=>HLd.out.ni g e2 e'⟩)
     clear hX11 hR11;refine wp_region_J (by kernel_rfl) (fun listed act w'=>∃ b0 b1 b2 b3 b4 b5 b6 b7 b8 b9 b10 b11 b12 v108 v109 v110 v111 v112 v113 v114 v115 v116 v117 v118 v119,listed=#[b0,b1,b2,b3,b4,b5,b6,b7,b8,b9,b10,b11,b12]∧act=Act.mk #[.pointer (some ⟨p,0,none⟩),undef,.int .i64 0,.int .i64 lv,.pointer (some ⟨gX,0,none⟩),.slice A7 KL c7,u6,u7,.int .i64 ↑os1.length,.bool false,.pointer (some ⟨p,0,none⟩),.pointer (some ⟨p,0,none⟩),.pointer (some ⟨p,0,none⟩),.pointer (some ⟨p,1,none⟩),.slice hA N hc,.int .i64 ↑N,.pointer (some ⟨p,0,none⟩),.pointer (some ⟨p,0,none⟩),.pointer (some ⟨p,4,none⟩),.slice iA insN.length ic,.int .i64 ↑insN.length,.int .i64 lv,.int .i64 lv,.bool false,undef,undef,undef,undef,undef,undef,undef,undef,undef,.int .i64 lv,.agg #[.int .i64 lv,.slice none 0 0],.int .i64 lv,v3,.pointer (some ⟨p,0,none⟩),.pointer (some ⟨p,0,none⟩),.pointer (some ⟨p,0,none⟩),.pointer (some ⟨p,0,none⟩),.int .i64 ↑q,.int .i64 ↑q,.bool false,u44,u45,u46,u47,u48,u49,u50,u51,u52,u53,u54,u55,u56,u57,u58,u59,u60,u61,u62,u63,u64,u65,u66,u67,u68,u69,u70,u71,u72,u73,u74,u75,u76,u77,u78,u79,u80,u81,u82,Value.tuple #[.int .i64 v0,.bool false],.pointer (some ⟨p,0,none⟩),.pointer (some ⟨p,0,none⟩),.pointer (some ⟨p,3,none⟩),Value.map (some M),.slice A7 KL c7,Value.string KS,Value.tuple #[.int .i64 v0,.bool false],.int .i64 v0,.bool false,.bool false,.bool true,.pointer (some ⟨p,0,none⟩),.pointer (some ⟨p,0,none⟩),.pointer (some ⟨p,0,none⟩),.pointer (some ⟨p,2,none⟩),.slice oA os1.length oc,.int .i64 ↑os1.length,.pointer (some ⟨p,0,none⟩),.pointer (some ⟨p,0,none⟩),.pointer (some ⟨p,3,none⟩),Value.map (some M),.slice A7 KL c7,Value.string KS,.int .i64 ↑os1.length,v108,v109,v110,v111,v112,v113,v114,v115,v116,v117,v118,v119,undef] []∧Bd19RJ w11 B os1 (.slice oA os1.length oc) lv xA xc acc p (fun w'=>∃ ov9 D9,TbM B p M (q:Int) hA N hc (.func (.func 29) #[] #[.pointer (some ⟨gt,0,none⟩),.pointer (some ⟨gr,0,none⟩)]) ov9 (os1 ++ [⟨lv,xA,xc,acc⟩]) D9 (.slice iA1 insN.length ic1) (intsN insN) w'∧TbV p M ov (.slice iA insN.length ic) os w ov9 (.slice iA1 insN.length ic1) (os1 ++ [⟨lv,xA,xc,acc⟩]) w') b0 b1 b2 b3 b4 b5 b6 b7 b8 b9 b10 b11 b12 v108 v109 v110 v111 v112 v113 v114 v115 v116 v117 v118 v119 w') ?_ ?_ ?_
     ·exact (e_8 (e_8 (e_8 (e_1 ⟨rfl,rfl,(by constructor;(case hk=>exact (fun _ _ _=>rfl));(case wa=>exact (fun _=>rfl));all_goals simp)⟩))))
     ·rintro i listed act w' hi ⟨b0,b1,b2,b3,b4,b5,b6,b7,b8,b9,b10,b11,b12,v108,v109,v110,v111,v112,v113,v114,v115,v116,v117,v118,v119,rfl,rfl,H⟩;have hi16:i < 13:=by
       obtain⟨-,o,ho,-⟩:=mem_ready.1 hi;exact (Array.getElem?_eq_some_iff.1 ho).1
      obtain rfl | rfl | rfl | rfl | rfl | rfl | rfl | rfl | rfl | rfl | rfl | rfl | rfl:i=0∨i=1∨i=2∨i=3∨i=4∨i=5∨i=6∨i=7∨i=8∨i=9∨i=10∨i=11∨i=12:=by omega
      all_goals simp[mem_ready,Region.binds] at hi
      ·refine wpOp_hidden rfl fun K hK=>?_;go_wp2;refine OnlyN.mk (hK.out _ _ (e_8 (e_8 (e_8 (e_1 ⟨rfl,rfl,{ H with h0:=fun _=>rfl,o9:=fun h=>rfl }⟩)))))
      ·refine wpOp_hidden rfl fun K hK=>?_;go_wp2;refine OnlyN.mk (hK.out _ _ (e_8 (e_8 (e_8 (e_1 ⟨rfl,rfl,{ H with h1:=fun _=>rfl,o2:=fun h=>rfl }⟩)))))
      ·obtain rfl:=H.h1 (by simp[hi]);refine wpOp_hidden rfl fun K hK=>?_;go_wp2;refine OnlyN.mk (hK.out _ _ (e_8 (e_8 (e_8 (e_1 ⟨rfl,rfl,{ H with h2:=fun _=>rfl,o2:=fun _=>(by simp[hi]),o3:=fun h=>rfl }⟩)))))
      ·obtain rfl:=H.h2 (by simp[hi]);refine wpOp_hidden rfl fun K hK=>?_;go_wp2;refine OnlyN.mk (hK.out _ _ (e_8 (e_8 (e_8 (e_1 ⟨rfl,rfl,{ H with h3:=fun _=>rfl,o3:=fun _=>(by simp[hi]),o4:=fun h=>rfl }⟩)))))
      ·obtain rfl:=H.h3 (by simp[hi]);refine wpOp_hidden rfl fun K hK=>?_;go_wp2;refine OnlyN.mk (hK.out _ _ (e_8 (e_8 (e_8 (e_1 ⟨rfl,rfl,{ H with h4:=fun _=>rfl,o4:=fun _=>(by simp[hi]),o5:=fun h=>rfl }⟩)))))
      ·have bAf:b8=false:=by
        cases hb:b8 with
        | false=>rfl
        | true=>exact absurd (H.o8 hb).1 (by simp[hi])
       obtain rfl:=H.h4 (by simp[hi]);have cc0:=(H.hk bAf ⟨p,2,none⟩ HLX.out.2.1).trans HLX.out.2.2;clear bAf;refine wpOp_hidden rfl fun K hK=>?_;go_wp2;refine OnlyN.mk (hK.out _ _ (e_8 (e_8 (e_8 (e_1 ⟨rfl,rfl,{ H with h5:=fun _=>rfl,o5:=fun _=>(by simp[hi]),o8:=fun h=>⟨rfl,(H.o8 h).2⟩ }⟩)))))
      ·have bAf:b8=false:=by
        cases hb:b8 with
        | false=>rfl
        | true=>exact absurd (H.o7 (H.o8 hb).2) (by simp[hi])
       have cc0:=(H.hk bAf ⟨gX,0,none⟩ HLX.out.1.1).trans HLX.out.1.2.1;have cc1:=(H.hk bAf ⟨gX,1,none⟩ HLX.out.1.1).trans HLX.out.1.2.2;clear bAf;refine wpOp_hidden rfl fun K hK=>?_;go_wp2;refine OnlyN.mk (hK.out _ _ (e_8 (e_8 (e_8 (e_1 ⟨rfl,rfl,{ H with h6:=fun _=>rfl,o7:=fun h=>rfl }⟩)))))
      ·have bAf:b8=false:=by
        cases hb:b8 with
        | false=>rfl
        | true=>exact absurd (H.o8 hb).2 (by simp[hi])
       obtain rfl:=H.h6 (by simp[hi]);have hw:=H.wa (by simp[hi]);have hA:=bAf;subst hw;clear bAf;refine wpOp_hidden rfl fun K hK=>?_;go_wp2;refine OnlyN.mk (hK.out _ _ (e_8 (e_8 (e_8 (e_1 ⟨rfl,rfl,{ H with hk:=fun _ p hp=>World.cell?_alloc_lt w11 _ p hp,wa:=fun h=>(by cases h),wb:=fun _ _=>⟨rfl,rfl⟩,wc:=fun h=>absurd h (by rw[hA];decide),wd:=fun h=>absurd (H.ord2 h).1 (by rw[hA];decide),o7:=fun _=>(by simp[hi]),o8:=fun h=>⟨(H.o8 h).1,rfl⟩ }⟩)))))
      ·obtain rfl:=H.h5 (by simp[hi]);obtain⟨hv,hw⟩:=H.wb (by simp[hi]) (by simp[hi]);obtain⟨Vd,hVd⟩:∃ Vd,Vd=World.drew w11:=⟨_,rfl⟩
       have hsz:w11.heap.size=Vd.heap.size:=by rw[hVd];rfl
       rw[← hVd] at hw;rw[hsz] at hv;subst hw;subst hv;have hown:OwnNA Vd B (.slice oA os1.length oc) os1:=by rw[hVd];exact HOWN.out
       have hI6:OwnIA Vd B (.slice xA (List.length acc) xc) acc:=by rw[hVd];exact HI6.out
       have hal:=HAL.out;have hws:B≤Vd.heap.size:=by rw[← hsz];exact HBS.out
       have HVD:=hid hVd;have HSZ:=hid hsz;clear hVd hsz;refine wpOp_hidden rfl fun K hK=>?_;refine wpList_pushN rfl _ _ _ rfl B 58 3 (by decide) Tryz.underlying29 Tryz.infoNode _ _ rfl hown _ _ _ _ hI6 rfl hal hws ?_;intro xv' w6 ho6 hk6 hm6;obtain⟨xA',xc',hxv',-,-⟩:=ho6.nds;rw[List.length_append,List.length_singleton] at hxv';subst hxv';have HO6:=hid ho6;have HK6:Hid (Kept (fun g=>Value.ownBlock (.slice oA os1.length oc)=some g) w11 w6):=hid (Kept.trans (by rw[HVD.out];exact (Kept.refl _ w11).drew) hk6);have HM6:Hid ((Value.slice xA' (os1.length+1) xc').ownBlock=Value.ownBlock (.slice oA os1.length oc)∨∃ g,(Value.slice xA' (os1.length+1) xc').ownBlock=some g∧w11.heap.size≤g):=hid (by rw[HSZ.out];exact hm6);clear ho6 hk6 hm6 hown hal hws hI6;go_wp2;refine OnlyN.mk (hK.out _ _ (e_8 (e_8 (e_8 (e_1 ⟨rfl,rfl,{ H with hk:=fun h=>(by cases h),wa:=fun h=>absurd h (by simp[hi]),wb:=fun _ h=>(by cases h),wc:=fun _ _=>⟨_,_,rfl,HO6.out,HK6.out,HM6.out⟩,wd:=fun h=>absurd (H.ord2 h).1 (by simp[hi]),ord2:=fun h=>⟨rfl,(H.ord2 h).2⟩,o8:=fun _=>(by simp[hi]) }⟩)))))
      ·obtain rfl:=H.h0 (by simp[hi]);refine wpOp_hidden rfl fun K hK=>?_;go_wp2;refine OnlyN.mk (hK.out _ _ (e_8 (e_8 (e_8 (e_1 ⟨rfl,rfl,{ H with h9:=fun _=>rfl,o9:=fun _=>(by simp[hi]),o10:=fun h=>rfl }⟩)))))
      ·obtain rfl:=H.h9 (by simp[hi]);refine wpOp_hidden rfl fun K hK=>?_;go_wp2;refine OnlyN.mk (hK.out _ _ (e_8 (e_8 (e_8 (e_1 ⟨rfl,rfl,{ H with h10:=fun _=>rfl,o10:=fun _=>(by simp[hi]),o11:=fun h=>rfl }⟩)))))
      ·obtain rfl:=H.h10 (by simp[hi]);refine wpOp_hidden rfl fun K hK=>?_;go_wp2;refine OnlyN.mk (hK.out _ _ (e_8 (e_8 (e_8 (e_1 ⟨rfl,rfl,{ H with h11:=fun _=>rfl,ord2:=fun h=>⟨(H.ord2 h).1,rfl⟩,o11:=fun _=>(by simp[hi]) }⟩)))))
      ·obtain rfl:=H.h11 (by simp[hi]);obtain⟨xA',xc',hv,ho6,hk6,hm6⟩:=H.wc (by simp[hi]) (by simp[hi]);subst hv;obtain⟨hn1,hn2,hn3⟩:=HLd.out.tb.node (x:=⟨lv,xA,xc,acc⟩) HLd.out.mv HG11.out.1 HG11.out.2 HKN.out ho6 hk6 hm6 HXN.out;have cx9:=hn3.cell_ 2 (.slice oA os1.length oc) rfl;have fx9:=hn3.frozen 2;clear hn3;have HPOST:=hid (And.intro hn1 hn2);clear ho6 hk6 hm6;refine wpOp_hidden rfl fun K hK=>?_;go_wp2;refine OnlyN.mk (hK.out _ _ (e_8 (e_8 (e_8 (e_1 ⟨rfl,rfl,{ H with hk:=fun h=>absurd h (by simp[hi]),wa:=fun h=>absurd h (by simp[hi]),wb:=fun _ h=>absurd h (by simp[hi]),wc:=fun _ h=>(by cases h),wd:=fun _=>⟨_,_,HPOST.out⟩,ord2:=fun _=>(by simp[hi]) }⟩)))))
     ·rintro listed act w' hr ⟨b0,b1,b2,b3,b4,b5,b6,b7,b8,b9,b10,b11,b12,v108,v109,v110,v111,v112,v113,v114,v115,v116,v117,v118,v119,rfl,rfl,H⟩;have hn:=List.eq_nil_iff_forall_not_mem.1 hr;have r0:=hn 0;simp[mem_ready,Region.binds] at r0;subst r0;have r1:=hn 1;simp[mem_ready,Region.binds] at r1;subst r1;have r2:=hn 2;simp[mem_ready,Region.binds] at r2;subst r2;have r3:=hn 3;simp[mem_ready,Region.binds] at r3;subst r3;have r4:=hn 4;simp[mem_ready,Region.binds] at r4;subst r4;have r5:=hn 5;simp[mem_ready,Region.binds] at r5;subst r5;have r6:=hn 6;simp[mem_ready,Region.binds] at r6;subst r6;have r7:=hn 7;simp[mem_ready,Region.binds] at r7;subst r7;have r8:=hn 8;simp[mem_ready,Region.binds] at r8;subst r8;have r9:=hn 9;simp[mem_ready,Region.binds] at r9;subst r9;have r10:=hn 10;simp[mem_ready,Region.binds] at r10;subst r10;have r11:=hn 11;simp[mem_ready,Region.binds] at r11;subst r11;have r12:=hn 12;simp[mem_ready,Region.binds] at r12;subst r12;try dsimp only
      obtain⟨ov9,D9,h1,h2⟩:=H.wd rfl;have H1:=hid h1;have H2:=hid h2;clear H hr hn h1 h2;go_wp2;go_ret;exact⟨ov9,_,D9,_,(by first | (rw[HE.out];done) | (rw[HE.out];rfl)),by rw[HE.out,List.map_append];rfl,H1.out,H2.out⟩
end Go.Proofs.YtlegfdllipkggaaGreatDoor
