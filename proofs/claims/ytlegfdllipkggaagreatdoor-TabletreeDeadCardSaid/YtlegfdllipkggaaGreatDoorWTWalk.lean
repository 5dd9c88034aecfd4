/-
  texts TWalk: parts of the proof; conditions stand with each theorem.
-/
import Derived.Test.YtlegfdllipkggaaGreatDoorWWRow
import Derived.Test.YtlegfdllipkggaaGreatDoorWG6
import Derived.Test.YtlegfdllipkggaaGreatDoorWG3
import Derived.Test.YtlegfdllipkggaaGreatDoorWG4
namespace Go.Proofs.YtlegfdllipkggaaGreatDoor
open Lib(hid)
open Go.RowKit Go.Maps
set_option maxRecDepth 100000
set_option linter.unusedVariables false
set_option linter.unusedSimpArgs false
def NdOk (ns:List Nd)(L:Nat)(k:Int):Prop:=0≤k∧(1≤L→k.toNat < ns.length∧(ndAt ns k.toNat).1=(L:Int))
theorem NdOk.kid {q:Nat}{ns:List Nd}(hV:VNd q ns){L:Nat}{k:Int}(h:NdOk ns (L+1) k){z:Int}(hz:z ∈ (ndAt ns k.toNat).2):NdOk ns L z:=by
 obtain⟨h1,h2⟩:=h.2 (by omega);cases L with
 | zero=>
  obtain⟨p1,p2⟩:=hV.low k.toNat h1 (by rw[h2];rfl) z hz;exact⟨p1,fun h=>absurd h (by omega)⟩
 | succ L=>
  obtain⟨p1,p2,p3⟩:=hV.lev.kids k.toNat h1 (by rw[h2];omega) z hz;exact⟨p1,fun _=>⟨p2,by rw[p3,h2];omega⟩⟩
structure Tw7J (V:World)(post:Ending→World→Prop)(gB:Nat)(gK:Nat)(zb:Nat)(zo:Nat)(ll:Nat)(zc:Nat)(nn:Nat)(z0:Int)(b0 b1 b2 b3 b4 b5 b6 b7:Bool)(v38 v39 v40 v41 v42 v43 v44 v4:Value)(w:World):Prop where
 h0:b0=true→v38=.func (.func 61) #[] #[.pointer (some ⟨gB,0,none⟩),.pointer (some ⟨gK,0,none⟩)]
 h1:b1=true→v39=.int .i64 (nn:Int)
 h2:b2=true→v40=.int .i64 (-1 - (nn:Int))
 h3:b3=true→v41=.slice (some ⟨zb,zo,none⟩) ll zc
 h4:b4=true→v42=.pointer (some ⟨zb,zo,none⟩)
 h5:b5=true→v43=.int .i64 z0
 h7:b7=true→v4=v44
 wa:b6=false→w=V.drew
 wd:b6=true→post (.returned v44) w
 o2:b2=true→b1=true
 o4:b4=true→b3=true
 o5:b5=true→b4=true
 o6:b6=true→b0=true∧b2=true∧b5=true
 o7:b7=true→b6=true
set_option maxHeartbeats 32000000 in
theorem twalk_any (B p n q:Nat)(st:Int)(hA:Option Addr)(hc:Nat)(nA:Option Addr)(nc:Nat)(c:Int)(hs:List Hd)(WB:World)(hWB:WB.heap.size=B)(hN:Nds WB nA hs)(hV:VNd q (hs.map Hd.nd))(hq:0 < q)(hn1:1≤n)(hn:n≤25)(hcn:c < 0∨(0≤c∧c.toNat < n)) :
  ∀ (L:Nat) (ins:List Int) (k:Int) (iv rv:Value) (rs:List Rh) (w:World),WkW B p (.int .i64 st) (.slice hA n hc) (.slice nA hs.length nc) (.int .i64 c) iv ins rv rs w→Below B WB w→ins.length+L=n→rs.length≤400→NdOk (hs.map Hd.nd) L k→
  Calls Tryz.prog 43 #[.pointer (some ⟨p,0,none⟩),.int .i64 k] w (WkPost B p (.int .i64 st) (.slice hA n hc) (.slice nA hs.length nc) (.int .i64 c) ins (rs.map Rh.rw_ ++ rowsT (hs.map Hd.nd) c L ins k) iv rv w):=by
 have HV:=hid (And.intro hV (And.intro hq (And.intro hn1 (And.intro hn hcn))));have HNW:=hid hN;have HWB:=hid hWB;have hn9:n≤9223372036854775807:=by omega
 have hhs:=hN.le;clear hV hq hn1 hn hcn hN hWB;intro L;induction L with
 | zero=>
  intro ins k iv rv rs w hW hb hl hrs hk;have hln:ins.length=n:=by omega
  obtain⟨iA,ic,ei,hii,-⟩:=hW.ir.ints;subst ei;have hil9:ins.length≤9223372036854775807:=hii.le;obtain⟨wa,hwa⟩:∃ W,W=w.alloc (.cells #[.pointer (some ⟨p,0,none⟩)] 68):=⟨_,rfl⟩
  obtain⟨w1,hw1⟩:∃ W,W=wa.alloc (.cells #[.int .i64 (ins.length:Int)] 3):=⟨_,rfl⟩
  obtain⟨gB,hgB⟩:∃ g,g=w.heap.size:=⟨_,rfl⟩
  obtain⟨gK,hgK⟩:∃ g,g=w.heap.size+1:=⟨_,rfl⟩
  have ba:Below w.heap.size w wa:=by rw[hwa];exact below_new _ _
  have za:wa.heap.size=w.heap.size+1:=by rw[hwa];simp
  have b1:Below wa.heap.size wa w1:=by rw[hw1];exact below_new _ _
  have b01:Below w.heap.size w w1:=ba.trans (b1.mono ba.size);have hba:Blk wa gB 68 #[.pointer (some ⟨p,0,none⟩)]:=by rw[hgB,hwa];exact Blk.new _ _ _
  have HGB:Hid (Blk w1 gB 68 #[.pointer (some ⟨p,0,none⟩)]):=hid (hba.below b1 hba.lt);have HGK:Hid (Blk w1 gK 3 #[.int .i64 (ins.length:Int)]):=hid (by rw[hgK,← za,hw1];exact Blk.new _ _ _);have HWK:=hid (hW.ext b01);have HM1:Hid (Mv p (.slice iA ins.length ic) rv w (.slice iA ins.length ic) rv w1):=hid (Mv.of_new b01);have HBB:=hid (hb.trans (b01.mono hW.lt_size));have HLT:Hid (gB≠p∧gK≠p∧(Value.slice iA ins.length ic).ownBlock≠some gK∧gK < w1.heap.size):=hid ⟨fun e=>by have:=hW.blk.lt;omega,fun e=>by have:=hW.blk.lt;omega,fun e=>by have:=(own_lt' hW.ir e).1;omega,(show Blk w1 gK 3 #[.int .i64 (ins.length:Int)] from HGK.out).lt⟩;have HW1:Hid (w1=(w.alloc (.cells #[.pointer (some ⟨p,0,none⟩)] 68)).alloc (.cells #[.int .i64 (ins.length:Int)] 3)∧gB=w.heap.size∧gK=w.heap.size+1):=hid ⟨by rw[hw1,hwa],hgB,hgK⟩;have x4:(w.alloc (.cells #[.pointer (some ⟨p,0,none⟩)] 68)).cell? ⟨p,4,none⟩=some (.slice iA ins.length ic):=by rw[← hwa];exact (hW.ext ba).blk.cell_ 4 _ rfl
  have xb:(w.alloc (.cells #[.pointer (some ⟨p,0,none⟩)] 68)).cell? ⟨w.heap.size,0,none⟩=some (.pointer (some ⟨p,0,none⟩)):=by rw[← hwa,← hgB];exact hba.cell_ 0 _ rfl
  have x1:=HWK.out.blk.cell_ 1 (.slice hA n hc) rfl;have cB:=HGB.out.cell_ 0 (.pointer (some ⟨p,0,none⟩)) rfl;have cK:=HGK.out.cell_ 0 (.int .i64 (ins.length:Int)) rfl;clear hwa hw1 hgB hgK ba za b1 b01 hba hW hb hii;go_enter Tryz.func43,Tryz.ntmps43;have d1:((ins.length:Int) == (n:Int))=true:=beq_iff_eq.2 (by omega);have HRS:=hid hrs;have HLN:=hid hln;clear hk hrs hl hln;go_upto_region 2 with fail
  rw[← HW1.out.1,← HW1.out.2.2,← HW1.out.2.1];go_quiet (fail)
  obtain⟨w2,hw2⟩:∃ W,W=w1.drewN nq:=⟨_,rfl⟩
  rw[← hw2];have hb2:Below w1.heap.size w1 w2:=by rw[hw2];exact below_drewN (Below.refl _ w1) nq
  have HWK2:=hid (HWK.out.ext hb2);have HM2:=hid (HM1.out.trans (Mv.of_new hb2));have cB2:=(HGB.out.below hb2 HGB.out.lt).cell_ 0 (.pointer (some ⟨p,0,none⟩)) rfl;have hcall:=wrow_any B p (.int .i64 st) (.slice hA n hc) (.slice nA hs.length nc) c (.slice iA ins.length ic) ins rv rs k (hs.map Hd.nd) w2 HWK2.out (by rw[HLN.out];exact HV.out.2.2.1) (by rw[HLN.out];exact Nat.le_trans HV.out.2.2.2.1 (by decide)) (by rw[HLN.out];exact HV.out.2.2.2.2) HRS.out;have HCALL:=hid hcall;clear hw2 hb2 hcall d1 cB cK x1 x4;go_upto_region 3 with fail
  go_wp2_with (go_at_call 60;refine HCALL.out.mono ?_;rintro e w3 ⟨b,iv3,rv3,rs3,rfl,hw3,ht3,hf3,hm3⟩;refine Hid.out ?_);refine hid ?_;have HW3:=hid hw3;have HT3:=hid (And.intro ht3 hf3);have HM3:=hid (HM2.out.trans hm3);clear hw3 ht3 hf3 hm3 cB2 HCALL;go_wp2;go_ret;exact⟨b,iv3,rv3,rs3,rfl,HW3.out,HT3.out.1,HT3.out.2,HM3.out⟩
 | succ L ih=>
  intro ins k iv rv rs w hW hb hl hrs hk;have hln:¬ ins.length=n:=by omega
  obtain⟨iA,ic,ei,hii,-⟩:=hW.ir.ints;subst ei;have hil9:ins.length≤9223372036854775807:=hii.le;obtain⟨wa,hwa⟩:∃ W,W=w.alloc (.cells #[.pointer (some ⟨p,0,none⟩)] 68):=⟨_,rfl⟩
  obtain⟨w1,hw1⟩:∃ W,W=wa.alloc (.cells #[.int .i64 (ins.length:Int)] 3):=⟨_,rfl⟩
  obtain⟨gB,hgB⟩:∃ g,g=w.heap.size:=⟨_,rfl⟩
  obtain⟨gK,hgK⟩:∃ g,g=w.heap.size+1:=⟨_,rfl⟩
  have ba:Below w.heap.size w wa:=by rw[hwa];exact below_new _ _
  have za:wa.heap.size=w.heap.size+1:=by rw[hwa];simp
  have b1:Below wa.heap.size wa w1:=by rw[hw1];exact below_new _ _
  have b01:Below w.heap.size w w1:=ba.trans (b1.mono ba.size);have hba:Blk wa gB 68 #[.pointer (some ⟨p,0,none⟩)]:=by rw[hgB,hwa];exact Blk.new _ _ _
  have HGB:Hid (Blk w1 gB 68 #[.pointer (some ⟨p,0,none⟩)]):=hid (hba.below b1 hba.lt);have HGK:Hid (Blk w1 gK 3 #[.int .i64 (ins.length:Int)]):=hid (by rw[hgK,← za,hw1];exact Blk.new _ _ _);have HWK:=hid (hW.ext b01);have HM1:Hid (Mv p (.slice iA ins.length ic) rv w (.slice iA ins.length ic) rv w1):=hid (Mv.of_new b01);have HBB:=hid (hb.trans (b01.mono hW.lt_size));have HLT:Hid (gB≠p∧gK≠p∧(Value.slice iA ins.length ic).ownBlock≠some gK∧gK < w1.heap.size):=hid ⟨fun e=>by have:=hW.blk.lt;omega,fun e=>by have:=hW.blk.lt;omega,fun e=>by have:=(own_lt' hW.ir e).1;omega,(show Blk w1 gK 3 #[.int .i64 (ins.length:Int)] from HGK.out).lt⟩;have HW1:Hid (w1=(w.alloc (.cells #[.pointer (some ⟨p,0,none⟩)] 68)).alloc (.cells #[.int .i64 (ins.length:Int)] 3)∧gB=w.heap.size∧gK=w.heap.size+1):=hid ⟨by rw[hw1,hwa],hgB,hgK⟩;have x4:(w.alloc (.cells #[.pointer (some ⟨p,0,none⟩)] 68)).cell? ⟨p,4,none⟩=some (.slice iA ins.length ic):=by rw[← hwa];exact (hW.ext ba).blk.cell_ 4 _ rfl
  have xb:(w.alloc (.cells #[.pointer (some ⟨p,0,none⟩)] 68)).cell? ⟨w.heap.size,0,none⟩=some (.pointer (some ⟨p,0,none⟩)):=by rw[← hwa,← hgB];exact hba.cell_ 0 _ rfl
  have x1:=HWK.out.blk.cell_ 1 (.slice hA n hc) rfl;have cB:=HGB.out.cell_ 0 (.pointer (some ⟨p,0,none⟩)) rfl;have cK:=HGK.out.cell_ 0 (.int .i64 (ins.length:Int)) rfl;clear hwa hw1 hgB hgK ba za b1 b01 hba hW hb hii;go_enter Tryz.func43,Tryz.ntmps43;have d1:((ins.length:Int) == (n:Int))=false:=beq_false_of_ne (by omega);have HRS:=hid hrs;have HK:=hid hk;have HIH:=hid ih;have HLN:=hid hl;clear hk hrs ih hl hln;go_upto_region 2 with fail
  rw[← HW1.out.1,← HW1.out.2.2,← HW1.out.2.1];go_quiet (fail)
  obtain⟨w2,hw2⟩:∃ W,W=w1.drewN nq:=⟨_,rfl⟩
  rw[← hw2];have hb2:Below w1.heap.size w1 w2:=by rw[hw2];exact below_drewN (Below.refl _ w1) nq
  have HWK2:=hid (HWK.out.ext hb2);have HM2:=hid (HM1.out.trans (Mv.of_new hb2));have HGB2:=hid (HGB.out.below hb2 HGB.out.lt);have HGK2:=hid (HGK.out.below hb2 HGK.out.lt);have HBB2:=hid (HBB.out.trans (hb2.mono HWK.out.lt_size));have HLT2:Hid (gK < w2.heap.size):=hid HGK2.out.lt;have hbb:Below WB.heap.size WB w2:=by rw[HWB.out];exact HBB2.out
  obtain⟨kn,hkn⟩:∃ kn:Nat,k=(kn:Int):=⟨k.toNat,by have:=HK.out.1;omega⟩
  subst hkn;have hk1:kn < hs.length:=by have:=(HK.out.2 (Nat.succ_pos L)).1;rwa [Int.toNat_natCast,List.length_map] at this
  obtain⟨nb,no,en,-,g0,g1,gz⟩:=(HNW.out.ext hbb).at_ hk1;subst en;have hnd:=ndl_at hs hk1;obtain⟨x,hx⟩:∃ x,x=hs[kn]:=⟨_,rfl⟩
  rw[← hx] at g0 g1 gz hnd;have hlq:x.zs.length=q:=by
   have h:=HV.out.1.lev.len kn (by rw[List.length_map];exact hk1);rw[hnd] at h;exact h
  have HZI:Hid (∀ w',Below B WB w'→Ints w' x.A x.zs):=hid (fun w' hb=>by
   obtain⟨_,_,_,-,-,-,gz'⟩:=(HNW.out.ext (by rw[HWB.out];exact hb)).at_ hk1;rw[hx];exact gz')
  obtain⟨l,hl⟩:∃ l,l=x.zs:=⟨_,rfl⟩
  obtain⟨zA,hzA⟩:∃ a,a=x.A:=⟨_,rfl⟩
  obtain⟨zc,hzc⟩:∃ a,a=x.c:=⟨_,rfl⟩
  rw[← hl,← hzA] at gz HZI;rw[← hl,← hzA,← hzc] at g1;rw[← hl] at hlq;have HLS:Hid ((ndAt (hs.map Hd.nd) ((kn:Int)).toNat).2=l):=hid (by rw[Int.toNat_natCast,hnd,hl];rfl);have HLQ:Hid (l.length=q∧0 < l.length):=hid ⟨hlq,by rw[hlq];exact HV.out.2.1⟩;obtain⟨zb,zo,ez,-,-⟩:=gz.at_ HLQ.out.2;subst ez;have HZ:=hid gz;have x2:=HWK2.out.blk.cell_ 2 _ rfl;have cB2:=HGB2.out.cell_ 0 (.pointer (some ⟨p,0,none⟩)) rfl;have hll9:l.length≤9223372036854775807:=gz.le;have hcall:=samei_any (some ⟨zb,zo,none⟩) l zc w2 gz;have hln:ins.length≤100:=by have:=HLN.out;have:=HV.out.2.2.2.1;omega
  have HSTEP:Hid (∀ (iv1 rv1:Value) (rs1:List Rh) (w4:World) (el nx:Int),WkW B p (.int .i64 st) (.slice hA n hc) (.slice (some ⟨nb,no,none⟩) hs.length nc) (.int .i64 c) iv1 ins rv1 rs1 w4→Below B WB w4→Blk w4 gB 68 #[.pointer (some ⟨p,0,none⟩)]→Blk w4 gK 3 #[.int .i64 (ins.length:Int)]→iv1.ownBlock≠some gK→rs1.length≤400→nx ∈ l→
    Calls Tryz.prog 61 #[.int .i64 el,.int .i64 nx,.pointer (some ⟨gB,0,none⟩),.pointer (some ⟨gK,0,none⟩)] w4 (WkPost B p (.int .i64 st) (.slice hA n hc) (.slice (some ⟨nb,no,none⟩) hs.length nc) (.int .i64 c) ins (rs1.map Rh.rw_ ++ rowsT (hs.map Hd.nd) c L (ins ++ [el]) nx) iv1 rv1 w4)):=
   hid (fun iv1 rv1 rs1 w4 el nx h1 h2 h3 h4 h5 h6 h7=>step_any B p gB gK _ _ _ _ iv1 ins rv1 rs1 el nx _ w4 h1 h3 h4 HLT.out.1 HLT.out.2.1 h5 hln (fun iv2 w5 hw5 hm5=>
    HIH.out (ins ++ [el]) nx iv2 rv1 rs1 w5 hw5 (h2.trans (h1.below hm5)) (by rw[List.length_append,List.length_singleton];have:=HLN.out;omega) h6 (HK.out.kid HV.out.1 (by rw[HLS.out];exact h7))))
  clear HIH HK hln;clear hw2 hb2 hbb hnd hx hlq hl hzA hzc d1 cB cK x1 x4 xb gz HGB HGK HWK HM1 HBB;cases hsm:sameL l with
  | true=>
   rw[hsm] at hcall;have HCALL:=hid hcall;have HSM:=hid hsm;clear hcall hsm;go_upto_region 6 with fail
   go_wp2_with (go_at_call 62;refine HCALL.out.mono ?_;rintro e w3 ⟨rfl,rfl⟩;refine Hid.out ?_);refine hid ?_;clear x2 cB2 g0 g1 HCALL;go_upto_region 7 with fail
   obtain⟨z0,hz0⟩:∃ z,z=l.headD 0:=⟨_,rfl⟩
   have hdr:Below w3.heap.size w3 (World.drew w3):=(Below.refl _ w3).drew;have H0:Hid (w3.cell? ⟨zb,zo,none⟩=some (.int .i64 z0)):=hid (by
    rw[hz0];obtain⟨b,o,e,-,hc⟩:=HZ.out.at_ HLQ.out.2;injection e with e;injection e with e1 e2
    subst e1;subst e2;rw[Nat.add_zero] at hc;rw[hc];have hq:=HLQ.out.2;cases l with
    | nil=>exact absurd hq (by simp)
    | cons x r=>rfl)
   have hcall:=HSTEP.out (.slice iA ins.length ic) rv rs (World.drew w3) (-1 - (ins.length:Int)) z0 (HWK2.out.ext hdr) (HBB2.out.trans (hdr.mono HWK2.out.lt_size)) (HGB2.out.below hdr HGB2.out.lt) (HGK2.out.below hdr HGK2.out.lt) HLT.out.2.2.1 HRS.out (by
    rw[hz0];have hq:=HLQ.out.2;cases l with
    | nil=>exact absurd hq (by simp)
    | cons x r=>simp)
   have HCALL:=hid hcall;have HZ0:=hid hz0;clear hdr hcall hz0;refine wp_region_J (by kernel_rfl) (fun listed act w'=>∃ b0 b1 b2 b3 b4 b5 b6 b7 v38 v39 v40 v41 v42 v43 v44 v4,listed=#[b0,b1,b2,b3,b4,b5,b6,b7]∧act=Act.mk #[.pointer (some ⟨p,0,none⟩),.int .i64 ↑kn,.pointer (some ⟨gB,0,none⟩),undef,v4,.pointer (some ⟨gK,0,none⟩),Value.func (Fn.func 61) #[] #[.pointer (some ⟨gB,0,none⟩),.pointer (some ⟨gK,0,none⟩)],.slice (some ⟨zb,zo,none⟩) l.length zc,undef,undef,.pointer (some ⟨p,0,none⟩),.pointer (some ⟨p,0,none⟩),.pointer (some ⟨p,4,none⟩),.slice iA ins.length ic,.int .i64 ↑ins.length,.int .i64 ↑ins.length,.pointer (some ⟨p,0,none⟩),.pointer (some ⟨p,0,none⟩),.pointer (some ⟨p,0,none⟩),.pointer (some ⟨p,1,none⟩),.slice hA n hc,.int .i64 ↑n,.bool false,undef,undef,undef,Value.func (Fn.func 61) #[] #[.pointer (some ⟨gB,0,none⟩),.pointer (some ⟨gK,0,none⟩)],.pointer (some ⟨p,0,none⟩),.pointer (some ⟨p,0,none⟩),.pointer (some ⟨p,0,none⟩),.pointer (some ⟨p,2,none⟩),.slice (some ⟨nb,no,none⟩) hs.length nc,.int .i64 ↑kn,.pointer (some ⟨nb,no+kn*2,none⟩),.pointer (some ⟨nb,no+kn*2+1,none⟩),.slice (some ⟨zb,zo,none⟩) l.length zc,.slice (some ⟨zb,zo,none⟩) l.length zc,.bool true,v38,v39,v40,v41,v42,v43,v44,undef,undef,undef,undef,undef,undef,undef,undef,undef,undef,undef,undef,undef] []∧Tw7J w3 (WkPost B p (.int .i64 st) (.slice hA n hc) (.slice (some ⟨nb,no,none⟩) hs.length nc) (.int .i64 c) ins (rs.map Rh.rw_ ++ rowsT (hs.map Hd.nd) c L (ins ++ [-1 - (ins.length:Int)]) z0) (.slice iA ins.length ic) rv (World.drew w3)) gB gK zb zo l.length zc ins.length z0 b0 b1 b2 b3 b4 b5 b6 b7 v38 v39 v40 v41 v42 v43 v44 v4 w') ?_ ?_ ?_
   ·exact (e_8 (e_8 ⟨rfl,rfl,(by constructor;(case wa=>exact (fun _=>rfl));all_goals simp)⟩))
   ·rintro i listed act w' hi ⟨b0,b1,b2,b3,b4,b5,b6,b7,v38,v39,v40,v41,v42,v43,v44,v4,rfl,rfl,H⟩;have hi16:i < 8:=by
     obtain⟨-,o,ho,-⟩:=mem_ready.1 hi;exact (Array.getElem?_eq_some_iff.1 ho).1
    obtain rfl | rfl | rfl | rfl | rfl | rfl | rfl | rfl:i=0∨i=1∨i=2∨i=3∨i=4∨i=5∨i=6∨i=7:=by omega
    all_goals simp[mem_ready,Region.binds] at hi
    ·have b6f:b6=false:=by
      cases hb:b6 with
      | false=>rfl
      | true=>exact absurd (H.o6 hb).1 (by simp[hi])
     obtain rfl:=H.wa b6f;have b6f:=hid b6f;refine wpOp_hidden rfl fun K hK=>?_;go_wp2;refine OnlyN.mk (hK.out _ _ (e_8 (e_8 ⟨rfl,rfl,{ H with h0:=fun _=>rfl,o6:=fun h=>⟨rfl,(H.o6 h).2.1,(H.o6 h).2.2⟩ }⟩)))
    ·have b6f:b6=false:=by
      cases hb:b6 with
      | false=>rfl
      | true=>exact absurd (H.o2 (H.o6 hb).2.1) (by simp[hi])
     obtain rfl:=H.wa b6f;have b6f:=hid b6f;have cc:(World.drew w3).cell? ⟨gK,0,none⟩=some (.int .i64 (ins.length:Int)):=HGK2.out.cell_ 0 _ rfl;refine wpOp_hidden rfl fun K hK=>?_;go_wp2;refine OnlyN.mk (hK.out _ _ (e_8 (e_8 ⟨rfl,rfl,{ H with h1:=fun _=>rfl,o2:=fun _=>rfl }⟩)))
    ·have b6f:b6=false:=by
      cases hb:b6 with
      | false=>rfl
      | true=>exact absurd (H.o6 hb).2.1 (by simp[hi])
     obtain rfl:=H.wa b6f;have b6f:=hid b6f;obtain rfl:=H.h1 (by simp[hi]);have hq9:wrap64 (-1 - (ins.length:Int)) = -1 - (ins.length:Int):=by have:=HLN.out;have:=HV.out.2.2.2.1;unfold wrap64;omega
     refine wpOp_hidden rfl fun K hK=>?_;go_wp2;refine OnlyN.mk (hK.out _ _ (e_8 (e_8 ⟨rfl,rfl,{ H with h2:=fun _=>rfl,o2:=fun _=>(by simp[hi]),o6:=fun h=>⟨(H.o6 h).1,rfl,(H.o6 h).2.2⟩ }⟩)))
    ·have b6f:b6=false:=by
      cases hb:b6 with
      | false=>rfl
      | true=>exact absurd (H.o4 (H.o5 (H.o6 hb).2.2)) (by simp[hi])
     obtain rfl:=H.wa b6f;have b6f:=hid b6f;refine wpOp_hidden rfl fun K hK=>?_;go_wp2;refine OnlyN.mk (hK.out _ _ (e_8 (e_8 ⟨rfl,rfl,{ H with h3:=fun _=>rfl,o4:=fun _=>rfl }⟩)))
    ·have b6f:b6=false:=by
      cases hb:b6 with
      | false=>rfl
      | true=>exact absurd (H.o5 (H.o6 hb).2.2) (by simp[hi])
     obtain rfl:=H.wa b6f;have b6f:=hid b6f;obtain rfl:=H.h3 (by simp[hi]);have h09:=HLQ.out.2;refine wpOp_hidden rfl fun K hK=>?_;go_wp2;refine OnlyN.mk (hK.out _ _ (e_8 (e_8 ⟨rfl,rfl,{ H with h4:=fun _=>rfl,o4:=fun _=>(by simp[hi]),o5:=fun _=>rfl }⟩)))
    ·have b6f:b6=false:=by
      cases hb:b6 with
      | false=>rfl
      | true=>exact absurd (H.o6 hb).2.2 (by simp[hi])
     obtain rfl:=H.wa b6f;have b6f:=hid b6f;obtain rfl:=H.h4 (by simp[hi]);have cc:(World.drew w3).cell? ⟨zb,zo,none⟩=some (.int .i64 z0):=H0.out;refine wpOp_hidden rfl fun K hK=>?_;go_wp2;refine OnlyN.mk (hK.out _ _ (e_8 (e_8 ⟨rfl,rfl,{ H with h5:=fun _=>rfl,o5:=fun _=>(by simp[hi]),o6:=fun h=>⟨(H.o6 h).1,(H.o6 h).2.1,rfl⟩ }⟩)))
    ·obtain rfl:=H.h0 (by simp[hi]);obtain rfl:=H.h2 (by simp[hi]);obtain rfl:=H.h5 (by simp[hi]);obtain rfl:=H.wa (by simp[hi]);refine wpOp_hidden rfl fun K hK=>?_;go_wp2_with (go_at_call 61;refine HCALL.out.mono ?_;rintro e w4 ⟨b,iv4,rv4,rs4,rfl,hp4⟩;refine Hid.out ?_);refine hid ?_;have HP4:=hid hp4;clear hp4;go_wp2;refine OnlyN.mk (hK.out _ _ (e_8 (e_8 ⟨rfl,rfl,{ H with h7:=fun h=>absurd (H.o7 h) (by simp[hi]),wa:=fun h=>(by cases h),wd:=fun _=>⟨b,iv4,rv4,rs4,rfl,HP4.out⟩,o6:=fun _=>(by simp[hi]),o7:=fun _=>rfl }⟩)))
    ·obtain⟨b,iv4,rv4,rs4,e4,hp4⟩:=H.wd (by simp[hi]);have HP4:=hid hp4;injection e4 with e4
     subst e4;clear hp4;refine wpOp_hidden rfl fun K hK=>?_;go_wp2;refine OnlyN.mk (hK.out _ _ (e_8 (e_8 ⟨rfl,rfl,{ H with h7:=fun _=>rfl,wd:=fun _=>⟨b,iv4,rv4,rs4,rfl,HP4.out⟩,o7:=fun _=>(by simp[hi]) }⟩)))
   ·rintro listed act w' hr ⟨b0,b1,b2,b3,b4,b5,b6,b7,v38,v39,v40,v41,v42,v43,v44,v4,rfl,rfl,H⟩;have hn:=List.eq_nil_iff_forall_not_mem.1 hr;have r0:=hn 0;simp[mem_ready,Region.binds] at r0;subst r0;have r1:=hn 1;simp[mem_ready,Region.binds] at r1;subst r1;have r2:=hn 2;simp[mem_ready,Region.binds] at r2;subst r2;have r3:=hn 3;simp[mem_ready,Region.binds] at r3;subst r3;have r4:=hn 4;simp[mem_ready,Region.binds] at r4;subst r4;have r5:=hn 5;simp[mem_ready,Region.binds] at r5;subst r5;have r6:=hn 6;simp[mem_ready,Region.binds] at r6;subst r6;have r7:=hn 7;simp[mem_ready,Region.binds] at r7;subst r7;try dsimp only
    obtain⟨b,iv4,rv4,rs4,e4,hw4,ht4,hf4,hm4⟩:=H.wd rfl;injection e4 with e4
    subst e4;obtain rfl:=H.h7 rfl;have HP4:=hid (And.intro hw4 (And.intro ht4 (And.intro hf4 hm4)));have HTOT:Hid (rowsT (hs.map Hd.nd) c (L+1) ins (kn:Int)=rowsT (hs.map Hd.nd) c L (ins ++ [-1 - (ins.length:Int)]) z0):=hid (by rw[rowsT_all (by rw[HLS.out];exact HSM.out),HLS.out,HZ0.out]);clear H hr hn hw4 ht4 hf4 hm4;go_wp2;go_ret;exact⟨b,iv4,rv4,rs4,rfl,HP4.out.1,by rw[HTOT.out];exact HP4.out.2.1,by rw[HTOT.out];exact HP4.out.2.2.1,HM2.out.trans ((Mv.of_new (Below.refl _ w3).drew).trans HP4.out.2.2.2)⟩
  | false=>
   rw[hsm] at hcall;have HCALL:=hid hcall;have HSM:=hid hsm;clear hcall hsm;go_upto_region 6 with fail
   go_wp2_with (go_at_call 62;refine HCALL.out.mono ?_;rintro e w3 ⟨rfl,rfl⟩;refine Hid.out ?_);refine hid ?_;clear x2 cB2 g0 g1 HCALL;have HWK0:=HWK2;have HNE:Hid (∀ iv' rv' w',Mv p (.slice iA ins.length ic) rv w3 iv' rv' w'→Blk w' gB 68 #[.pointer (some ⟨p,0,none⟩)]∧Blk w' gK 3 #[.int .i64 (ins.length:Int)]∧iv'.ownBlock≠some gK∧Below B WB w'):=hid (fun iv' rv' w' m=>
    ⟨m.blk HGB2.out HLT.out.1 (own_blk_ne' HWK2.out.ir HGB2.out (by decide)) (own_blk_ne' HWK2.out.rr.1 HGB2.out (by decide)),m.blk HGK2.out HLT.out.2.1 HLT.out.2.2.1 (own_blk_ne' HWK2.out.rr.1 HGK2.out (by decide)),
     fun e=>(m.hi _ e).elim (fun h=>HLT.out.2.2.1 h) (fun h=>by have:=HLT2.out;omega),HBB2.out.trans (HWK2.out.below m)⟩)
   clear HGB2 HGK2;go_wp2;go_loopw [47] (fun iv wr=>∃ (j:Nat) (ivv rvv:Value) (rss:List Rh),j≤l.length∧iv=.int .i64 j∧Hid (WkW B p (.int .i64 st) (.slice hA n hc) (.slice (some ⟨nb,no,none⟩) hs.length nc) (.int .i64 c) ivv ins rvv rss wr)∧Hid (Mv p (.slice iA ins.length ic) rv w3 ivv rvv wr)∧Hid (rss.map Rh.rw_=rs.map Rh.rw_ ++ rowsK (hs.map Hd.nd) c L ins l j)∧Hid (rss.length≤400)) (fun iv _=>l.length - (intOf iv).toNat)
   case atStart=>exact⟨0,(.slice iA ins.length ic),rv,rs,Nat.zero_le _,rfl,HWK2,hid (Mv.refl _ _ _ _),hid (by simp[rowsK]),HRS⟩
   case round=>
    obtain⟨j,ivv,rvv,rss,hj,rfl,HWJ,HMJ,HRJ,HLJ⟩:=hrel;by_cases hjl:j < l.length
    ·obtain⟨b',o',e',-,hc0⟩:=(HZI.out wr (HNE.out _ _ _ HMJ.out).2.2.2).at_ hjl;obtain⟨rfl,rfl⟩:zb=b'∧zo=o':=by injection e' with e';injection e' with h1 h2;exact⟨h1,h2⟩
     obtain⟨x,hx⟩:∃ x,x=l[j]:=⟨_,rfl⟩
     rw[← hx] at hc0;have HJ:=hid hjl;have HX:Hid (x=l[j]):=hid hx;have hwj:wrap64 ((j:Int)+1)=(j:Int)+1:=by unfold wrap64;omega
     have hcall:=HSTEP.out ivv rvv rss wr (j:Int) x HWJ.out (HNE.out _ _ _ HMJ.out).2.2.2 (HNE.out _ _ _ HMJ.out).1 (HNE.out _ _ _ HMJ.out).2.1 (HNE.out _ _ _ HMJ.out).2.2.1 HLJ.out (by rw[hx];exact List.getElem_mem hjl);have HCALL:=hid hcall;clear hcall e' hx;go_wp2_with (go_at_call 61;refine HCALL.out.mono ?_;rintro e w4 ⟨b,iv4,rv4,rs4,rfl,hw4,ht4,hf4,hm4⟩;refine Hid.out ?_);refine hid ?_;have HW4:=hid hw4;have HM4:=hid (HMJ.out.trans hm4);have HT4:Hid (rss.map Rh.rw_ ++ rowsT (hs.map Hd.nd) c L (ins ++ [(j:Int)]) x=rs.map Rh.rw_ ++ rowsK (hs.map Hd.nd) c L ins l (j+1)):=hid (by rw[HRJ.out,List.append_assoc,rowsK_step,HX.out,List.getD_eq_getElem?_getD,List.getElem?_eq_getElem HJ.out];rfl);rw[HT4.out] at ht4 hf4;clear hw4 hm4 HCALL hc0 HZ;cases b with
     | false=>
      have HF4:Hid (400 < (rs.map Rh.rw_ ++ rowsT (hs.map Hd.nd) c (L+1) ins (kn:Int)).length):=hid (by
       have h1:=hf4 rfl;rw[rowsT_each (by rw[HLS.out];exact HSM.out),HLS.out];have h2:=rowsK_le (hs.map Hd.nd) c L ins l (j:=j+1) (m:=l.length) HJ.out;rw[List.length_append] at h1 ⊢;omega)
      clear ht4 hf4;go_wp2;go_ret;exact⟨false,iv4,rv4,rs4,rfl,HW4.out,fun h=>(by cases h),fun _=>HF4.out,HM2.out.trans HM4.out⟩
     | true=>
      have HS4:=hid (ht4 rfl);clear ht4 hf4;go_wp2;go_roundw
      case rel=>exact⟨j+1,iv4,rv4,rs4,HJ.out,(by first | rfl | (rw[hwj];rfl)),HW4,HM4,hid HS4.out.1,hid (by have h1:=HS4.out.1;have h2:=HS4.out.2;rw[← h1,List.length_map] at h2;exact h2)⟩
      case measure=>(try rw[hwj]);exact meas_step HJ.out
    ·obtain rfl:j=l.length:=Nat.le_antisymm hj (Nat.le_of_not_lt hjl);clear hj hjl HZ;go_wp2;go_ret;have htot:rowsT (hs.map Hd.nd) c (L+1) ins (kn:Int)=rowsK (hs.map Hd.nd) c L ins l l.length:=by rw[rowsT_each (by rw[HLS.out];exact HSM.out),HLS.out]
     exact⟨true,ivv,rvv,rss,rfl,HWJ.out,fun _=>by rw[htot,← HRJ.out,List.length_map];exact⟨rfl,HLJ.out⟩,fun h=>(by cases h),HM2.out.trans HMJ.out⟩
end Go.Proofs.YtlegfdllipkggaaGreatDoor
