/-
  texts WRow: parts of the proof; conditions stand with each theorem.
-/
import Derived.Test.YtlegfdllipkggaaGreatDoorWG7
namespace Go.Proofs.YtlegfdllipkggaaGreatDoor
open Lib(hid)
open Go.RowKit Go.Maps
set_option maxRecDepth 100000
set_option linter.unusedVariables false
set_option linter.unusedSimpArgs false
theorem rowsT_zero_t {ns:List Nd}{c:Int}{ins:List Int}{k:Int}(h:skipR c ins k=true):rowsT ns c 0 ins k=[]:=if_pos h
theorem rowsT_zero_f {ns:List Nd}{c:Int}{ins:List Int}{k:Int}(h:skipR c ins k=false):rowsT ns c 0 ins k=[(ins,k)]:=if_neg (by rw[h];simp)
structure WrwJ (V:World)(bs:Nat)(p:Nat)(c0:Value)(c1:Value)(c2:Value)(c3:Value)(iv0:Value)(ins:List Int)(rv0:Value)(rs:List Rh)(out:Int)(b0 b1 b2 b3 b4 b5 b6 b7 b8 b9 b10 b11 b12 b13 b14 b15 b16:Bool)(v35 v36 v37 v38 v39 v40 v41 v42 v43 v44 v45 v46 v47 v48 v49 v50:Value)(w:World):Prop where
 h0:b0=true→v35=.pointer (some ⟨p,0,none⟩)
 h1:b1=true→v36=.pointer (some ⟨p,0,none⟩)
 h2:b2=true→v37=.pointer (some ⟨p,0,none⟩)
 h3:b3=true→v38=.pointer (some ⟨p,5,none⟩)
 h4:b4=true→v39=rv0
 h5:b5=true→v40=.pointer (some ⟨p,0,none⟩)
 h6:b6=true→v41=.pointer (some ⟨p,0,none⟩)
 h7:b7=true→v42=.pointer (some ⟨p,4,none⟩)
 h8:b8=true→v43=iv0
 h10:b10=true→v45=.int .i64 out
 h14:b14=true→v49=.pointer (some ⟨p,0,none⟩)
 h15:b15=true→v50=.pointer (some ⟨p,5,none⟩)
 h11:b11=true→v46=.agg #[v44,.int .i64 out]
 hk:b13=false→∀ q:Addr,q.block < V.heap.size→w.cell? q=V.cell? q
 wa:b9=false→w=V.drew
 wb:b9=true→b12=false→∃ X c,v44=.slice X ins.length c∧OwnIA w V.heap.size (.slice X ins.length c) ins∧Below V.heap.size V w
 wc:b12=true→b13=false→∃ X c W9,v44=.slice X ins.length c∧OwnIA W9 V.heap.size (.slice X ins.length c) ins∧Below V.heap.size V W9∧v47=.slice (some ⟨W9.heap.size,0,none⟩) 1 1∧w=W9.alloc (.cells #[.slice X ins.length c,.int .i64 out] 43)
 wd:b13=true→b16=false→∃ (x:Rh) (W9:World) (Y:Option Addr) (d:Nat),v48=.slice Y (rs.length+1) d∧x.rw_=(ins,out)∧Below V.heap.size V W9∧OwnIA W9 V.heap.size x.val x.zs∧OwnRA w bs (.slice Y (rs.length+1) d) (rs ++ [x])∧Kept (fun g=>rv0.ownBlock=some g) W9 w∧((Value.slice Y (rs.length+1) d).ownBlock=rv0.ownBlock∨∃ g,(Value.slice Y (rs.length+1) d).ownBlock=some g∧W9.heap.size≤g)
 we:b16=true→∃ (x:Rh) (Y:Option Addr) (d:Nat),x.rw_=(ins,out)∧WkW bs p c0 c1 c2 c3 iv0 ins (.slice Y (rs.length+1) d) (rs ++ [x]) w∧Mv p iv0 rv0 V iv0 (.slice Y (rs.length+1) d) w
 o2:b2=true→b1=true
 o3:b3=true→b2=true
 o4:b4=true→b3=true
 o6:b6=true→b5=true
 o7:b7=true→b6=true
 o8:b8=true→b7=true
 o9:b9=true→b8=true
 o11:b11=true→b9=true∧b10=true
 o12:b12=true→b11=true
 o13:b13=true→b4=true∧b12=true
 o14:b14=true→b0=true
 o15:b15=true→b14=true
 o16:b16=true→b13=true∧b15=true
set_option maxHeartbeats 16000000 in
theorem wrow_any (B p:Nat)(c0 c1 c2:Value)(c:Int)(iv:Value)(ins:List Int)(rv:Value)(rs:List Rh)(out:Int)(ns:List Nd)(w:World)(hW:WkW B p c0 c1 c2 (.int .i64 c) iv ins rv rs w)(hins:0 < ins.length)(hi100:ins.length≤100)
  (hc:c < 0∨(0≤c∧c.toNat < ins.length)) (hrs:rs.length≤400) :
  Calls Tryz.prog 60 #[.pointer (some ⟨p,0,none⟩),.int .i64 out] w (WkPost B p c0 c1 c2 (.int .i64 c) ins (rs.map Rh.rw_ ++ rowsT ns c 0 ins out) iv rv w):=by
 obtain⟨g,ic,ei,hcap⟩:=own_capI hW.ir hins;subst ei;obtain⟨rA,rc,er,-,-⟩:=hW.rr.rws;subst er;have HW:=hid hW;have HH:=hid (And.intro hins (And.intro hi100 hrs));have x3:=hW.blk.cell_ 3 (.int .i64 c) rfl;have x4:=hW.blk.cell_ 4 (.slice (some ⟨g,0,none⟩) ins.length ic) rfl;have hil9:ins.length≤9223372036854775807:=by omega
 clear hW hrs hcap;by_cases hcn:c < 0
 ·have d1:decide (c < 0)=true:=decide_eq_true hcn;have d2:decide (0≤c)=false:=decide_eq_false (by omega);by_cases ho:out=0
  ·have f1:(out == 0)=true:=beq_iff_eq.2 ho;have HS:Hid (skipR c ins out=true):=hid (by unfold skipR;rw[if_pos hcn];exact decide_eq_true ho);clear hcn ho hins hi100 hc;go_enter Tryz.func60,Tryz.ntmps60;go_upto_region 1 with fail
   go_quiet (fail)
   go_wp2;go_ret;refine⟨true,_,_,rs,rfl,HW.out.ext (below_drewN (Below.refl _ w) nq),fun _=>?_,fun h=>(by cases h),Mv.of_new (below_drewN (Below.refl _ w) nq)⟩;rw[rowsT_zero_t HS.out,List.append_nil,List.length_map];exact⟨rfl,HH.out.2.2⟩
  ·have f1:(out == 0)=false:=beq_false_of_ne ho;have HS:Hid (skipR c ins out=false):=hid (by unfold skipR;rw[if_pos hcn];exact decide_eq_false ho);clear hcn ho hins hi100 hc;go_enter Tryz.func60,Tryz.ntmps60;go_upto_region 1 with fail
   go_quiet (fail)
   obtain⟨v1,hv1⟩:∃ W,W=w.drewN nq:=⟨_,rfl⟩
   rw[← hv1];have hb1:Below w.heap.size w v1:=by rw[hv1];exact below_drewN (Below.refl _ w) nq
   have HB1:=hid hb1;have HW1:=hid (HW.out.ext hb1);clear hv1 hb1 x3 x4 d1 d2 f1;go_upto_region 3 with fail
   have HLP:Hid (p < v1.heap.size∧v1.cell? ⟨p,4,none⟩=some (.slice (some ⟨g,0,none⟩) ins.length ic)∧v1.cell? ⟨p,5,none⟩=some (.slice rA rs.length rc)∧v1.frozen? ⟨p,5,none⟩=false):=hid ⟨HW1.out.blk.lt,HW1.out.blk.cell_ 4 _ rfl,HW1.out.blk.cell_ 5 _ rfl,HW1.out.blk.frozen 5⟩;have HH9:Hid (ins.length < 1000000000000):=hid (by have:=HH.out.2.1;omega);have HRS:Hid (rs.length < 1000000000000):=hid (by have:=HH.out.2.2;omega);refine wp_region_J (by kernel_rfl) (fun listed act w'=>∃ b0 b1 b2 b3 b4 b5 b6 b7 b8 b9 b10 b11 b12 b13 b14 b15 b16 v35 v36 v37 v38 v39 v40 v41 v42 v43 v44 v45 v46 v47 v48 v49 v50,listed=#[b0,b1,b2,b3,b4,b5,b6,b7,b8,b9,b10,b11,b12,b13,b14,b15,b16]∧act=Act.mk #[.pointer (some ⟨p,0,none⟩),.int .i64 out,undef,undef,.bool false,.pointer (some ⟨p,0,none⟩),.pointer (some ⟨p,0,none⟩),.pointer (some ⟨p,3,none⟩),.int .i64 c,.bool true,.bool true,.int .i64 out,.bool false,.bool false,.bool false,.pointer (some ⟨p,0,none⟩),.pointer (some ⟨p,0,none⟩),.pointer (some ⟨p,3,none⟩),.int .i64 c,.bool false,.bool false,undef,undef,undef,undef,undef,undef,undef,undef,undef,undef,undef,undef,.bool false,.bool false,v35,v36,v37,v38,v39,v40,v41,v42,v43,v44,v45,v46,v47,v48,v49,v50,undef,undef,undef,undef,undef,undef] []∧WrwJ v1 B p c0 c1 c2 (.int .i64 c) (.slice (some ⟨g,0,none⟩) ins.length ic) ins (.slice rA rs.length rc) rs out b0 b1 b2 b3 b4 b5 b6 b7 b8 b9 b10 b11 b12 b13 b14 b15 b16 v35 v36 v37 v38 v39 v40 v41 v42 v43 v44 v45 v46 v47 v48 v49 v50 w') ?_ ?_ ?_
   ·exact (e_8 (e_8 (e_8 (e_8 (e_1 ⟨rfl,rfl,(by constructor;(case hk=>exact (fun _ _ _=>rfl));(case wa=>exact (fun _=>rfl));all_goals simp)⟩)))))
   ·rintro i listed act w' hi ⟨b0,b1,b2,b3,b4,b5,b6,b7,b8,b9,b10,b11,b12,b13,b14,b15,b16,v35,v36,v37,v38,v39,v40,v41,v42,v43,v44,v45,v46,v47,v48,v49,v50,rfl,rfl,H⟩;have hi16:i < 17:=by
     obtain⟨-,o,ho,-⟩:=mem_ready.1 hi;exact (Array.getElem?_eq_some_iff.1 ho).1
    obtain rfl | rfl | rfl | rfl | rfl | rfl | rfl | rfl | rfl | rfl | rfl | rfl | rfl | rfl | rfl | rfl | rfl:i=0∨i=1∨i=2∨i=3∨i=4∨i=5∨i=6∨i=7∨i=8∨i=9∨i=10∨i=11∨i=12∨i=13∨i=14∨i=15∨i=16:=by omega
    all_goals simp[mem_ready,Region.binds] at hi
    ·refine wpOp_hidden rfl fun K hK=>?_;go_wp2;refine OnlyN.mk (hK.out _ _ (e_8 (e_8 (e_8 (e_8 (e_1 ⟨rfl,rfl,{ H with h0:=fun _=>rfl,o14:=fun h=>rfl }⟩))))))
    ·refine wpOp_hidden rfl fun K hK=>?_;go_wp2;refine OnlyN.mk (hK.out _ _ (e_8 (e_8 (e_8 (e_8 (e_1 ⟨rfl,rfl,{ H with h1:=fun _=>rfl,o2:=fun h=>rfl }⟩))))))
    ·obtain rfl:=H.h1 (by simp[hi]);refine wpOp_hidden rfl fun K hK=>?_;go_wp2;refine OnlyN.mk (hK.out _ _ (e_8 (e_8 (e_8 (e_8 (e_1 ⟨rfl,rfl,{ H with h2:=fun _=>rfl,o2:=fun _=>(by simp[hi]),o3:=fun h=>rfl }⟩))))))
    ·obtain rfl:=H.h2 (by simp[hi]);refine wpOp_hidden rfl fun K hK=>?_;go_wp2;refine OnlyN.mk (hK.out _ _ (e_8 (e_8 (e_8 (e_8 (e_1 ⟨rfl,rfl,{ H with h3:=fun _=>rfl,o3:=fun _=>(by simp[hi]),o4:=fun h=>rfl }⟩))))))
    ·have b13f:b13=false:=by
      cases hb:b13 with
      | false=>rfl
      | true=>exact absurd (H.o13 hb).1 (by simp[hi])
     obtain rfl:=H.h3 (by simp[hi]);have cc:=(H.hk b13f ⟨p,5,none⟩ HLP.out.1).trans HLP.out.2.2.1;clear b13f;refine wpOp_hidden rfl fun K hK=>?_;go_wp2;refine OnlyN.mk (hK.out _ _ (e_8 (e_8 (e_8 (e_8 (e_1 ⟨rfl,rfl,{ H with h4:=fun _=>rfl,o4:=fun _=>(by simp[hi]),o13:=fun h=>⟨rfl,(H.o13 h).2⟩ }⟩))))))
    ·refine wpOp_hidden rfl fun K hK=>?_;go_wp2;refine OnlyN.mk (hK.out _ _ (e_8 (e_8 (e_8 (e_8 (e_1 ⟨rfl,rfl,{ H with h5:=fun _=>rfl,o6:=fun h=>rfl }⟩))))))
    ·obtain rfl:=H.h5 (by simp[hi]);refine wpOp_hidden rfl fun K hK=>?_;go_wp2;refine OnlyN.mk (hK.out _ _ (e_8 (e_8 (e_8 (e_8 (e_1 ⟨rfl,rfl,{ H with h6:=fun _=>rfl,o6:=fun _=>(by simp[hi]),o7:=fun h=>rfl }⟩))))))
    ·obtain rfl:=H.h6 (by simp[hi]);refine wpOp_hidden rfl fun K hK=>?_;go_wp2;refine OnlyN.mk (hK.out _ _ (e_8 (e_8 (e_8 (e_8 (e_1 ⟨rfl,rfl,{ H with h7:=fun _=>rfl,o7:=fun _=>(by simp[hi]),o8:=fun h=>rfl }⟩))))))
    ·have b13f:b13=false:=by
      cases hb:b13 with
      | false=>rfl
      | true=>exact absurd (H.o9 (H.o11 (H.o12 (H.o13 hb).2)).1) (by simp[hi])
     obtain rfl:=H.h7 (by simp[hi]);have cc:=(H.hk b13f ⟨p,4,none⟩ HLP.out.1).trans HLP.out.2.1;clear b13f;refine wpOp_hidden rfl fun K hK=>?_;go_wp2;refine OnlyN.mk (hK.out _ _ (e_8 (e_8 (e_8 (e_8 (e_1 ⟨rfl,rfl,{ H with h8:=fun _=>rfl,o8:=fun _=>(by simp[hi]),o9:=fun h=>rfl }⟩))))))
    ·obtain rfl:=H.h8 (by simp[hi]);have hw:=H.wa (by simp[hi]);obtain⟨Vd,hVd⟩:∃ Vd,Vd=World.drew v1:=⟨_,rfl⟩
     rw[← hVd] at hw;subst hw;have hz:Ints w' (some ⟨g,0,none⟩) ins:=by rw[hVd];exact OwnI.reads HW1.out.ir
     have hal:ins.length < 1000000000000:=HH9.out;have HVD:=hid hVd;clear hVd;refine wpOp_hidden rfl fun K hK=>?_;refine wpList_copyI rfl _ _ _ rfl 3 Tryz.underlying38 Tryz.infoInt rfl g 0 ic ins hz rfl hal ?_;intro v' w9 ho9 hb9;obtain⟨X,c9,e9,-,-⟩:=ho9.ints;subst e9;have HO9:Hid (OwnIA w9 v1.heap.size (.slice X ins.length c9) ins):=hid (by rw[HVD.out] at ho9;exact ho9);have HB9:Hid (Below v1.heap.size v1 w9):=hid (by rw[HVD.out] at hb9;exact ((Below.refl _ v1).drew).trans hb9);clear ho9 hb9 hz hal;go_wp2;refine OnlyN.mk (hK.out _ _ (e_8 (e_8 (e_8 (e_8 (e_1 ⟨rfl,rfl,{ H with h11:=fun h=>absurd (H.o11 h).1 (by simp[hi]),hk:=fun _ q hq=>World.cell?_of_block (HB9.out.block _ hq),wa:=fun h=>(by cases h),wb:=fun _ _=>⟨_,_,rfl,HO9.out,HB9.out⟩,wc:=fun h=>absurd (H.o11 (H.o12 h)).1 (by simp[hi]),wd:=fun h=>absurd (H.o11 (H.o12 (H.o13 h).2)).1 (by simp[hi]),we:=fun h=>absurd (H.o11 (H.o12 (H.o13 (H.o16 h).1).2)).1 (by simp[hi]),o9:=fun _=>(by simp[hi]),o11:=fun h=>⟨rfl,(H.o11 h).2⟩ }⟩))))))
    ·refine wpOp_hidden rfl fun K hK=>?_;go_wp2;refine OnlyN.mk (hK.out _ _ (e_8 (e_8 (e_8 (e_8 (e_1 ⟨rfl,rfl,{ H with h10:=fun _=>rfl,o11:=fun h=>⟨(H.o11 h).1,rfl⟩ }⟩))))))
    ·have b12f:b12=false:=by
      cases hb:b12 with
      | false=>rfl
      | true=>exact absurd (H.o12 hb) (by simp[hi])
     obtain rfl:=H.h10 (by simp[hi]);obtain⟨X,c9,e9,ho9,hb9⟩:=H.wb (by simp[hi]) b12f;subst e9;clear ho9 hb9 b12f;refine wpOp_hidden rfl fun K hK=>?_;go_wp2;refine OnlyN.mk (hK.out _ _ (e_8 (e_8 (e_8 (e_8 (e_1 ⟨rfl,rfl,{ H with h11:=fun _=>rfl,o11:=fun _=>(by simp[hi]),o12:=fun h=>rfl }⟩))))))
    ·have b13f:b13=false:=by
      cases hb:b13 with
      | false=>rfl
      | true=>exact absurd (H.o13 hb).2 (by simp[hi])
     obtain⟨X,c9,e9,ho9,hb9⟩:=H.wb ((H.o11 (show b11=true by simp[hi])).1) (by simp[hi]);subst e9;obtain rfl:=H.h11 (by simp[hi]);have HO9:=hid ho9;have HB9:=hid hb9;have H13:=hid b13f;clear ho9 hb9 b13f;refine wpOp_hidden rfl fun K hK=>?_;go_wp2;refine OnlyN.mk (hK.out _ _ (e_8 (e_8 (e_8 (e_8 (e_1 ⟨rfl,rfl,{ H with hk:=fun _ q hq=>(World.cell?_alloc_lt w' _ q (Nat.lt_of_lt_of_le hq HB9.out.size)).trans (H.hk H13.out q hq),wa:=fun h=>absurd h (by rw[show b9=true from (H.o11 (by simp[hi])).1];decide),wb:=fun _ h=>(by cases h),wc:=fun _ _=>⟨_,_,_,rfl,HO9.out,HB9.out,rfl,rfl⟩,wd:=fun h=>absurd h (by rw[H13.out];decide),we:=fun h=>absurd (H.o16 h).1 (by rw[H13.out];decide),o12:=fun _=>(by simp[hi]),o13:=fun h=>⟨(H.o13 h).1,rfl⟩ }⟩))))))
    ·have b16f:b16=false:=by
      cases hb:b16 with
      | false=>rfl
      | true=>exact absurd (H.o16 hb).1 (by simp[hi])
     obtain rfl:=H.h4 (by simp[hi]);obtain⟨X,c9,W9,e9,ho9,hb9,e47,hw⟩:=H.wc (by simp[hi]) (by simp[hi]);subst e9;subst e47;subst hw;have hown:OwnRA W9 B (.slice rA rs.length rc) rs:=(HW1.out.rr).ext hb9;have hI:OwnIA W9 B (.slice X ins.length c9) ins:=own_down ho9 HW1.out.lt_size;have hn:rs.length < 1000000000000:=HRS.out;have hbase:B≤W9.heap.size:=Nat.le_trans HW1.out.lt_size hb9.size;have HO9:=hid ho9;have HB9:=hid hb9;have H16:=hid b16f;clear ho9 hb9 b16f;refine wpOp_hidden rfl fun K hK=>?_;refine wpList_pushR rfl _ _ _ rfl B 43 3 (by decide) Tryz.underlying24 Tryz.infoRow _ _ rfl hown X c9 ins out hI rfl hn hbase ?_;intro v' w6 ho6 hk6 hn6;obtain⟨Y,d6,e6,-,-⟩:=ho6.rws;rw[List.length_append,List.length_singleton] at e6;subst e6;have HO6:=hid ho6;have HK6:=hid hk6;have HN6:=hid hn6;clear ho6 hk6 hn6 hown hI hn hbase;go_wp2;refine OnlyN.mk (hK.out _ _ (e_8 (e_8 (e_8 (e_8 (e_1 ⟨rfl,rfl,{ H with hk:=fun h=>(by cases h),wa:=fun h=>absurd h (by rw[show b9=true from (H.o11 (H.o12 (by simp[hi]))).1];decide),wb:=fun _ h=>absurd h (by simp[hi]),wc:=fun _ h=>(by cases h),wd:=fun _ _=>⟨⟨X,c9,ins,out⟩,W9,Y,d6,rfl,rfl,HB9.out,HO9.out,HO6.out,HK6.out,HN6.out⟩,we:=fun h=>absurd h (by rw[H16.out];decide),o13:=fun _=>(by simp[hi]),o16:=fun h=>⟨rfl,(H.o16 h).2⟩ }⟩))))))
    ·obtain rfl:=H.h0 (by simp[hi]);refine wpOp_hidden rfl fun K hK=>?_;go_wp2;refine OnlyN.mk (hK.out _ _ (e_8 (e_8 (e_8 (e_8 (e_1 ⟨rfl,rfl,{ H with h14:=fun _=>rfl,o14:=fun _=>(by simp[hi]),o15:=fun h=>rfl }⟩))))))
    ·obtain rfl:=H.h14 (by simp[hi]);refine wpOp_hidden rfl fun K hK=>?_;go_wp2;refine OnlyN.mk (hK.out _ _ (e_8 (e_8 (e_8 (e_8 (e_1 ⟨rfl,rfl,{ H with h15:=fun _=>rfl,o15:=fun _=>(by simp[hi]),o16:=fun h=>⟨(H.o16 h).1,rfl⟩ }⟩))))))
    ·obtain rfl:=H.h15 (by simp[hi]);obtain⟨x,W9,Y,d6,e48,hx,hb9,ho9,ho6,hk6,hn6⟩:=H.wd (by simp[hi]) (by simp[hi]);subst e48;have hW9:=HW1.out.ext hb9;have b6:=hk6.blk hW9.blk (own_blk_ne' hW9.rr.1 hW9.blk (by decide));have cx6:=b6.cell_ 5 _ rfl;have fx6:=b6.frozen 5;obtain⟨hf1,hf2⟩:=hW9.pushR (own_down ho9 HW1.out.lt_size) ho6 hk6 hn6 (fun q e1 e2=>by have h1:=(own_lt' HW1.out.ir e1).1;have h2:=(own_lt' ho9 e2).2;omega);have HF1:=hid hf1;have HF2:=hid ((Mv.of_new (p:=p) (iv:=.slice (some ⟨g,0,none⟩) ins.length ic) (rv:=.slice rA rs.length rc) hb9).trans hf2);have HXX:=hid hx;clear hW9 b6 hf1 hf2 hx hb9 ho9 ho6 hk6 hn6;refine wpOp_hidden rfl fun K hK=>?_;go_wp2;refine OnlyN.mk (hK.out _ _ (e_8 (e_8 (e_8 (e_8 (e_1 ⟨rfl,rfl,{ H with hk:=fun h=>absurd h (by simp[hi]),wa:=fun h=>absurd h (by rw[show b9=true from (H.o11 (H.o12 (H.o13 (by simp[hi])).2)).1];decide),wb:=fun _ h=>absurd h (by rw[show b12=true from (H.o13 (by simp[hi])).2];decide),wc:=fun _ h=>absurd h (by simp[hi]),wd:=fun _ h=>(by cases h),we:=fun _=>⟨x,Y,d6,HXX.out,HF1.out,HF2.out⟩,o16:=fun _=>(by simp[hi]) }⟩))))))
   ·rintro listed act w' hr ⟨b0,b1,b2,b3,b4,b5,b6,b7,b8,b9,b10,b11,b12,b13,b14,b15,b16,v35,v36,v37,v38,v39,v40,v41,v42,v43,v44,v45,v46,v47,v48,v49,v50,rfl,rfl,H⟩;have hn:=List.eq_nil_iff_forall_not_mem.1 hr;have r0:=hn 0;simp[mem_ready,Region.binds] at r0;subst r0;have r1:=hn 1;simp[mem_ready,Region.binds] at r1;subst r1;have r2:=hn 2;simp[mem_ready,Region.binds] at r2;subst r2;have r3:=hn 3;simp[mem_ready,Region.binds] at r3;subst r3;have r4:=hn 4;simp[mem_ready,Region.binds] at r4;subst r4;have r5:=hn 5;simp[mem_ready,Region.binds] at r5;subst r5;have r6:=hn 6;simp[mem_ready,Region.binds] at r6;subst r6;have r7:=hn 7;simp[mem_ready,Region.binds] at r7;subst r7;have r8:=hn 8;simp[mem_ready,Region.binds] at r8;subst r8;have r9:=hn 9;simp[mem_ready,Region.binds] at r9;subst r9;have r10:=hn 10;simp[mem_ready,Region.binds] at r10;subst r10;have r11:=hn 11;simp[mem_ready,Region.binds] at r11;subst r11;have r12:=hn 12;simp[mem_ready,Region.binds] at r12;subst r12;have r13:=hn 13;simp[mem_ready,Region.binds] at r13;subst r13;have r14:=hn 14;simp[mem_ready,Region.binds] at r14;subst r14;have r15:=hn 15;simp[mem_ready,Region.binds] at r15;subst r15;have r16:=hn 16;simp[mem_ready,Region.binds] at r16;subst r16;try dsimp only
    obtain⟨x,Y,d6,hx,hf1,hf2⟩:=H.we rfl;obtain⟨v3,rfl⟩:∃ v3:World,v3=w':=⟨_,rfl⟩
    have HF1:=hid hf1;have HF2:=hid ((Mv.of_new (p:=p) (iv:=(.slice (some ⟨g,0,none⟩) ins.length ic)) (rv:=.slice rA rs.length rc) HB1.out).trans hf2);have HXX:=hid hx;have cc5:=hf1.blk.cell_ 5 (.slice Y (rs.length+1) d6) rfl;have htot:((rs ++ [x]).map Rh.rw_=rs.map Rh.rw_ ++ rowsT ns c 0 ins out):=by rw[rowsT_zero_f HS.out,List.map_append,List.map_singleton,hx]
    have HTOT:=hid htot;have hlen:(rs.map Rh.rw_ ++ rowsT ns c 0 ins out).length=rs.length+1:=by rw[← htot,List.length_map,List.length_append,List.length_singleton]
    have HLEN:=hid hlen;have hr9:rs.length+1≤9223372036854775807:=by have:=HH.out.2.2;omega
    clear H hr hn hx hf1 hf2 htot hlen;by_cases h4:rs.length+1≤400
    ·have d1:decide (((rs.length+1:Nat):Int)≤400)=true:=decide_eq_true (by omega);have d2:decide ((rs.length:Int)+1≤400)=true:=decide_eq_true (by omega);have H4:=hid h4;clear h4;go_wp2;go_ret;exact⟨true,_,_,_,ret_bool (by first | rfl | simp),HF1.out,fun _=>⟨HTOT.out,by rw[HLEN.out];exact H4.out⟩,fun h=>(by cases h),HF2.out⟩
    ·have d1:decide (((rs.length+1:Nat):Int)≤400)=false:=decide_eq_false (by omega);have d2:decide ((rs.length:Int)+1≤400)=false:=decide_eq_false (by omega);have H4:=hid h4;clear h4;go_wp2;go_ret;exact⟨false,_,_,_,ret_bool (by first | rfl | simp),HF1.out,fun h=>(by cases h),fun _=>by rw[HLEN.out];have:=H4.out;omega,HF2.out⟩
 ·have d1:decide (c < 0)=false:=decide_eq_false hcn;have d2:decide (0≤c)=true:=decide_eq_true (by omega);obtain⟨cn,hcc⟩:∃ cn:Nat,c=(cn:Int):=⟨c.toNat,by omega⟩
  subst hcc;have hcl:cn < ins.length:=by
   rcases hc with h | ⟨-,h⟩
   ·exact absurd h hcn
   ·rwa [Int.toNat_natCast] at h
  obtain⟨b',o',e',-,xz⟩:=(OwnI.reads HW.out.ir).at_ hcl;obtain⟨rfl,rfl⟩:g=b'∧0=o':=by injection e' with e';injection e' with h1 h2;exact⟨h1,h2⟩
  obtain⟨z,hz⟩:∃ z,z=ins[cn]:=⟨_,rfl⟩
  rw[← hz,Nat.zero_add] at xz;have HZ:Hid (ins.getD cn 0=z):=hid (by rw[hz,List.getD_eq_getElem?_getD,List.getElem?_eq_getElem hcl];rfl);clear e' hz hins hi100 hc;by_cases ho:z=out
  ·have f1:(z == out)=true:=beq_iff_eq.2 ho;have HS:Hid (skipR (cn:Int) ins out=true):=hid (by unfold skipR;rw[if_neg hcn,Int.toNat_natCast,HZ.out];exact decide_eq_true ho);clear hcn ho;go_enter Tryz.func60,Tryz.ntmps60;go_upto_region 1 with fail
   go_quiet (fail)
   go_wp2;go_ret;refine⟨true,_,_,rs,rfl,HW.out.ext (below_drewN (Below.refl _ w) nq),fun _=>?_,fun h=>(by cases h),Mv.of_new (below_drewN (Below.refl _ w) nq)⟩;rw[rowsT_zero_t HS.out,List.append_nil,List.length_map];exact⟨rfl,HH.out.2.2⟩
  ·have f1:(z == out)=false:=beq_false_of_ne ho;have HS:Hid (skipR (cn:Int) ins out=false):=hid (by unfold skipR;rw[if_neg hcn,Int.toNat_natCast,HZ.out];exact decide_eq_false ho);clear hcn ho;go_enter Tryz.func60,Tryz.ntmps60;go_upto_region 1 with fail
   go_quiet (fail)
   obtain⟨v1,hv1⟩:∃ W,W=w.drewN nq:=⟨_,rfl⟩
   rw[← hv1];have hb1:Below w.heap.size w v1:=by rw[hv1];exact below_drewN (Below.refl _ w) nq
   have HB1:=hid hb1;have HW1:=hid (HW.out.ext hb1);clear hv1 hb1 x3 x4 xz d1 d2 f1;go_upto_region 3 with fail
   have HLP:Hid (p < v1.heap.size∧v1.cell? ⟨p,4,none⟩=some (.slice (some ⟨g,0,none⟩) ins.length ic)∧v1.cell? ⟨p,5,none⟩=some (.slice rA rs.length rc)∧v1.frozen? ⟨p,5,none⟩=false):=hid ⟨HW1.out.blk.lt,HW1.out.blk.cell_ 4 _ rfl,HW1.out.blk.cell_ 5 _ rfl,HW1.out.blk.frozen 5⟩;have HH9:Hid (ins.length < 1000000000000):=hid (by have:=HH.out.2.1;omega);have HRS:Hid (rs.length < 1000000000000):=hid (by have:=HH.out.2.2;omega);refine wp_region_J (by kernel_rfl) (fun listed act w'=>∃ b0 b1 b2 b3 b4 b5 b6 b7 b8 b9 b10 b11 b12 b13 b14 b15 b16 v35 v36 v37 v38 v39 v40 v41 v42 v43 v44 v45 v46 v47 v48 v49 v50,listed=#[b0,b1,b2,b3,b4,b5,b6,b7,b8,b9,b10,b11,b12,b13,b14,b15,b16]∧act=Act.mk #[.pointer (some ⟨p,0,none⟩),.int .i64 out,undef,undef,.bool false,.pointer (some ⟨p,0,none⟩),.pointer (some ⟨p,0,none⟩),.pointer (some ⟨p,3,none⟩),.int .i64 ↑cn,.bool false,.bool false,undef,undef,.bool false,.bool false,.pointer (some ⟨p,0,none⟩),.pointer (some ⟨p,0,none⟩),.pointer (some ⟨p,3,none⟩),.int .i64 ↑cn,.bool true,.bool true,.pointer (some ⟨p,0,none⟩),.pointer (some ⟨p,0,none⟩),.pointer (some ⟨p,4,none⟩),.slice (some ⟨g,0,none⟩) ins.length ic,.pointer (some ⟨p,0,none⟩),.pointer (some ⟨p,0,none⟩),.pointer (some ⟨p,3,none⟩),.int .i64 ↑cn,.pointer (some ⟨g,cn,none⟩),.int .i64 z,.int .i64 out,.bool false,.bool false,.bool false,v35,v36,v37,v38,v39,v40,v41,v42,v43,v44,v45,v46,v47,v48,v49,v50,undef,undef,undef,undef,undef,undef] []∧WrwJ v1 B p c0 c1 c2 (.int .i64 (cn:Int)) (.slice (some ⟨g,0,none⟩) ins.length ic) ins (.slice rA rs.length rc) rs out b0 b1 b2 b3 b4 b5 b6 b7 b8 b9 b10 b11 b12 b13 b14 b15 b16 v35 v36 v37 v38 v39 v40 v41 v42 v43 v44 v45 v46 v47 v48 v49 v50 w') ?_ ?_ ?_
   ·exact (e_8 (e_8 (e_8 (e_8 (e_1 ⟨rfl,rfl,(by constructor;(case hk=>exact (fun _ _ _=>rfl));(case wa=>exact (fun _=>rfl));all_goals simp)⟩)))))
   ·rintro i listed act w' hi ⟨b0,b1,b2,b3,b4,b5,b6,b7,b8,b9,b10,b11,b12,b13,b14,b15,b16,v35,v36,v37,v38,v39,v40,v41,v42,v43,v44,v45,v46,v47,v48,v49,v50,rfl,rfl,H⟩;have hi16:i < 17:=by
     obtain⟨-,o,ho,-⟩:=mem_ready.1 hi;exact (Array.getElem?_eq_some_iff.1 ho).1
    obtain rfl | rfl | rfl | rfl | rfl | rfl | rfl | rfl | rfl | rfl | rfl | rfl | rfl | rfl | rfl | rfl | rfl:i=0∨i=1∨i=2∨i=3∨i=4∨i=5∨i=6∨i=7∨i=8∨i=9∨i=10∨i=11∨i=12∨i=13∨i=14∨i=15∨i=16:=by omega
    all_goals simp[mem_ready,Region.binds] at hi
    ·refine wpOp_hidden rfl fun K hK=>?_;go_wp2;refine OnlyN.mk (hK.out _ _ (e_8 (e_8 (e_8 (e_8 (e_1 ⟨rfl,rfl,{ H with h0:=fun _=>rfl,o14:=fun h=>rfl }⟩))))))
    ·refine wpOp_hidden rfl fun K hK=>?_;go_wp2;refine OnlyN.mk (hK.out _ _ (e_8 (e_8 (e_8 (e_8 (e_1 ⟨rfl,rfl,{ H with h1:=fun _=>rfl,o2:=fun h=>rfl }⟩))))))
    ·obtain rfl:=H.h1 (by simp[hi]);refine wpOp_hidden rfl fun K hK=>?_;go_wp2;refine OnlyN.mk (hK.out _ _ (e_8 (e_8 (e_8 (e_8 (e_1 ⟨rfl,rfl,{ H with h2:=fun _=>rfl,o2:=fun _=>(by simp[hi]),o3:=fun h=>rfl }⟩))))))
    ·obtain rfl:=H.h2 (by simp[hi]);refine wpOp_hidden rfl fun K hK=>?_;go_wp2;refine OnlyN.mk (hK.out _ _ (e_8 (e_8 (e_8 (e_8 (e_1 ⟨rfl,rfl,{ H with h3:=fun _=>rfl,o3:=fun _=>(by simp[hi]),o4:=fun h=>rfl }⟩))))))
    ·have b13f:b13=false:=by
      cases hb:b13 with
      | false=>rfl
      | true=>exact absurd (H.o13 hb).1 (by simp[hi])
     obtain rfl:=H.h3 (by simp[hi]);have cc:=(H.hk b13f ⟨p,5,none⟩ HLP.out.1).trans HLP.out.2.2.1;clear b13f;refine wpOp_hidden rfl fun K hK=>?_;go_wp2;refine OnlyN.mk (hK.out _ _ (e_8 (e_8 (e_8 (e_8 (e_1 ⟨rfl,rfl,{ H with h4:=fun _=>rfl,o4:=fun _=>(by simp[hi]),o13:=fun h=>⟨rfl,(H.o13 h).2⟩ }⟩))))))
    ·refine wpOp_hidden rfl fun K hK=>?_;go_wp2;refine OnlyN.mk (hK.out _ _ (e_8 (e_8 (e_8 (e_8 (e_1 ⟨rfl,rfl,{ H with h5:=fun _=>rfl,o6:=fun h=>rfl }⟩))))))
    ·obtain rfl:=H.h5 (by simp[hi]);refine wpOp_hidden rfl fun K hK=>?_;go_wp2;refine OnlyN.mk (hK.out _ _ (e_8 (e_8 (e_8 (e_8 (e_1 ⟨rfl,rfl,{ H with h6:=fun _=>rfl,o6:=fun _=>(by simp[hi]),o7:=fun h=>rfl }⟩))))))
    ·obtain rfl:=H.h6 (by simp[hi]);refine wpOp_hidden rfl fun K hK=>?_;go_wp2;refine OnlyN.mk (hK.out _ _ (e_8 (e_8 (e_8 (e_8 (e_1 ⟨rfl,rfl,{ H with h7:=fun _=>rfl,o7:=fun _=>(by simp[hi]),o8:=fun h=>rfl }⟩))))))
    ·have b13f:b13=false:=by
      cases hb:b13 with
      | false=>rfl
      | true=>exact absurd (H.o9 (H.o11 (H.o12 (H.o13 hb).2)).1) (by simp[hi])
     obtain rfl:=H.h7 (by simp[hi]);have cc:=(H.hk b13f ⟨p,4,none⟩ HLP.out.1).trans HLP.out.2.1;clear b13f;refine wpOp_hidden rfl fun K hK=>?_;go_wp2;refine OnlyN.mk (hK.out _ _ (e_8 (e_8 (e_8 (e_8 (e_1 ⟨rfl,rfl,{ H with h8:=fun _=>rfl,o8:=fun _=>(by simp[hi]),o9:=fun h=>rfl }⟩))))))
    ·obtain rfl:=H.h8 (by simp[hi]);have hw:=H.wa (by simp[hi]);obtain⟨Vd,hVd⟩:∃ Vd,Vd=World.drew v1:=⟨_,rfl⟩
     rw[← hVd] at hw;subst hw;have hz:Ints w' (some ⟨g,0,none⟩) ins:=by rw[hVd];exact OwnI.reads HW1.out.ir
     have hal:ins.length < 1000000000000:=HH9.out;have HVD:=hid hVd;clear hVd;refine wpOp_hidden rfl fun K hK=>?_;refine wpList_copyI rfl _ _ _ rfl 3 Tryz.underlying38 Tryz.infoInt rfl g 0 ic ins hz rfl hal ?_;intro v' w9 ho9 hb9;obtain⟨X,c9,e9,-,-⟩:=ho9.ints;subst e9;have HO9:Hid (OwnIA w9 v1.heap.size (.slice X ins.length c9) ins):=hid (by rw[HVD.out] at ho9;exact ho9);have HB9:Hid (Below v1.heap.size v1 w9):=hid (by rw[HVD.out] at hb9;exact ((Below.refl _ v1).drew).trans hb9);clear ho9 hb9 hz hal;go_wp2;refine OnlyN.mk (hK.out _ _ (e_8 (e_8 (e_8 (e_8 (e_1 ⟨rfl,rfl,{ H with h11:=fun h=>absurd (H.o11 h).1 (by simp[hi]),hk:=fun _ q hq=>World.cell?_of_block (HB9.out.block _ hq),wa:=fun h=>(by cases h),wb:=fun _ _=>⟨_,_,rfl,HO9.out,HB9.out⟩,wc:=fun h=>absurd (H.o11 (H.o12 h)).1 (by simp[hi]),wd:=fun h=>absurd (H.o11 (H.o12 (H.o13 h).2)).1 (by simp[hi]),we:=fun h=>absurd (H.o11 (H.o12 (H.o13 (H.o16 h).1).2)).1 (by simp[hi]),o9:=fun _=>(by simp[hi]),o11:=fun h=>⟨rfl,(H.o11 h).2⟩ }⟩))))))
    ·refine wpOp_hidden rfl fun K hK=>?_;go_wp2;refine OnlyN.mk (hK.out _ _ (e_8 (e_8 (e_8 (e_8 (e_1 ⟨rfl,rfl,{ H with h10:=fun _=>rfl,o11:=fun h=>⟨(H.o11 h).1,rfl⟩ }⟩))))))
    ·have b12f:b12=false:=by
      cases hb:b12 with
      | false=>rfl
      | true=>exact absurd (H.o12 hb) (by simp[hi])
     obtain rfl:=H.h10 (by simp[hi]);obtain⟨X,c9,e9,ho9,hb9⟩:=H.wb (by simp[hi]) b12f;subst e9;clear ho9 hb9 b12f;refine wpOp_hidden rfl fun K hK=>?_;go_wp2;refine OnlyN.mk (hK.out _ _ (e_8 (e_8 (e_8 (e_8 (e_1 ⟨rfl,rfl,{ H with h11:=fun _=>rfl,o11:=fun _=>(by simp[hi]),o12:=fun h=>rfl }⟩))))))
    ·have b13f:b13=false:=by
      cases hb:b13 with
      | false=>rfl
      | true=>exact absurd (H.o13 hb).2 (by simp[hi])
     obtain⟨X,c9,e9,ho9,hb9⟩:=H.wb ((H.o11 (show b11=true by simp[hi])).1) (by simp[hi]);subst e9;obtain rfl:=H.h11 (by simp[hi]);have HO9:=hid ho9;have HB9:=hid hb9;have H13:=hid b13f;clear ho9 hb9 b13f;refine wpOp_hidden rfl fun K hK=>?_;go_wp2;refine OnlyN.mk (hK.out _ _ (e_8 (e_8 (e_8 (e_8 (e_1 ⟨rfl,rfl,{ H with hk:=fun _ q hq=>(World.cell?_alloc_lt w' _ q (Nat.lt_of_lt_of_le hq HB9.out.size)).trans (H.hk H13.out q hq),wa:=fun h=>absurd h (by rw[show b9=true from (H.o11 (by simp[hi])).1];decide),wb:=fun _ h=>(by cases h),wc:=fun _ _=>⟨_,_,_,rfl,HO9.out,HB9.out,rfl,rfl⟩,wd:=fun h=>absurd h (by rw[H13.out];decide),we:=fun h=>absurd (H.o16 h).1 (by rw[H13.out];decide),o12:=fun _=>(by simp[hi]),o13:=fun h=>⟨(H.o13 h).1,rfl⟩ }⟩))))))
    ·have b16f:b16=false:=by
      cases hb:b16 with
      | false=>rfl
      | true=>exact absurd (H.o16 hb).1 (by simp[hi])
     obtain rfl:=H.h4 (by simp[hi]);obtain⟨X,c9,W9,e9,ho9,hb9,e47,hw⟩:=H.wc (by simp[hi]) (by simp[hi]);subst e9;subst e47;subst hw;have hown:OwnRA W9 B (.slice rA rs.length rc) rs:=(HW1.out.rr).ext hb9;have hI:OwnIA W9 B (.slice X ins.length c9) ins:=own_down ho9 HW1.out.lt_size;have hn:rs.length < 1000000000000:=HRS.out;have hbase:B≤W9.heap.size:=Nat.le_trans HW1.out.lt_size hb9.size;have HO9:=hid ho9;have HB9:=hid hb9;have H16:=hid b16f;clear ho9 hb9 b16f;refine wpOp_hidden rfl fun K hK=>?_;refine wpList_pushR rfl _ _ _ rfl B 43 3 (by decide) Tryz.underlying24 Tryz.infoRow _ _ rfl hown X c9 ins out hI rfl hn hbase ?_;intro v' w6 ho6 hk6 hn6;obtain⟨Y,d6,e6,-,-⟩:=ho6.rws;rw[List.length_append,List.length_singleton] at e6;subst e6;have HO6:=hid ho6;have HK6:=hid hk6;have HN6:=hid hn6;clear ho6 hk6 hn6 hown hI hn hbase;go_wp2;refine OnlyN.mk (hK.out _ _ (e_8 (e_8 (e_8 (e_8 (e_1 ⟨rfl,rfl,{ H with hk:=fun h=>(by cases h),wa:=fun h=>absurd h (by rw[show b9=true from (H.o11 (H.o12 (by simp[hi]))).1];decide),wb:=fun _ h=>absurd h (by simp[hi]),wc:=fun _ h=>(by cases h),wd:=fun _ _=>⟨⟨X,c9,ins,out⟩,W9,Y,d6,rfl,rfl,HB9.out,HO9.out,HO6.out,HK6.out,HN6.out⟩,we:=fun h=>absurd h (by rw[H16.out];decide),o13:=fun _=>(by simp[hi]),o16:=fun h=>⟨rfl,(H.o16 h).2⟩ }⟩))))))
    ·obtain rfl:=H.h0 (by simp[hi]);refine wpOp_hidden rfl fun K hK=>?_;go_wp2;refine OnlyN.mk (hK.out _ _ (e_8 (e_8 (e_8 (e_8 (e_1 ⟨rfl,rfl,{ H with h14:=fun _=>rfl,o14:=fun _=>(by simp[hi]),o15:=fun h=>rfl }⟩))))))
    ·obtain rfl:=H.h14 (by simp[hi]);refine wpOp_hidden rfl fun K hK=>?_;go_wp2;refine OnlyN.mk (hK.out _ _ (e_8 (e_8 (e_8 (e_8 (e_1 ⟨rfl,rfl,{ H with h15:=fun _=>rfl,o15:=fun _=>(by simp[hi]),o16:=fun h=>⟨(H.o16 h).1,rfl⟩ }⟩))))))
    ·obtain rfl:=H.h15 (by simp[hi]);obtain⟨x,W9,Y,d6,e48,hx,hb9,ho9,ho6,hk6,hn6⟩:=H.wd (by simp[hi]) (by simp[hi]);subst e48;have hW9:=HW1.out.ext hb9;have b6:=hk6.blk hW9.blk (own_blk_ne' hW9.rr.1 hW9.blk (by decide));have cx6:=b6.cell_ 5 _ rfl;have fx6:=b6.frozen 5;obtain⟨hf1,hf2⟩:=hW9.pushR (own_down ho9 HW1.out.lt_size) ho6 hk6 hn6 (fun q e1 e2=>by have h1:=(own_lt' HW1.out.ir e1).1;have h2:=(own_lt' ho9 e2).2;omega);have HF1:=hid hf1;have HF2:=hid ((Mv.of_new (p:=p) (iv:=.slice (some ⟨g,0,none⟩) ins.length ic) (rv:=.slice rA rs.length rc) hb9).trans hf2);have HXX:=hid hx;clear hW9 b6 hf1 hf2 hx hb9 ho9 ho6 hk6 hn6;refine wpOp_hidden rfl fun K hK=>?_;go_wp2;refine OnlyN.mk (hK.out _ _ (e_8 (e_8 (e_8 (e_8 (e_1 ⟨rfl,rfl,{ H with hk:=fun h=>absurd h (by simp[hi]),wa:=fun h=>absurd h (by rw[show b9=true from (H.o11 (H.o12 (H.o13 (by simp[hi])).2)).1];decide),wb:=fun _ h=>absurd h (by rw[show b12=true from (H.o13 (by simp[hi])).2];decide),wc:=fun _ h=>absurd h (by simp[hi]),wd:=fun _ h=>(by cases h),we:=fun _=>⟨x,Y,d6,HXX.out,HF1.out,HF2.out⟩,o16:=fun _=>(by simp[hi]) }⟩))))))
   ·rintro listed act w' hr ⟨b0,b1,b2,b3,b4,b5,b6,b7,b8,b9,b10,b11,b12,b13,b14,b15,b16,v35,v36,v37,v38,v39,v40,v41,v42,v43,v44,v45,v46,v47,v48,v49,v50,rfl,rfl,H⟩;have hn:=List.eq_nil_iff_forall_not_mem.1 hr;have r0:=hn 0;simp[mem_ready,Region.binds] at r0;subst r0;have r1:=hn 1;simp[mem_ready,Region.binds] at r1;subst r1;have r2:=hn 2;simp[mem_ready,Region.binds] at r2;subst r2;have r3:=hn 3;simp[mem_ready,Region.binds] at r3;subst r3;have r4:=hn 4;simp[mem_ready,Region.binds] at r4;subst r4;have r5:=hn 5;simp[mem_ready,Region.binds] at r5;subst r5;have r6:=hn 6;simp[mem_ready,Region.binds] at r6;subst r6;have r7:=hn 7;simp[mem_ready,Region.binds] at r7;subst r7;have r8:=hn 8;simp[mem_ready,Region.binds] at r8;subst r8;have r9:=hn 9;simp[mem_ready,Region.binds] at r9;subst r9;have r10:=hn 10;simp[mem_ready,Region.binds] at r10;subst r10;have r11:=hn 11;simp[mem_ready,Region.binds] at r11;subst r11;have r12:=hn 12;simp[mem_ready,Region.binds] at r12;subst r12;have r13:=hn 13;simp[mem_ready,Region.binds] at r13;subst r13;have r14:=hn 14;simp[mem_ready,Region.binds] at r14;subst r14;have r15:=hn 15;simp[mem_ready,Region.binds] at r15;subst r15;have r16:=hn 16;simp[mem_ready,Region.binds] at r16;subst r16;try dsimp only
    obtain⟨x,Y,d6,hx,hf1,hf2⟩:=H.we rfl;obtain⟨v3,rfl⟩:∃ v3:World,v3=w':=⟨_,rfl⟩
    have HF1:=hid hf1;have HF2:=hid ((Mv.of_new (p:=p) (iv:=(.slice (some ⟨g,0,none⟩) ins.length ic)) (rv:=.slice rA rs.length rc) HB1.out).trans hf2);have HXX:=hid hx;have cc5:=hf1.blk.cell_ 5 (.slice Y (rs.length+1) d6) rfl;have htot:((rs ++ [x]).map Rh.rw_=rs.map Rh.rw_ ++ rowsT ns (cn:Int) 0 ins out):=by rw[rowsT_zero_f HS.out,List.map_append,List.map_singleton,hx]
    have HTOT:=hid htot;have hlen:(rs.map Rh.rw_ ++ rowsT ns (cn:Int) 0 ins out).length=rs.length+1:=by rw[← htot,List.length_map,List.length_append,List.length_singleton]
    have HLEN:=hid hlen;have hr9:rs.length+1≤9223372036854775807:=by have:=HH.out.2.2;omega
    clear H hr hn hx hf1 hf2 htot hlen;by_cases h4:rs.length+1≤400
    ·have d1:decide (((rs.length+1:Nat):Int)≤400)=true:=decide_eq_true (by omega);have d2:decide ((rs.length:Int)+1≤400)=true:=decide_eq_true (by omega);have H4:=hid h4;clear h4;go_wp2;go_ret;exact⟨true,_,_,_,ret_bool (by first | rfl | simp),HF1.out,fun _=>⟨HTOT.out,by rw[HLEN.out];exact H4.out⟩,fun h=>(by cases h),HF2.out⟩
    ·have d1:decide (((rs.length+1:Nat):Int)≤400)=false:=decide_eq_false (by omega);have d2:decide ((rs.length:Int)+1≤400)=false:=decide_eq_false (by omega);have H4:=hid h4;clear h4;go_wp2;go_ret;exact⟨false,_,_,_,ret_bool (by first | rfl | simp),HF1.out,fun h=>(by cases h),fun _=>by rw[HLEN.out];have:=H4.out;omega,HF2.out⟩
end Go.Proofs.YtlegfdllipkggaaGreatDoor
