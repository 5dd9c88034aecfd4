/-
  texts Step Push15: parts of the proof; conditions stand with each theorem.
-/
import Derived.Test.YtlegfdllipkggaaGreatDoorWG6
import Derived.Test.YtlegfdllipkggaaGreatDoorWG5
namespace Go.Proofs.YtlegfdllipkggaaGreatDoor
open Lib(hid)
open Go.RowKit Go.Maps
set_option maxRecDepth 100000
set_option linter.unusedVariables false
set_option linter.unusedSimpArgs false
theorem own_capI {w:World}{base:Nat}{v:Value}{zs:List Int}(h:OwnIA w base v zs)(hn:0 < zs.length):∃ g cap,v=.slice (some ⟨g,0,none⟩) zs.length cap∧zs.length≤cap:=by
 rcases h.2 with ⟨rfl,h0⟩ | ⟨g,cap,cur,rfl,h2⟩
 ·exact absurd hn (by omega)
 ·exact⟨g,cap,rfl,h2.2.2.1⟩
structure StpJ (V:World)(bs:Nat)(acc:List Int)(xv:Value)(z:Int)(p:Nat)(gB:Nat)(c0:Value)(c1:Value)(c2:Value)(c3:Value)(rv:Value)(rs:List Rh)(b0 b1 b2 b3 b4 b5 b6 b7 b8 b9 b10:Bool)(v8 v9 v10 v11 v12 v13 v14 v15 v16 v17:Value)(w:World):Prop where
 h0:b0=true→v8=.pointer (some ⟨p,0,none⟩)
 h1:b1=true→v9=.pointer (some ⟨p,0,none⟩)
 h2:b2=true→v10=.pointer (some ⟨p,0,none⟩)
 h3:b3=true→v11=.pointer (some ⟨p,4,none⟩)
 h4:b4=true→v12=xv
 h5:b5=true→v13=.int .i64 z
 h8:b8=true→v16=.pointer (some ⟨p,0,none⟩)
 h9:b9=true→v17=.pointer (some ⟨p,4,none⟩)
 hk:b7=false→∀ p:Addr,p.block < V.heap.size→w.cell? p=V.cell? p
 wa:b6=false→w=V.drew
 wb:b6=true→b7=false→v14=.slice (some ⟨V.heap.size,0,none⟩) 1 1∧w=V.drew.alloc (.cells #[.int .i64 z] 3)
 wc:b7=true→b10=false→∃ X c,v15=.slice X (acc.length+1) c∧OwnIA w bs (.slice X (acc.length+1) c) (acc ++ [z])∧Kept (fun g=>xv.ownBlock=some g) V w∧((Value.slice X (acc.length+1) c).ownBlock=xv.ownBlock∨∃ g,(Value.slice X (acc.length+1) c).ownBlock=some g∧V.heap.size≤g)
 wd:b10=true→∃ iv1,WkW bs p c0 c1 c2 c3 iv1 (acc ++ [z]) rv rs w∧Mv p xv rv V iv1 rv w
 ord2:b10=true→b7=true∧b9=true
 e0:b10=false→w.cell? ⟨gB,0,none⟩=V.cell? ⟨gB,0,none⟩
 o2:b2=true→b1=true
 o3:b3=true→b2=true
 o4:b4=true→b3=true
 o6:b6=true→b5=true
 o7:b7=true→b4=true∧b6=true
 o8:b8=true→b0=true
 o9:b9=true→b8=true
structure Stp3J (V:World)(p:Nat)(g:Nat)(nn:Nat)(ic2:Nat)(b0 b1 b2 b3 b4 b5 b6 b7 b8 b9:Bool)(v21 v22 v23 v24 v25 v26 v27 v28 v29:Value)(w:World):Prop where
 h0:b0=true→v21=.pointer (some ⟨p,0,none⟩)
 h1:b1=true→v22=.pointer (some ⟨p,0,none⟩)
 h2:b2=true→v23=.pointer (some ⟨p,0,none⟩)
 h3:b3=true→v24=.pointer (some ⟨p,4,none⟩)
 h4:b4=true→v25=.slice (some ⟨g,0,none⟩) (nn+1) ic2
 h5:b5=true→v26=.int .i64 (nn:Int)
 h6:b6=true→v27=.slice (some ⟨g,0,none⟩) nn ic2
 h7:b7=true→v28=.pointer (some ⟨p,0,none⟩)
 h8:b8=true→v29=.pointer (some ⟨p,4,none⟩)
 hk:b9=false→∀ p:Addr,w.cell? p=V.cell? p
 wa:b9=false→w=V.drew
 wd:b9=true→w=V.drew.setCell ⟨p,4,none⟩ (.slice (some ⟨g,0,none⟩) nn ic2)
 ord9:b9=true→b0=true∧b1=true∧b2=true∧b3=true∧b4=true∧b5=true∧b6=true∧b7=true∧b8=true
 o8:b8=true→b7=true
set_option maxHeartbeats 16000000 in
theorem step_any (B p gB gK:Nat)(c0 c1 c2 c3 iv:Value)(ins:List Int)(rv:Value)(rs:List Rh)(el nx:Int)(tot:List Rw)(w:World)(hW:WkW B p c0 c1 c2 c3 iv ins rv rs w)
  (h2:Blk w gB 68 #[.pointer (some ⟨p,0,none⟩)]) (h3:Blk w gK 3 #[.int .i64 (ins.length:Int)]) (n2:gB≠p) (n3:gK≠p) (a3:iv.ownBlock≠some gK) (hl:ins.length≤100)
  (hw:∀ iv1 w1,WkW B p c0 c1 c2 c3 iv1 (ins ++ [el]) rv rs w1→Mv p iv rv w iv1 rv w1→Calls Tryz.prog 43 #[.pointer (some ⟨p,0,none⟩),.int .i64 nx] w1 (WkPost B p c0 c1 c2 c3 (ins ++ [el]) tot iv1 rv w1)) :
  Calls Tryz.prog 61 #[.int .i64 el,.int .i64 nx,.pointer (some ⟨gB,0,none⟩),.pointer (some ⟨gK,0,none⟩)] w (WkPost B p c0 c1 c2 c3 ins tot iv rv w):=by
 obtain⟨iA,ic,ei,-,-⟩:=hW.ir.ints;subst ei;have HW:=hid hW;have H2:=hid h2;have H3:=hid h3;have HNE:=hid (And.intro n2 (And.intro n3 a3));have HWK:=hid hw;have HAL:Hid (ins.length < 1000000000000):=hid (by omega);have HOWN:=hid hW.ir;have HBS:=hid hW.lt_size;have HL2:Hid (gB < w.heap.size∧w.cell? ⟨gB,0,none⟩=some (.pointer (some ⟨p,0,none⟩))):=hid ⟨h2.lt,h2.cell_ 0 _ rfl⟩;have HLP:Hid (p < w.heap.size∧w.cell? ⟨p,4,none⟩=some (.slice iA ins.length ic)):=hid ⟨hW.blk.lt,hW.blk.cell_ 4 _ rfl⟩;have HE2:Hid (¬ (Value.slice iA ins.length ic).ownBlock=some gB):=hid (own_blk_ne' hW.ir h2 (by decide));clear hW h2 h3 n2 n3 a3 hw hl;go_enter Tryz.func61,Tryz.ntmps61;go_upto_region 1 with fail
 refine wp_region_J (by kernel_rfl) (fun listed act w'=>∃ b0 b1 b2 b3 b4 b5 b6 b7 b8 b9 b10 v8 v9 v10 v11 v12 v13 v14 v15 v16 v17,listed=#[b0,b1,b2,b3,b4,b5,b6,b7,b8,b9,b10]∧act=Act.mk #[.int .i64 el,.int .i64 nx,.pointer (some ⟨gB,0,none⟩),.pointer (some ⟨gK,0,none⟩),undef,undef,.bool false,undef,v8,v9,v10,v11,v12,v13,v14,v15,v16,v17,undef,undef,undef,undef,undef,undef,undef,undef,undef,undef,undef,undef,undef] []∧StpJ w B ins (.slice iA ins.length ic) el p gB c0 c1 c2 c3 rv rs b0 b1 b2 b3 b4 b5 b6 b7 b8 b9 b10 v8 v9 v10 v11 v12 v13 v14 v15 v16 v17 w') ?_ ?_ ?_
 ·exact (e_8 (e_8 (e_4 (e_1 ⟨rfl,rfl,(by constructor;(case hk=>exact (fun _ _ _=>rfl));(case wa=>exact (fun _=>rfl));(case e0=>exact (fun _=>rfl));all_goals simp)⟩))))
 ·rintro i listed act w' hi ⟨b0,b1,b2,b3,b4,b5,b6,b7,b8,b9,b10,v8,v9,v10,v11,v12,v13,v14,v15,v16,v17,rfl,rfl,H⟩;have hi16:i < 11:=by
   obtain⟨-,o,ho,-⟩:=mem_ready.1 hi;exact (Array.getElem?_eq_some_iff.1 ho).1
  obtain rfl | rfl | rfl | rfl | rfl | rfl | rfl | rfl | rfl | rfl | rfl:i=0∨i=1∨i=2∨i=3∨i=4∨i=5∨i=6∨i=7∨i=8∨i=9∨i=10:=by omega
  all_goals simp[mem_ready,Region.binds] at hi
  ·have bSf:b10=false:=by
    cases hb:b10 with
    | false=>rfl
    | true=>exact absurd (H.o8 (H.o9 (H.ord2 hb).2)) (by simp[hi])
   have cc:=(H.e0 bSf).trans HL2.out.2;clear bSf;refine wpOp_hidden rfl fun K hK=>?_;go_wp2;refine OnlyN.mk (hK.out _ _ (e_8 (e_8 (e_4 (e_1 ⟨rfl,rfl,{ H with h0:=fun _=>rfl,o8:=fun h=>rfl }⟩)))))
  ·have bAf:b7=false:=by
    cases hb:b7 with
    | false=>rfl
    | true=>exact absurd (H.o2 (H.o3 (H.o4 (H.o7 hb).1))) (by simp[hi])
   have cc:=(H.hk bAf ⟨gB,0,none⟩ HL2.out.1).trans HL2.out.2;clear bAf;refine wpOp_hidden rfl fun K hK=>?_;go_wp2;refine OnlyN.mk (hK.out _ _ (e_8 (e_8 (e_4 (e_1 ⟨rfl,rfl,{ H with h1:=fun _=>rfl,o2:=fun h=>rfl }⟩)))))
  ·obtain rfl:=H.h1 (by simp[hi]);refine wpOp_hidden rfl fun K hK=>?_;go_wp2;refine OnlyN.mk (hK.out _ _ (e_8 (e_8 (e_4 (e_1 ⟨rfl,rfl,{ H with h2:=fun _=>rfl,o2:=fun _=>(by simp[hi]),o3:=fun h=>rfl }⟩)))))
  ·obtain rfl:=H.h2 (by simp[hi]);refine wpOp_hidden rfl fun K hK=>?_;go_wp2;refine OnlyN.mk (hK.out _ _ (e_8 (e_8 (e_4 (e_1 ⟨rfl,rfl,{ H with h3:=fun _=>rfl,o3:=fun _=>(by simp[hi]),o4:=fun h=>rfl }⟩)))))
  ·have bAf:b7=false:=by
    cases hb:b7 with
    | false=>rfl
    | true=>exact absurd (H.o7 hb).1 (by simp[hi])
   obtain rfl:=H.h3 (by simp[hi]);have cc:=(H.hk bAf ⟨p,4,none⟩ HLP.out.1).trans HLP.out.2;clear bAf;refine wpOp_hidden rfl fun K hK=>?_;go_wp2;refine OnlyN.mk (hK.out _ _ (e_8 (e_8 (e_4 (e_1 ⟨rfl,rfl,{ H with h4:=fun _=>rfl,o4:=fun _=>(by simp[hi]),o7:=fun h=>⟨rfl,(H.o7 h).2⟩ }⟩)))))
  ·refine wpOp_hidden rfl fun K hK=>?_;go_wp2;refine OnlyN.mk (hK.out _ _ (e_8 (e_8 (e_4 (e_1 ⟨rfl,rfl,{ H with h5:=fun _=>rfl,o6:=fun h=>rfl }⟩)))))
  ·have bAf:b7=false:=by
    cases hb:b7 with
    | false=>rfl
    | true=>exact absurd (H.o7 hb).2 (by simp[hi])
   obtain rfl:=H.h5 (by simp[hi]);have hw:=H.wa (by simp[hi]);have hA:=bAf;subst hw;clear bAf;refine wpOp_hidden rfl fun K hK=>?_;go_wp2;refine OnlyN.mk (hK.out _ _ (e_8 (e_8 (e_4 (e_1 ⟨rfl,rfl,{ H with hk:=fun _ p hp=>World.cell?_alloc_lt w _ p hp,wa:=fun h=>(by cases h),wb:=fun _ _=>⟨rfl,rfl⟩,wc:=fun h=>absurd h (by rw[hA];decide),wd:=fun h=>absurd (H.ord2 h).1 (by rw[hA];decide),e0:=fun _=>World.cell?_alloc_lt w _ _ HL2.out.1,o6:=fun _=>(by simp[hi]),o7:=fun h=>⟨(H.o7 h).1,rfl⟩ }⟩)))))
  ·obtain rfl:=H.h4 (by simp[hi]);obtain⟨hv,hw⟩:=H.wb (by simp[hi]) (by simp[hi]);obtain⟨Vd,hVd⟩:∃ Vd,Vd=World.drew w:=⟨_,rfl⟩
   have hsz:w.heap.size=Vd.heap.size:=by rw[hVd];rfl
   rw[← hVd] at hw;rw[hsz] at hv;subst hw;subst hv;have hown:OwnIA Vd B (.slice iA ins.length ic) ins:=by rw[hVd];exact HOWN.out
   have hal:=HAL.out;have hws:B≤Vd.heap.size:=by rw[← hsz];exact HBS.out
   have HVD:=hid hVd;have HSZ:=hid hsz;clear hVd hsz;refine wpOp_hidden rfl fun K hK=>?_;refine wpList_pushIk rfl _ _ _ rfl B 3 Tryz.underlying38 Tryz.infoInt _ _ rfl hown _ rfl hal hws ?_;intro xv' w6 ho6 hk6 hm6;obtain⟨xA',xc',hxv',-,-⟩:=ho6.ints;rw[List.length_append,List.length_singleton] at hxv';subst hxv';have HO6:=hid ho6;have HK6:Hid (Kept (fun g=>Value.ownBlock (.slice iA ins.length ic)=some g) w w6):=hid (Kept.trans (by rw[HVD.out];exact (Kept.refl _ w).drew) hk6);have HM6:Hid ((Value.slice xA' (ins.length+1) xc').ownBlock=Value.ownBlock (.slice iA ins.length ic)∨∃ g,(Value.slice xA' (ins.length+1) xc').ownBlock=some g∧w.heap.size≤g):=hid (by rw[HSZ.out];exact hm6);clear ho6 hk6 hm6 hown hal hws;go_wp2;refine OnlyN.mk (hK.out _ _ (e_8 (e_8 (e_4 (e_1 ⟨rfl,rfl,{ H with hk:=fun h=>(by cases h),wa:=fun h=>absurd h (by simp[hi]),wb:=fun _ h=>(by cases h),wc:=fun _ _=>⟨_,_,rfl,HO6.out,HK6.out,HM6.out⟩,wd:=fun h=>absurd (H.ord2 h).1 (by simp[hi]),ord2:=fun h=>⟨rfl,(H.ord2 h).2⟩,e0:=fun _=>HK6.out.cell HL2.out.1 HE2.out,o7:=fun _=>(by simp[hi]) }⟩)))))
  ·obtain rfl:=H.h0 (by simp[hi]);refine wpOp_hidden rfl fun K hK=>?_;go_wp2;refine OnlyN.mk (hK.out _ _ (e_8 (e_8 (e_4 (e_1 ⟨rfl,rfl,{ H with h8:=fun _=>rfl,o8:=fun _=>(by simp[hi]),o9:=fun h=>rfl }⟩)))))
  ·obtain rfl:=H.h8 (by simp[hi]);refine wpOp_hidden rfl fun K hK=>?_;go_wp2;refine OnlyN.mk (hK.out _ _ (e_8 (e_8 (e_4 (e_1 ⟨rfl,rfl,{ H with h9:=fun _=>rfl,ord2:=fun h=>⟨(H.ord2 h).1,rfl⟩,o9:=fun _=>(by simp[hi]) }⟩)))))
  ·obtain rfl:=H.h9 (by simp[hi]);obtain⟨xA',xc',hv,ho6,hk6,hm6⟩:=H.wc (by simp[hi]) (by simp[hi]);subst hv;have b6:=hk6.blk HW.out.blk (own_blk_ne' HW.out.ir HW.out.blk (by decide));have cx6:=b6.cell_ 4 _ rfl;have fx6:=b6.frozen 4;clear b6;have HPOST:=hid (HW.out.pushI ho6 hk6 hm6);clear ho6 hk6 hm6;refine wpOp_hidden rfl fun K hK=>?_;go_wp2;refine OnlyN.mk (hK.out _ _ (e_8 (e_8 (e_4 (e_1 ⟨rfl,rfl,{ H with hk:=fun h=>absurd h (by simp[hi]),wa:=fun h=>absurd h (by simp[hi]),wb:=fun _ h=>absurd h (by simp[hi]),wc:=fun _ h=>(by cases h),wd:=fun _=>⟨_,HPOST.out⟩,ord2:=fun _=>(by simp[hi]),e0:=fun h=>(by cases h) }⟩)))))
 ·rintro listed act w' hr ⟨b0,b1,b2,b3,b4,b5,b6,b7,b8,b9,b10,v8,v9,v10,v11,v12,v13,v14,v15,v16,v17,rfl,rfl,H⟩;have hn:=List.eq_nil_iff_forall_not_mem.1 hr;have r0:=hn 0;simp[mem_ready,Region.binds] at r0;subst r0;have r1:=hn 1;simp[mem_ready,Region.binds] at r1;subst r1;have r2:=hn 2;simp[mem_ready,Region.binds] at r2;subst r2;have r3:=hn 3;simp[mem_ready,Region.binds] at r3;subst r3;have r4:=hn 4;simp[mem_ready,Region.binds] at r4;subst r4;have r5:=hn 5;simp[mem_ready,Region.binds] at r5;subst r5;have r6:=hn 6;simp[mem_ready,Region.binds] at r6;subst r6;have r7:=hn 7;simp[mem_ready,Region.binds] at r7;subst r7;have r8:=hn 8;simp[mem_ready,Region.binds] at r8;subst r8;have r9:=hn 9;simp[mem_ready,Region.binds] at r9;subst r9;have r10:=hn 10;simp[mem_ready,Region.binds] at r10;subst r10;try dsimp only
  obtain⟨iv1,hw1,hm1⟩:=H.wd rfl;obtain⟨v1,rfl⟩:∃ v1:World,v1=w':=⟨_,rfl⟩
  have HW1:=hid hw1;have HM1:=hid hm1;clear H hr hn hw1 hm1 HOWN HAL HBS HL2 HLP;have HN2:Hid (∀ iv' rv' w1,Mv p (.slice iA ins.length ic) rv w iv' rv' w1→Blk w1 gB 68 #[.pointer (some ⟨p,0,none⟩)]∧Blk w1 gK 3 #[.int .i64 (ins.length:Int)]):=hid (fun iv' rv' w1 m=>
   ⟨m.blk H2.out HNE.out.1 HE2.out (own_blk_ne' HW.out.rr.1 H2.out (by decide)),m.blk H3.out HNE.out.2.1 HNE.out.2.2 (own_blk_ne' HW.out.rr.1 H3.out (by decide))⟩)
  have hcall:=HWK.out iv1 v1 HW1.out HM1.out;have HCALL:=hid hcall;have cB:=(HN2.out _ _ _ HM1.out).1.cell_ 0 (.pointer (some ⟨p,0,none⟩)) rfl;clear hcall HWK;go_wp2_with (go_at_call 43;refine HCALL.out.mono ?_;rintro e v2 ⟨b,iv2,rv2,rs2,rfl,hw2,ht2,hf2,hm2⟩;refine Hid.out ?_);refine hid ?_;obtain⟨g,ic2,e2,hcap⟩:=own_capI hw2.ir (by rw[List.length_append,List.length_singleton];exact Nat.succ_pos _);rw[List.length_append,List.length_singleton] at e2 hcap;subst e2;have HM2:=hid (HM1.out.trans hm2);have HW2:=hid hw2;have HT2:=hid (And.intro ht2 hf2);have HCAP:=hid hcap;have HLB:Hid (v2.cell? ⟨gB,0,none⟩=some (.pointer (some ⟨p,0,none⟩))∧v2.cell? ⟨gK,0,none⟩=some (.int .i64 (ins.length:Int))):=hid ⟨(HN2.out _ _ _ HM2.out).1.cell_ 0 _ rfl,(HN2.out _ _ _ HM2.out).2.cell_ 0 _ rfl⟩;have HLI:Hid (v2.cell? ⟨p,4,none⟩=some (.slice (some ⟨g,0,none⟩) (ins.length+1) ic2)∧v2.frozen? ⟨p,4,none⟩=false):=hid ⟨hw2.blk.cell_ 4 _ rfl,hw2.blk.frozen 4⟩;clear cB hw2 ht2 hf2 hm2 hcap HCALL HN2;go_upto_region 3 with fail
  refine wp_region_J (by kernel_rfl) (fun listed act w'=>∃ b0 b1 b2 b3 b4 b5 b6 b7 b8 b9 v21 v22 v23 v24 v25 v26 v27 v28 v29,listed=#[b0,b1,b2,b3,b4,b5,b6,b7,b8,b9]∧act=Act.mk #[.int .i64 el,.int .i64 nx,.pointer (some ⟨gB,0,none⟩),.pointer (some ⟨gK,0,none⟩),undef,undef,.bool false,.bool b,v8,v9,v10,v11,v12,v13,v14,v15,v16,v17,.pointer (some ⟨p,0,none⟩),.int .i64 nx,.bool b,v21,v22,v23,v24,v25,v26,v27,v28,v29,undef] []∧Stp3J v2 p g ins.length ic2 b0 b1 b2 b3 b4 b5 b6 b7 b8 b9 v21 v22 v23 v24 v25 v26 v27 v28 v29 w') ?_ ?_ ?_
  ·exact (e_8 (e_8 (e_2 (e_1 ⟨rfl,rfl,(by constructor;(case hk=>exact (fun _ _=>rfl));(case wa=>exact (fun _=>rfl));all_goals simp)⟩))))
  ·rintro i listed act w' hi ⟨b0,b1,b2,b3,b4,b5,b6,b7,b8,b9,v21,v22,v23,v24,v25,v26,v27,v28,v29,rfl,rfl,H⟩;have hi16:i < 10:=by
    obtain⟨-,o,ho,-⟩:=mem_ready.1 hi;exact (Array.getElem?_eq_some_iff.1 ho).1
   obtain rfl | rfl | rfl | rfl | rfl | rfl | rfl | rfl | rfl | rfl:i=0∨i=1∨i=2∨i=3∨i=4∨i=5∨i=6∨i=7∨i=8∨i=9:=by omega
   all_goals simp[mem_ready,Region.binds] at hi
   ·have b9f:b9=false:=by
     cases hb:b9 with
     | false=>rfl
     | true=>exact absurd (H.ord9 hb).1 (by simp[hi])
    have cc:=(H.hk b9f ⟨gB,0,none⟩).trans HLB.out.1;clear b9f;refine wpOp_hidden rfl fun K hK=>?_;go_wp2;refine OnlyN.mk (hK.out _ _ (e_8 (e_8 (e_2 (e_1 ⟨rfl,rfl,{ H with h0:=fun _=>rfl,ord9:=fun h=>⟨rfl,(H.ord9 h).2.1,(H.ord9 h).2.2.1,(H.ord9 h).2.2.2.1,(H.ord9 h).2.2.2.2.1,(H.ord9 h).2.2.2.2.2.1,(H.ord9 h).2.2.2.2.2.2.1,(H.ord9 h).2.2.2.2.2.2.2.1,(H.ord9 h).2.2.2.2.2.2.2.2⟩ }⟩)))))
   ·have b9f:b9=false:=by
     cases hb:b9 with
     | false=>rfl
     | true=>exact absurd (H.ord9 hb).2.1 (by simp[hi])
    have cc:=(H.hk b9f ⟨gB,0,none⟩).trans HLB.out.1;clear b9f;refine wpOp_hidden rfl fun K hK=>?_;go_wp2;refine OnlyN.mk (hK.out _ _ (e_8 (e_8 (e_2 (e_1 ⟨rfl,rfl,{ H with h1:=fun _=>rfl,ord9:=fun h=>⟨(H.ord9 h).1,rfl,(H.ord9 h).2.2.1,(H.ord9 h).2.2.2.1,(H.ord9 h).2.2.2.2.1,(H.ord9 h).2.2.2.2.2.1,(H.ord9 h).2.2.2.2.2.2.1,(H.ord9 h).2.2.2.2.2.2.2.1,(H.ord9 h).2.2.2.2.2.2.2.2⟩ }⟩)))))
   ·have b9f:b9=false:=by
     cases hb:b9 with
     | false=>rfl
     | true=>exact absurd (H.ord9 hb).2.2.1 (by simp[hi])
    obtain rfl:=H.h1 (by simp[hi]);clear b9f;refine wpOp_hidden rfl fun K hK=>?_;go_wp2;refine OnlyN.mk (hK.out _ _ (e_8 (e_8 (e_2 (e_1 ⟨rfl,rfl,{ H with h2:=fun _=>rfl,ord9:=fun h=>⟨(H.ord9 h).1,(H.ord9 h).2.1,rfl,(H.ord9 h).2.2.2.1,(H.ord9 h).2.2.2.2.1,(H.ord9 h).2.2.2.2.2.1,(H.ord9 h).2.2.2.2.2.2.1,(H.ord9 h).2.2.2.2.2.2.2.1,(H.ord9 h).2.2.2.2.2.2.2.2⟩ }⟩)))))
   ·have b9f:b9=false:=by
     cases hb:b9 with
     | false=>rfl
     | true=>exact absurd (H.ord9 hb).2.2.2.1 (by simp[hi])
    obtain rfl:=H.h2 (by simp[hi]);clear b9f;refine wpOp_hidden rfl fun K hK=>?_;go_wp2;refine OnlyN.mk (hK.out _ _ (e_8 (e_8 (e_2 (e_1 ⟨rfl,rfl,{ H with h3:=fun _=>rfl,ord9:=fun h=>⟨(H.ord9 h).1,(H.ord9 h).2.1,(H.ord9 h).2.2.1,rfl,(H.ord9 h).2.2.2.2.1,(H.ord9 h).2.2.2.2.2.1,(H.ord9 h).2.2.2.2.2.2.1,(H.ord9 h).2.2.2.2.2.2.2.1,(H.ord9 h).2.2.2.2.2.2.2.2⟩ }⟩)))))
   ·have b9f:b9=false:=by
     cases hb:b9 with
     | false=>rfl
     | true=>exact absurd (H.ord9 hb).2.2.2.2.1 (by simp[hi])
    obtain rfl:=H.h3 (by simp[hi]);have cc:=(H.hk b9f ⟨p,4,none⟩).trans HLI.out.1;clear b9f;refine wpOp_hidden rfl fun K hK=>?_;go_wp2;refine OnlyN.mk (hK.out _ _ (e_8 (e_8 (e_2 (e_1 ⟨rfl,rfl,{ H with h4:=fun _=>rfl,ord9:=fun h=>⟨(H.ord9 h).1,(H.ord9 h).2.1,(H.ord9 h).2.2.1,(H.ord9 h).2.2.2.1,rfl,(H.ord9 h).2.2.2.2.2.1,(H.ord9 h).2.2.2.2.2.2.1,(H.ord9 h).2.2.2.2.2.2.2.1,(H.ord9 h).2.2.2.2.2.2.2.2⟩ }⟩)))))
   ·have b9f:b9=false:=by
     cases hb:b9 with
     | false=>rfl
     | true=>exact absurd (H.ord9 hb).2.2.2.2.2.1 (by simp[hi])
    have cc:=(H.hk b9f ⟨gK,0,none⟩).trans HLB.out.2;clear b9f;refine wpOp_hidden rfl fun K hK=>?_;go_wp2;refine OnlyN.mk (hK.out _ _ (e_8 (e_8 (e_2 (e_1 ⟨rfl,rfl,{ H with h5:=fun _=>rfl,ord9:=fun h=>⟨(H.ord9 h).1,(H.ord9 h).2.1,(H.ord9 h).2.2.1,(H.ord9 h).2.2.2.1,(H.ord9 h).2.2.2.2.1,rfl,(H.ord9 h).2.2.2.2.2.2.1,(H.ord9 h).2.2.2.2.2.2.2.1,(H.ord9 h).2.2.2.2.2.2.2.2⟩ }⟩)))))
   ·have b9f:b9=false:=by
     cases hb:b9 with
     | false=>rfl
     | true=>exact absurd (H.ord9 hb).2.2.2.2.2.2.1 (by simp[hi])
    obtain rfl:=H.h4 (by simp[hi]);obtain rfl:=H.h5 (by simp[hi]);have hcap:=HCAP.out;have hcap2:ins.length≤ic2:=Nat.le_of_succ_le hcap;clear b9f;refine wpOp_hidden rfl fun K hK=>?_;go_wp2;refine OnlyN.mk (hK.out _ _ (e_8 (e_8 (e_2 (e_1 ⟨rfl,rfl,{ H with h6:=fun _=>rfl,ord9:=fun h=>⟨(H.ord9 h).1,(H.ord9 h).2.1,(H.ord9 h).2.2.1,(H.ord9 h).2.2.2.1,(H.ord9 h).2.2.2.2.1,(H.ord9 h).2.2.2.2.2.1,rfl,(H.ord9 h).2.2.2.2.2.2.2.1,(H.ord9 h).2.2.2.2.2.2.2.2⟩ }⟩)))))
   ·have b9f:b9=false:=by
     cases hb:b9 with
     | false=>rfl
     | true=>exact absurd (H.ord9 hb).2.2.2.2.2.2.2.1 (by simp[hi])
    obtain rfl:=H.h0 (by simp[hi]);clear b9f;refine wpOp_hidden rfl fun K hK=>?_;go_wp2;refine OnlyN.mk (hK.out _ _ (e_8 (e_8 (e_2 (e_1 ⟨rfl,rfl,{ H with h7:=fun _=>rfl,ord9:=fun h=>⟨(H.ord9 h).1,(H.ord9 h).2.1,(H.ord9 h).2.2.1,(H.ord9 h).2.2.2.1,(H.ord9 h).2.2.2.2.1,(H.ord9 h).2.2.2.2.2.1,(H.ord9 h).2.2.2.2.2.2.1,rfl,(H.ord9 h).2.2.2.2.2.2.2.2⟩,o8:=fun _=>rfl }⟩)))))
   ·have b9f:b9=false:=by
     cases hb:b9 with
     | false=>rfl
     | true=>exact absurd (H.ord9 hb).2.2.2.2.2.2.2.2 (by simp[hi])
    obtain rfl:=H.h7 (by simp[hi]);clear b9f;refine wpOp_hidden rfl fun K hK=>?_;go_wp2;refine OnlyN.mk (hK.out _ _ (e_8 (e_8 (e_2 (e_1 ⟨rfl,rfl,{ H with h8:=fun _=>rfl,ord9:=fun h=>⟨(H.ord9 h).1,(H.ord9 h).2.1,(H.ord9 h).2.2.1,(H.ord9 h).2.2.2.1,(H.ord9 h).2.2.2.2.1,(H.ord9 h).2.2.2.2.2.1,(H.ord9 h).2.2.2.2.2.2.1,(H.ord9 h).2.2.2.2.2.2.2.1,rfl⟩,o8:=fun _=>(by simp[hi]) }⟩)))))
   ·obtain rfl:=H.h6 (by simp[hi]);obtain rfl:=H.h8 (by simp[hi]);have hw:=H.wa (by simp[hi]);subst hw;have cc:(World.drew v2).cell? ⟨p,4,none⟩=some (.slice (some ⟨g,0,none⟩) (ins.length+1) ic2):=HLI.out.1;have cf:(World.drew v2).frozen? ⟨p,4,none⟩=false:=HLI.out.2;refine wpOp_hidden rfl fun K hK=>?_;go_wp2;refine OnlyN.mk (hK.out _ _ (e_8 (e_8 (e_2 (e_1 ⟨rfl,rfl,{ H with hk:=fun h=>(by cases h),wa:=fun h=>(by cases h),wd:=fun _=>rfl,ord9:=fun _=>⟨(by simp[hi]),(by simp[hi]),(by simp[hi]),(by simp[hi]),(by simp[hi]),(by simp[hi]),(by simp[hi]),H.o8 (by simp[hi]),(by simp[hi])⟩ }⟩)))))
  ·rintro listed act w' hr ⟨b0,b1,b2,b3,b4,b5,b6,b7,b8,b9,v21,v22,v23,v24,v25,v26,v27,v28,v29,rfl,rfl,H⟩;have hn:=List.eq_nil_iff_forall_not_mem.1 hr;have r0:=hn 0;simp[mem_ready,Region.binds] at r0;subst r0;have r1:=hn 1;simp[mem_ready,Region.binds] at r1;subst r1;have r2:=hn 2;simp[mem_ready,Region.binds] at r2;subst r2;have r3:=hn 3;simp[mem_ready,Region.binds] at r3;subst r3;have r4:=hn 4;simp[mem_ready,Region.binds] at r4;subst r4;have r5:=hn 5;simp[mem_ready,Region.binds] at r5;subst r5;have r6:=hn 6;simp[mem_ready,Region.binds] at r6;subst r6;have r7:=hn 7;simp[mem_ready,Region.binds] at r7;subst r7;have r8:=hn 8;simp[mem_ready,Region.binds] at r8;subst r8;have r9:=hn 9;simp[mem_ready,Region.binds] at r9;subst r9;try dsimp only
   have hwd:=H.wd rfl;obtain⟨v3,rfl⟩:∃ v3:World,v3=w':=⟨_,rfl⟩
   have hdr:Below v2.heap.size v2 (World.drew v2):=(Below.refl _ v2).drew;obtain⟨hw3,hm3⟩:=(HW2.out.ext hdr).cutI (m:=ins.length) (by rw[List.length_append,List.length_singleton]) (Nat.le_succ _);rw[List.take_left' rfl,← hwd] at hw3;rw[← hwd] at hm3;have HW3:=hid hw3;have HM3:=hid (HM2.out.trans ((Mv.of_new hdr).trans hm3));clear H hr hn hwd hdr hw3 hm3;go_wp2;go_ret;exact⟨b,_,rv2,rs2,rfl,HW3.out,HT2.out.1,HT2.out.2,HM3.out⟩
end Go.Proofs.YtlegfdllipkggaaGreatDoor
namespace Go.Proofs.YtlegfdllipkggaaGreatDoor
set_option linter.unusedSimpArgs false
open Go.RowKit Go.Maps
set_option maxRecDepth 100000
set_option linter.unusedVariables false

theorem Tryz.infoRow:(Tryz.prog.info? 43).map (fun i=>(i.zero,i.size,i.bytes))=some (some (.agg #[.slice none 0 0,.int .i64 0]),2,32):=by kernel_rfl
theorem Tryz.infoInts15:(Tryz.prog.info? 38).map (fun i=>(i.zero,i.size,i.bytes))=some (some (.slice none 0 0),1,24):=by kernel_rfl
theorem wpList_pushR {P:Program}{wr:World}{ops:Array Oper}{rest:List Oper}{o:Oper}{a:Act}{Q:Exit→Act→World→Prop}(hgd:o.guard=none)(s x:Operand)(t:TypeId)
  (ho:o.op=.call { callee:=.builtin .append,args:=#[s,x],argTypes:=#[t,t] })
  (base:Nat) (T I:TypeId) (hTI:I≠T) (ht:P.underlying t=some (.slice T)) (hi:(P.info? T).map (fun i=>(i.zero,i.size,i.bytes))=some (some (.agg #[.slice none 0 0,.int .i64 0]),2,32))
  (v:Value) (hs:List Rh) (hse:a.eval s=v) (hown:OwnR T I wr base v hs)
  (A:Option Addr) (c:Nat) (zs:List Int) (out:Int) (hI:OwnI I wr base (.slice A zs.length c) zs) (hx:a.eval x=.slice (some ⟨wr.heap.size,0,none⟩) 1 1)
  (hn:hs.length < 1000000000000) (hbase:base≤wr.heap.size)
  (h:∀ v' w',OwnR T I w' base v' (hs ++ [⟨A,c,zs,out⟩])→Kept (fun g=>v.ownBlock=some g) wr w'→(v'.ownBlock=v.ownBlock∨∃ g,v'.ownBlock=some g∧wr.heap.size≤g)→wpList P ops Q rest (a.put o.dst v') w') :
  wpList P ops Q (o :: rest) a (wr.alloc (.cells #[.slice A zs.length c,.int .i64 out] T)):=by
 obtain⟨i0,hi0,hz0,hz1,hz2⟩:=info_parts hi;refine wpList_append_own_at _ hgd s x t ho base T i0 _ 2 32 ht hi0 hz0 hz1 hz2 rfl (by decide) v hs.length _ hse (hown.1.alloc _) ⟨wr.heap.size,0,none⟩ 1 1 [.slice A zs.length c,.int .i64 out] hx (by simp) ?_ (by simp[Value.oneCell']) (by unfold maxLen;omega) (by omega) (by simp;omega) ?_
 ·intro j u hu;rw[addr_add];have:(wr.alloc (.cells #[.slice A zs.length c,.int .i64 out] T)).cell? ⟨wr.heap.size,0+j,none⟩=#[Value.slice A zs.length c,.int .i64 out][0+j]?:=cell_of_row _ _ _ _ _ _ (heap_alloc_new wr _);rw[this];simpa using hu
 ·intro v' w' hown' hg _ hat;have hk:Kept (fun g=>v.ownBlock=some g) wr w':=((Kept.refl _ wr).alloc _).grown hg fun g hg=>Or.inl hg;refine h v' w' ⟨?_,fun y hy=>?_⟩ hk ?_
  ·rw[List.length_append,List.flatMap_append];exact hown'
  ·have hy1:OwnI I wr base y.val y.zs:=by
    rcases List.mem_append.1 hy with hy | hy
    ·exact hown.2 y hy
    ·rw[List.mem_singleton] at hy;subst hy;exact hI
   exact hk.own hy1 fun g hg hv=>own_ne hy1 hown.1 hTI hg hv
  ·rcases hat with hat | hat
   ·exact .inl hat
   ·exact .inr ⟨_,hat,by simp⟩
theorem wpList_pushV {P:Program}{wr:World}{ops:Array Oper}{rest:List Oper}{o:Oper}{a:Act}{Q:Exit→Act→World→Prop}(hgd:o.guard=none)(s x:Operand)(t:TypeId)
  (ho:o.op=.call { callee:=.builtin .append,args:=#[s,x],argTypes:=#[t,t] })
  (base:Nat) (T I:TypeId) (hTI:I≠T) (ht:P.underlying t=some (.slice T)) (hi:(P.info? T).map (fun i=>(i.zero,i.size,i.bytes))=some (some (.slice none 0 0),1,24))
  (v:Value) (hs:List Vh) (hse:a.eval s=v) (hown:OwnV T I wr base v hs)
  (A:Option Addr) (c:Nat) (zs:List Int) (hI:OwnI I wr base (.slice A zs.length c) zs) (hx:a.eval x=.slice (some ⟨wr.heap.size,0,none⟩) 1 1)
  (hn:hs.length < 1000000000000) (hbase:base≤wr.heap.size)
  (h:∀ v' w',OwnV T I w' base v' (hs ++ [⟨A,c,zs⟩])→Kept (fun g=>v.ownBlock=some g) wr w'→(v'.ownBlock=v.ownBlock∨∃ g,v'.ownBlock=some g∧wr.heap.size≤g)→wpList P ops Q rest (a.put o.dst v') w') :
  wpList P ops Q (o :: rest) a (wr.alloc (.cells #[.slice A zs.length c] T)):=by
 obtain⟨i0,hi0,hz0,hz1,hz2⟩:=info_parts hi;refine wpList_append_own_at _ hgd s x t ho base T i0 _ 1 24 ht hi0 hz0 hz1 hz2 rfl (by decide) v hs.length _ hse (hown.1.alloc _) ⟨wr.heap.size,0,none⟩ 1 1 [.slice A zs.length c] hx (by simp) ?_ (by simp[Value.oneCell']) (by unfold maxLen;omega) (by omega) (by simp;omega) ?_
 ·intro j u hu;rw[addr_add];have:(wr.alloc (.cells #[.slice A zs.length c] T)).cell? ⟨wr.heap.size,0+j,none⟩=#[Value.slice A zs.length c][0+j]?:=cell_of_row _ _ _ _ _ _ (heap_alloc_new wr _);rw[this];simpa using hu
 ·intro v' w' hown' hg _ hat;have hk:Kept (fun g=>v.ownBlock=some g) wr w':=((Kept.refl _ wr).alloc _).grown hg fun g hg=>Or.inl hg;refine h v' w' ⟨?_,fun y hy=>?_⟩ hk ?_
  ·rw[List.length_append,List.flatMap_append];exact hown'
  ·have hy1:OwnI I wr base y.val y.zs:=by
    rcases List.mem_append.1 hy with hy | hy
    ·exact hown.2 y hy
    ·rw[List.mem_singleton] at hy;subst hy;exact hI
   exact hk.own hy1 fun g hg hv=>own_ne hy1 hown.1 hTI hg hv
  ·rcases hat with hat | hat
   ·exact .inl hat
   ·exact .inr ⟨_,hat,by simp⟩
theorem wpList_copyI {P:Program}{wr:World}{ops:Array Oper}{rest:List Oper}{o:Oper}{a:Act}{Q:Exit→Act→World→Prop}(hgd:o.guard=none)(s x:Operand)(t:TypeId)
  (ho:o.op=.call { callee:=.builtin .append,args:=#[s,x],argTypes:=#[t,t] })
  (e:TypeId) (ht:P.underlying t=some (.slice e)) (hi:(P.info? e).map (fun i=>(i.zero,i.size,i.bytes))=some (some (.int .i64 0),1,8))
  (hs:a.eval s=.slice none 0 0) (b oo c:Nat) (zs:List Int) (hz:Ints wr (some ⟨b,oo,none⟩) zs) (hx:a.eval x=.slice (some ⟨b,oo,none⟩) zs.length c) (hn:zs.length < 1000000000000)
  (h:∀ v' w',OwnI e w' wr.heap.size v' zs→Below wr.heap.size wr w'→wpList P ops Q rest (a.put o.dst v') w') :
  wpList P ops Q (o :: rest) a wr:=by
 obtain⟨i0,hi0,hz0,hz1,hz2⟩:=info_parts hi;refine wpList_append_own _ hgd s x t ho wr.heap.size e i0 _ 1 8 ht hi0 hz0 hz1 hz2 rfl (by decide) (.slice none 0 0) 0 [] hs (OwnI.nil e wr wr.heap.size) ⟨b,oo,none⟩ zs.length c (zs.map (Value.int .i64)) hx ?_ ?_ ?_ ?_ ?_ (Nat.le_refl _) ?_
 ·exact hz.1.1
 ·intro j u hj;have hl:0 < zs.length:=by
   have h1:=(List.getElem?_eq_some_iff.1 hj).1;rw[List.length_map] at h1;omega
  obtain⟨ad',e',_,h'⟩:=hz.1.2 hl;injection e' with e'
  subst e';exact h' j u hj
 ·intro u hu;obtain⟨z,-,rfl⟩:=List.mem_map.1 hu;rfl
 ·unfold maxLen;omega
 ·omega
 ·intro v' w1 hown hgrow hnil;refine h v' w1 (by unfold OwnI;simpa using hown) ((Below.refl _ wr).grown hgrow (Nat.le_refl _) (by intro k hk;cases hk))
end Go.Proofs.YtlegfdllipkggaaGreatDoor
