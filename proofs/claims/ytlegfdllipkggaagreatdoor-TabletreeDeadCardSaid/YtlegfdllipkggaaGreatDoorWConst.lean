/-
  texts Const: parts of the proof; conditions stand with each theorem.
-/
import Derived.Test.YtlegfdllipkggaaGreatDoorWG17
import Derived.Test.YtlegfdllipkggaaGreatDoorWG5
import Derived.Test.YtlegfdllipkggaaGreatDoorWG2
namespace Go.Proofs.YtlegfdllipkggaaGreatDoor
open Lib(hid)
open Go.RowKit
set_option maxRecDepth 100000
set_option linter.unusedVariables false
set_option linter.unusedSimpArgs false
def ApcPost (V:World)(bs:Nat)(acc:List Hd)(xv:Value)(lv:Int)(zs:List Int)(T:Nat)(h0 h1:Value)(w':World):Prop:=
 ∃ X c zA zc,Blk w' T 31 #[h0,h1,.slice X (acc.length+1) c]∧OwnNA w' bs (.slice X (acc.length+1) c) (acc ++ [⟨lv,zA,zc,zs⟩])∧Kept (fun g=>xv.ownBlock=some g∨g=T) V w'∧∀ g,(Value.slice zA zs.length zc).ownBlock=some g→V.heap.size≤g
theorem ApcPost.mk15 {V w6:World}{bs:Nat}{acc:List Hd}{xv:Value}{lv:Int}{zs:List Int}{T:Nat}{h0 h1:Value}{X:Option Addr}{c:Nat}{zA:Option Addr}{zc:Nat}
  (ho:OwnNA w6 bs (.slice X (acc.length+1) c) (acc ++ [⟨lv,zA,zc,zs⟩])) (hk:Kept (fun g=>xv.ownBlock=some g) V w6) (hT:Blk w6 T 31 #[h0,h1,xv]) (hTB:T < bs) (hf:∀ g,(Value.slice zA zs.length zc).ownBlock=some g→V.heap.size≤g) :
  ApcPost V bs acc xv lv zs T h0 h1 (w6.setCell ⟨T,2,none⟩ (.slice X (acc.length+1) c)):=by
 have hk2:Kept (fun g=>g=T) w6 (w6.setCell ⟨T,2,none⟩ (.slice X (acc.length+1) c)):=(Kept.refl (fun g=>g=T) w6).setCell (p:=⟨T,2,none⟩) (Or.inl rfl) _;refine⟨X,c,zA,zc,hT.set_ 2 _,ho.kept hk2 (fun g e1 e2=>by subst e2;have:=(own_lt' ho.1 e1).2;omega) (fun x hx g e1 e2=>by subst e2;have:=(own_lt' (ho.2 x hx) e1).2;omega),?_⟩;exact⟨(hk.mono (fun g _ h=>Or.inl h)).trans (hk2.mono (fun g _ h=>Or.inr h)),hf⟩
def zeroN:List Nd:=[(1,[0,0]),(2,[0,0]),(3,[1,1])]
def readN:List Nd:=[(1,[0,0]),(1,[1,1]),(2,[0,1]),(3,[2,2])]
def zeroT:PT:=⟨2,lineL,zeroN⟩
def readT:PT:=⟨2,lineL,readN⟩
def kC:Nat→Int
 | 0=>0
 | m+1=>m
theorem all_call (V:World)(lv k:Int)(zs:List Int)(hz:zs=[k,k]):∀ W,Below V.heap.size V W→Calls Tryz.prog 39 #[.int .i64 lv,.int .i64 2,.int .i64 k] W fun e w'=>∃ zA zc,e=.returned (.agg #[.int .i64 lv,.slice zA zs.length zc])∧OwnIA w' W.heap.size (.slice zA zs.length zc) zs∧Below W.heap.size W w':=fun W hW=>by
 subst hz;exact all_any lv 2 k (by decide) W
structure Const10J (V:World)(bs:Nat)(acc:List Hd)(xv:Value)(lv:Int)(zs:List Int)(T:Nat)(e0:Value)(e1:Value)(kk:Int)(b0 b1 b2 b3 b4 b5 b6 b7 b8 b9:Bool)(v41 v42 v43 v44 v45 v46 v47 v48 v49:Value)(w:World):Prop where
 h0:b0=true→v41=.pointer (some ⟨T,2,none⟩)
 h1:b1=true→v42=xv
 h2:b2=true→v43=.int .i64 lv
 h3:b3=true→v44=.int .i64 2
 h4:b4=true→v45=.int .i64 kk
 h8:b8=true→v49=.pointer (some ⟨T,2,none⟩)
 hk:b7=false→∀ p:Addr,p.block < V.heap.size→w.cell? p=V.cell? p
 wa:b5=false→w=V.drew
 wz:b5=true→b6=false→∃ zA zc,v46=.agg #[.int .i64 lv,.slice zA zs.length zc]∧OwnIA w V.heap.size (.slice zA zs.length zc) zs∧OwnNA w bs xv acc∧Below V.heap.size V w
 wb:b6=true→b7=false→∃ zA zc W0,v47=.slice (some ⟨W0.heap.size,0,none⟩) 1 1∧w=W0.alloc (.cells #[.int .i64 lv,.slice zA zs.length zc] 58)∧OwnIA W0 V.heap.size (.slice zA zs.length zc) zs∧OwnNA W0 bs xv acc∧Below V.heap.size V W0
 wc:b7=true→b9=false→∃ X c zA zc,v48=.slice X (acc.length+1) c∧OwnNA w bs (.slice X (acc.length+1) c) (acc ++ [⟨lv,zA,zc,zs⟩])∧Kept (fun g=>xv.ownBlock=some g) V w∧∀ g,(Value.slice zA zs.length zc).ownBlock=some g→V.heap.size≤g
 wd:b9=true→ApcPost V bs acc xv lv zs T e0 e1 w
 ord2:b9=true→b7=true∧b8=true
 o1:b1=true→b0=true
 o5:b5=true→b2=true∧b3=true∧b4=true
 o6:b6=true→b5=true
 o7:b7=true→b1=true∧b6=true
set_option maxHeartbeats 8000000 in
theorem const_line (A:Option Addr)(c:Nat)(w:World)(hp:Pts w A lineL) :
  Calls Tryz.prog 21 #[.int .i64 2,.slice A 3 c,.int .i64 0] w (RetAE (zeroT,0) w):=by
 have hcr:∀ W,Below w.heap.size w W→Calls Tryz.prog 31 #[.slice A 3 c] W fun e w'=>e=.returned (.bool true)∧Below W.heap.size W w':=fun W hW=>rhood_any A c lineL W (hp.ext hW);obtain⟨w0,hw0⟩:∃ W,W=w.alloc (.cells #[.int .i64 0,.slice none 0 0,.slice none 0 0] 31):=⟨_,rfl⟩
 have hb0:Below w.heap.size w w0:=by rw[hw0];exact below_new _ _
 have hr0:Blk w0 w.heap.size 31 #[.int .i64 0,.slice none 0 0,.slice none 0 0]:=by rw[hw0];exact Blk.new _ _ _
 have HCR:=hid hcr;have HP:=hid hp;have HW0:=hid hw0;have HB0:=hid hb0;have HR0:=hid hr0;clear hp hcr hw0 hb0 hr0;go_enter Tryz.func21,Tryz.ntmps21;go_upto_region 1 with fail
 rw[← HW0.out];go_wp2_with (go_at_call 31;refine (HCR.out _ HB0.out).mono ?_;rintro e w1 ⟨rfl,hb1⟩;refine Hid.out ?_);refine hid ?_;have HB1:=hid hb1;clear hb1;go_upto_region 7 with fail
 obtain⟨X,hX⟩:∃ g,g=w1.heap.size:=⟨_,rfl⟩
 obtain⟨w2,hw2⟩:∃ W,W=w1.alloc (.cells #[.int .i64 2,.slice A 3 c,.slice none 0 0] 31):=⟨_,rfl⟩
 have hx2:Blk w2 X 31 #[.int .i64 2,.slice A 3 c,.slice none 0 0]:=by rw[hw2,hX];exact Blk.new _ _ _
 have hb2:Below w1.heap.size w1 w2:=by rw[hw2];exact below_new _ _
 have hr2:Blk w2 w.heap.size 31 #[.int .i64 0,.slice none 0 0,.slice none 0 0]:=(HR0.out.below HB1.out HR0.out.lt).below hb2 (Nat.lt_of_lt_of_le HR0.out.lt HB1.out.size);have HG:Hid (w.heap.size < X∧X < w2.heap.size):=hid ⟨by rw[hX];exact Nat.lt_of_lt_of_le HR0.out.lt HB1.out.size,hx2.lt⟩;have HBW2:Hid (Below w.heap.size w w2):=hid (HB0.out.trans ((HB1.out.trans (hb2.mono HB1.out.size)).mono HB0.out.size));rw[← hw2,← hX];have HX2:=hid hx2;have HR2:=hid hr2;clear hx2 hr2 hb2 hX hw2 HB1 HR0 HB0 HW0;go_wp2;go_loopw [9,10] (fun kv iv wr=>∃ m:Nat,m≤3∧kv=.int .i64 (kC m)∧iv=.int .i64 ((m:Int)+1)∧Hid (w2.heap.size≤wr.heap.size)∧∃ B d os,Hid (os.length=m)∧Hid ((os:List Hd).map Hd.nd=zeroN.take m)∧Hid (Blk wr X 31 #[.int .i64 2,.slice A 3 c,.slice B os.length d])∧Hid (Blk wr w.heap.size 31 #[.int .i64 0,.slice none 0 0,.slice none 0 0])∧Hid (OwnNA wr w2.heap.size (.slice B os.length d) os)∧Hid (Below w.heap.size w wr)) (fun _ iv _=>4 - (intOf iv).toNat)
 case atStart=>exact⟨0,by decide,rfl,rfl,hid (Nat.le_refl _),none,0,[],hid rfl,hid rfl,HX2,HR2,hid (OwnN.nil _ _ _ _),HBW2⟩
 case round=>
  obtain⟨m,hm,rfl,rfl,HBS,B,d,os,HLN,HNS,HTV,HR,HOWN,HB⟩:=hrel;clear HX2 HR2 HBW2;by_cases hm3:m < 3
  ·have HI:=hid hm3;obtain⟨lv,hlv⟩:∃ lv:Int,lv=(m:Int)+1:=⟨_,rfl⟩
   obtain⟨kk,hkk⟩:∃ kk,kk=kC m:=⟨_,rfl⟩
   obtain⟨zs,hzs⟩:∃ zs:List Int,zs=[kk,kk]:=⟨_,rfl⟩
   have HCALL:=hid (all_call wr lv kk zs hzs);have HAL:Hid (os.length < 1000000000000):=hid (by rw[HLN.out];omega);have HTB:Hid (X < w2.heap.size):=hid HG.out.2;have hd3:decide (lv≤3)=true:=decide_eq_true (by omega);rw[← hlv,← hkk];have HLV:=hid hlv;have HKK:=hid hkk;have HZS:=hid hzs;clear hm hm3 hlv hkk hzs;go_upto_region 10 with fail
   refine wp_region_J (by kernel_rfl) (fun listed act w'=>∃ b0 b1 b2 b3 b4 b5 b6 b7 b8 b9 v41 v42 v43 v44 v45 v46 v47 v48 v49,listed=#[b0,b1,b2,b3,b4,b5,b6,b7,b8,b9]∧act=Act.mk #[.int .i64 2,.slice A 3 c,.int .i64 0,undef,undef,undef,.pointer (some ⟨w.heap.size,0,none⟩),.int .i64 0,.pointer (some ⟨X,0,none⟩),.int .i64 kk,.int .i64 lv,.int .i64 2,.bool false,.bool false,.int .i64 2,.bool false,.bool false,.bool false,.slice A 3 c,.bool true,.bool false,.bool false,undef,.int .i64 0,.bool false,.bool false,.int .i64 0,.int .i64 2,.bool false,.bool false,undef,.int .i64 2,.slice A 3 c,.agg #[.int .i64 2,.slice A 3 c,.slice none 0 0],.int .i64 0,.int .i64 lv,.slice A 3 c,.int .i64 3,.bool true,u39,u40,v41,v42,v43,v44,v45,v46,v47,v48,v49,u50,u51,undef] []∧Const10J (wr) (w2.heap.size) (os) (.slice B os.length d) (lv) (zs) (X) (.int .i64 2) (.slice A 3 c) (kk) b0 b1 b2 b3 b4 b5 b6 b7 b8 b9 v41 v42 v43 v44 v45 v46 v47 v48 v49 w') ?_ ?_ ?_
   ·exact (e_8 (e_8 (e_2 (e_1 ⟨rfl,rfl,(by constructor;(case hk=>exact (fun _ _ _=>rfl));(case wa=>exact (fun _=>rfl));all_goals simp)⟩))))
   ·rintro i listed act w' hi ⟨b0,b1,b2,b3,b4,b5,b6,b7,b8,b9,v41,v42,v43,v44,v45,v46,v47,v48,v49,rfl,rfl,H⟩;have hi16:i < 10:=by
     obtain⟨-,o,ho,-⟩:=mem_ready.1 hi;exact (Array.getElem?_eq_some_iff.1 ho).1
    obtain rfl | rfl | rfl | rfl | rfl | rfl | rfl | rfl | rfl | rfl:i=0∨i=1∨i=2∨i=3∨i=4∨i=5∨i=6∨i=7∨i=8∨i=9:=by omega
    all_goals simp[mem_ready,Region.binds] at hi
    ·refine wpOp_hidden rfl fun K hK=>?_;go_wp2;refine OnlyN.mk (hK.out _ _ (e_8 (e_8 (e_2 (e_1 ⟨rfl,rfl,{ H with h0:=fun _=>rfl,o1:=fun h=>rfl }⟩)))))
    ·have bAf:b7=false:=by
      cases hb:b7 with
      | false=>rfl
      | true=>exact absurd (H.o7 hb).1 (by simp[hi])
     obtain rfl:=H.h0 (by simp[hi]);have cc:=(H.hk bAf ⟨X,2,none⟩ HTV.out.lt).trans (HTV.out.cell_ 2 _ rfl);clear bAf;refine wpOp_hidden rfl fun K hK=>?_;go_wp2;refine OnlyN.mk (hK.out _ _ (e_8 (e_8 (e_2 (e_1 ⟨rfl,rfl,{ H with h1:=fun _=>rfl,o1:=fun _=>(by simp[hi]),o7:=fun h=>⟨rfl,(H.o7 h).2⟩ }⟩)))))
    ·refine wpOp_hidden rfl fun K hK=>?_;go_wp2;refine OnlyN.mk (hK.out _ _ (e_8 (e_8 (e_2 (e_1 ⟨rfl,rfl,{ H with h2:=fun _=>rfl,o5:=fun h=>⟨rfl,(H.o5 h).2.1,(H.o5 h).2.2⟩ }⟩)))))
    ·refine wpOp_hidden rfl fun K hK=>?_;go_wp2;refine OnlyN.mk (hK.out _ _ (e_8 (e_8 (e_2 (e_1 ⟨rfl,rfl,{ H with h3:=fun _=>rfl,o5:=fun h=>⟨(H.o5 h).1,rfl,(H.o5 h).2.2⟩ }⟩)))))
    ·refine wpOp_hidden rfl fun K hK=>?_;go_wp2;refine OnlyN.mk (hK.out _ _ (e_8 (e_8 (e_2 (e_1 ⟨rfl,rfl,{ H with h4:=fun _=>rfl,o5:=fun h=>⟨(H.o5 h).1,(H.o5 h).2.1,rfl⟩ }⟩)))))
    ·have bAf:b7=false:=by
      cases hb:b7 with
      | false=>rfl
      | true=>exact absurd (H.o6 (H.o7 hb).2) (by simp[hi])
     obtain rfl:=H.h2 (by simp[hi]);obtain rfl:=H.h3 (by simp[hi]);obtain rfl:=H.h4 (by simp[hi]);have hw:=H.wa (by simp[hi]);have HAF:=hid bAf;subst hw;clear bAf;have hcall:=HCALL.out (World.drew wr) ((Below.refl _ wr).drew);have HCL:=hid hcall;clear hcall;refine wpOp_hidden rfl fun K hK=>?_;go_wp2_with (go_at_call 39;refine HCL.out.mono ?_;rintro e w6 ⟨zA,zc,rfl,hi6,hb6⟩;refine Hid.out ?_);refine hid ?_;have HB6:Hid (Below (World.heap wr).size wr w6):=hid (((Below.refl _ wr).drew).trans hb6);have HI6:Hid (OwnIA w6 (World.heap wr).size (.slice zA (List.length zs) zc) zs):=hid hi6;have HO6:Hid (OwnNA w6 w2.heap.size (.slice B os.length d) os):=hid (OwnN.ext HOWN.out HB6.out);clear hi6 hb6;go_wp2;refine OnlyN.mk (hK.out _ _ (e_8 (e_8 (e_2 (e_1 ⟨rfl,rfl,{ H with hk:=fun _ p hp=>HB6.out.cell hp,wa:=fun h=>(by cases h),wz:=fun _ _=>⟨_,_,rfl,HI6.out,HO6.out,HB6.out⟩,wb:=fun h=>absurd (H.o6 h) (by simp[hi]),wc:=fun h=>absurd h (by rw[HAF.out];decide),wd:=fun h=>absurd (H.ord2 h).1 (by rw[HAF.out];decide),o5:=fun _=>(by simp[hi]),o6:=fun h=>rfl }⟩)))))
    ·have bAf:b7=false:=by
      cases hb:b7 with
      | false=>rfl
      | true=>exact absurd (H.o7 hb).2 (by simp[hi])
     obtain⟨zA,zc,hv,hi6,ho6,hb6⟩:=H.wz (by simp[hi]) (by simp[hi]);subst hv;have HAF:=hid bAf;have HWZ:=hid (And.intro hi6 (And.intro ho6 hb6));have HB6:=hid (hb6.alloc hb6.size (.cells #[.int .i64 lv,.slice zA (List.length zs) zc] 58));clear bAf hi6 ho6 hb6;refine wpOp_hidden rfl fun K hK=>?_;go_wp2;refine OnlyN.mk (hK.out _ _ (e_8 (e_8 (e_2 (e_1 ⟨rfl,rfl,{ H with hk:=fun _ p hp=>HB6.out.cell hp,wa:=fun h=>absurd h (by simp[hi]),wz:=fun _ h=>(by cases h),wb:=fun _ _=>⟨_,_,_,rfl,rfl,HWZ.out⟩,wc:=fun h=>absurd h (by rw[HAF.out];decide),wd:=fun h=>absurd (H.ord2 h).1 (by rw[HAF.out];decide),o6:=fun _=>(by simp[hi]),o7:=fun h=>⟨(H.o7 h).1,rfl⟩ }⟩)))))
    ·obtain rfl:=H.h1 (by simp[hi]);obtain⟨zA,zc,Vd,hv,hw,hI6v,hown,hbd⟩:=H.wb (by simp[hi]) (by simp[hi]);subst hw;subst hv;have HFR:Hid (∀ g,(Value.slice zA (List.length zs) zc).ownBlock=some g→(World.heap wr).size≤g):=hid (fun g e=>(own_lt' hI6v e).2);have hI6:OwnIA Vd w2.heap.size (.slice zA (List.length zs) zc) zs:=own_down hI6v HBS.out;clear hI6v;have hal:=HAL.out;have hws:w2.heap.size≤Vd.heap.size:=Nat.le_trans HBS.out hbd.size;have HVD:Hid (Kept (fun g=>Value.ownBlock (.slice B os.length d)=some g) wr Vd):=hid (Kept.of_new _ hbd);clear hbd;refine wpOp_hidden rfl fun K hK=>?_;refine wpList_pushN rfl _ _ _ rfl w2.heap.size 58 3 (by decide) Tryz.underlying29 Tryz.infoNode _ _ rfl hown _ _ _ _ hI6 rfl hal hws ?_;intro xv' w6 ho6 hk6 hm6;obtain⟨xA',xc',hxv',-,-⟩:=ho6.nds;rw[List.length_append,List.length_singleton] at hxv';subst hxv';have HO6:=hid ho6;have HK6:Hid (Kept (fun g=>Value.ownBlock (.slice B os.length d)=some g) wr w6):=hid (HVD.out.trans hk6);clear ho6 hk6 hm6 hown hal hws hI6;go_wp2;refine OnlyN.mk (hK.out _ _ (e_8 (e_8 (e_2 (e_1 ⟨rfl,rfl,{ H with hk:=fun h=>(by cases h),wa:=fun h=>absurd h (by simp[hi]),wz:=fun _ h=>absurd h (by simp[hi]),wb:=fun _ h=>(by cases h),wc:=fun _ _=>⟨_,_,_,_,rfl,HO6.out,HK6.out,HFR.out⟩,wd:=fun h=>absurd (H.ord2 h).1 (by simp[hi]),ord2:=fun h=>⟨rfl,(H.ord2 h).2⟩,o7:=fun _=>(by simp[hi]) }⟩)))))
    ·refine wpOp_hidden rfl fun K hK=>?_;go_wp2;refine OnlyN.mk (hK.out _ _ (e_8 (e_8 (e_2 (e_1 ⟨rfl,rfl,{ H with h8:=fun _=>rfl,ord2:=fun h=>⟨(H.ord2 h).1,rfl⟩ }⟩)))))
    ·obtain rfl:=H.h8 (by simp[hi]);obtain⟨xA',xc',zA,zc,hv,ho6,hk6,hfr⟩:=H.wc (by simp[hi]) (by simp[hi]);subst hv;have hT6:=hk6.blk HTV.out (fun e=>by have:=(own_lt' HOWN.out.1 e).2;have:=HTB.out;omega);have cx9:=hT6.cell_ 2 (.slice B os.length d) rfl;have fx9:=hT6.frozen 2;have HPOST:=hid (ApcPost.mk15 ho6 hk6 hT6 HTB.out hfr);clear hfr ho6 hk6 hT6;refine wpOp_hidden rfl fun K hK=>?_;go_wp2;refine OnlyN.mk (hK.out _ _ (e_8 (e_8 (e_2 (e_1 ⟨rfl,rfl,{ H with hk:=fun h=>absurd h (by simp[hi]),wa:=fun h=>absurd h (by simp[hi]),wz:=fun _ h=>absurd h (by simp[hi]),wb:=fun _ h=>absurd h (by simp[hi]),wc:=fun _ h=>(by cases h),wd:=fun _=>HPOST.out,ord2:=fun _=>(by simp[hi]) }⟩)))))
   ·rintro listed act w' hr ⟨b0,b1,b2,b3,b4,b5,b6,b7,b8,b9,v41,v42,v43,v44,v45,v46,v47,v48,v49,rfl,rfl,H⟩;have hn:=List.eq_nil_iff_forall_not_mem.1 hr;have r0:=hn 0;simp[mem_ready,Region.binds] at r0;subst r0;have r1:=hn 1;simp[mem_ready,Region.binds] at r1;subst r1;have r2:=hn 2;simp[mem_ready,Region.binds] at r2;subst r2;have r3:=hn 3;simp[mem_ready,Region.binds] at r3;subst r3;have r4:=hn 4;simp[mem_ready,Region.binds] at r4;subst r4;have r5:=hn 5;simp[mem_ready,Region.binds] at r5;subst r5;have r6:=hn 6;simp[mem_ready,Region.binds] at r6;subst r6;have r7:=hn 7;simp[mem_ready,Region.binds] at r7;subst r7;have r8:=hn 8;simp[mem_ready,Region.binds] at r8;subst r8;have r9:=hn 9;simp[mem_ready,Region.binds] at r9;subst r9;try dsimp only
    have HPO:=hid (H.wd rfl);clear H hr hn;obtain⟨X9,c9,zA9,zc9,hb9,ho9,hk9,-⟩:=HPO.out;have HWK:Hid (wrap64 (lv - 1)=kC (m+1)):=hid (by rw[HLV.out];show wrap64 ((m:Int)+1 - 1)=(m:Int);have:=HI.out;unfold wrap64;omega);have HWL:Hid (wrap64 (lv+1)=((m+1:Nat):Int)+1):=hid (by rw[HLV.out];have:=HI.out;unfold wrap64;omega);have HB9:=hid hb9;have HL9:Hid ((os ++ [⟨(lv:Int),zA9,zc9,zs⟩]:List Hd).length=m+1):=hid (by rw[List.length_append,List.length_singleton,HLN.out]);have HN9:Hid ((os ++ [⟨(lv:Int),zA9,zc9,zs⟩]:List Hd).map Hd.nd=zeroN.take (m+1)):=hid (by
     rw[List.map_append,HNS.out];have h3:=HI.out;rw[HZS.out,HKK.out,HLV.out];obtain rfl | rfl | rfl:m=0∨m=1∨m=2:=by omega
     ·rfl
     ·rfl
     ·rfl)
    have HBL9:Hid (Blk w' X 31 #[.int .i64 2,.slice A 3 c,.slice X9 (os ++ [⟨(lv:Int),zA9,zc9,zs⟩]:List Hd).length c9]):=hid (by rw[List.length_append];exact hb9);have HON9:Hid (OwnNA w' w2.heap.size (.slice X9 (os ++ [⟨(lv:Int),zA9,zc9,zs⟩]:List Hd).length c9) (os ++ [⟨(lv:Int),zA9,zc9,zs⟩])):=hid (by rw[List.length_append];exact ho9);have HR9:=hid (hk9.blk HR.out (fun e=>by
     rcases e with e | e
     ·have:=(own_lt' HOWN.out.1 e).2;have:=HG.out;omega
     ·have:=HG.out;omega))
    have HBW9:Hid (Below w.heap.size w w'):=hid (HB.out.trans (hk9.to_below HB.out.size (fun g hg e=>by
     rcases e with e | e
     ·have:=(own_lt' HOWN.out.1 e).2;have:=HG.out;omega
     ·have:=HG.out;omega)))
    have HSZ9:Hid (w2.heap.size≤w'.heap.size):=hid (Nat.le_trans HBS.out hk9.below.size);obtain⟨os9,hos9⟩:∃ o,o=(os ++ [⟨(lv:Int),zA9,zc9,zs⟩]:List Hd):=⟨_,rfl⟩
    rw[← hos9] at HL9 HN9 HBL9 HON9;clear hb9 ho9 hk9 hos9 HPO HTV HOWN HCALL HBS HNS HLN HB9 HR HB HZS HAL HTB;go_wp2;go_roundw
    case rel=>exact⟨m+1,HI.out,(by rw[HWK.out]),(by rw[HWL.out]),HSZ9,X9,c9,os9,HL9,HN9,HBL9,HR9,HON9,HBW9⟩
    case measure=>rw[HWL.out,HLV.out];simp only[intOf];have:=HI.out;omega
  ·obtain rfl:m=3:=Nat.le_antisymm hm (Nat.le_of_not_lt hm3);have x0:=HTV.out.cell_ 0 (.int .i64 2) rfl;have x1:=HTV.out.cell_ 1 (.slice A 3 c) rfl;have x2:=HTV.out.cell_ 2 (.slice B os.length d) rfl;have r0:=HR.out.cell_ 0 (.int .i64 0) rfl;have r1:=HR.out.cell_ 1 (.slice none 0 0) rfl;have r2:=HR.out.cell_ 2 (.slice none 0 0) rfl;have f0:=HR.out.frozen 0;have f1:=HR.out.frozen 1;have f2:=HR.out.frozen 2;clear hm hm3;go_wp2;have hq:Blk (((wr.setCell ⟨w.heap.size,0,none⟩ (.int .i64 2)).setCell ⟨w.heap.size,1,none⟩ (.slice A 3 c)).setCell ⟨w.heap.size,2,none⟩ (.slice B os.length d)) w.heap.size 31 #[.int .i64 2,.slice A 3 c,.slice B os.length d]:=((HR.out.set_ 0 (.int .i64 2)).set_ 1 (.slice A 3 c)).set_ 2 (.slice B os.length d);have hk:Kept (fun g=>g=w.heap.size) wr (((wr.setCell ⟨w.heap.size,0,none⟩ (.int .i64 2)).setCell ⟨w.heap.size,1,none⟩ (.slice A 3 c)).setCell ⟨w.heap.size,2,none⟩ (.slice B os.length d)):=(((Kept.refl (fun g=>g=w.heap.size) wr).setCell (p:=⟨w.heap.size,0,none⟩) (Or.inl rfl) _).setCell (p:=⟨w.heap.size,1,none⟩) (Or.inl rfl) _).setCell (p:=⟨w.heap.size,2,none⟩) (Or.inl rfl) _;have hbe:Below w.heap.size w (((wr.setCell ⟨w.heap.size,0,none⟩ (.int .i64 2)).setCell ⟨w.heap.size,1,none⟩ (.slice A 3 c)).setCell ⟨w.heap.size,2,none⟩ (.slice B os.length d)):=(((HB.out.setCell (p:=⟨w.heap.size,0,none⟩) (Nat.le_refl _) _).setCell (p:=⟨w.heap.size,1,none⟩) (Nat.le_refl _) _).setCell (p:=⟨w.heap.size,2,none⟩) (Nat.le_refl _) _)
   refine bodyPost_ret (results_ct Tryz.results21 _ _ w.heap.size 31 #[.int .i64 2,.slice A 3 c,.slice B os.length d] (0,0) _ rfl hq Tryz.underlying31 rfl Tryz.sizeTree) rfl ?_;have hon:=HOWN.out.kept hk (fun g g1 g2=>by subst g2;have:=(own_lt' HOWN.out.1 g1).2;have:=HG.out;omega) (fun x hx g g1 g2=>by subst g2;have:=(own_lt' (HOWN.out.2 x hx) g1).2;have:=HG.out;omega);obtain⟨B',d',e,hnd,-⟩:=hon.nds;injection e with e1 e2 e3
   subst e1;exact⟨2,A,3,c,B,os.length,d,rfl,⟨A,c,B,d,os,rfl,HP.out.ext hbe,hnd,HNS.out⟩,hbe⟩
end Go.Proofs.YtlegfdllipkggaaGreatDoor
