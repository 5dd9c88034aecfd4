/-
  texts Turned Decide: parts of the proof; conditions stand with each theorem.
-/
import Derived.Test.YtcmbdhopmncmnaaGreatDoorWG2
import Derived.Test.YtcmbdhopmncmnaaGreatDoorWG1
namespace Go.Proofs.YtcmbdhopmncmnaaGreatDoor
open Lib(hid)
open Go.RowKit
set_option maxRecDepth 100000
set_option linter.unusedVariables false
set_option linter.unusedSimpArgs false
def turnedP (hood:List (Int × Int))(k:Int)(inn:List Int):List Int:=hood.map fun q=>inn.getD (idxF (symP k q) 0 hood).toNat 0
def fillL (l:List Int)(i:Nat):List Int:=l.take i ++ List.replicate (l.length - i) 0
theorem fillL_zero (l:List Int):fillL l 0=List.replicate l.length 0:=by simp[fillL]
theorem fillL_len {l:List Int}{i:Nat}(h:i≤l.length):(fillL l i).length=l.length:=by
 unfold fillL;rw[List.length_append,List.length_take,List.length_replicate];omega
theorem fillL_all (l:List Int):fillL l l.length=l:=by simp[fillL]
theorem fillL_step {l:List Int}{i:Nat}(h:i < l.length):(fillL l i).set i l[i]=fillL l (i+1):=by
 unfold fillL;have e:l.length - i=(l.length - (i+1))+1:=by omega
 rw[e,List.replicate_succ,List.set_append_right _ _ (by rw[List.length_take];omega),List.length_take,Nat.min_eq_left (Nat.le_of_lt h),Nat.sub_self,List.set_cons_zero,← List.take_append_getElem h,List.append_assoc];rfl
theorem idxF_lt' {α:Type} [DecidableEq α] {p:α}:∀ (xs:List α)(k:Nat),p ∈ xs→∃ j:Nat,idxF p k xs=(j:Int)∧k≤j∧j < k+xs.length
 | [],k,h=>absurd h (by simp)
 | x :: l,k,h=>by
  unfold idxF;by_cases hx:x=p
  ·rw[if_pos hx];exact⟨k,rfl,Nat.le_refl _,by simp⟩
  ·rw[if_neg hx];rcases List.mem_cons.1 h with e | e
   ·exact absurd e.symm hx
   ·obtain⟨j,h1,h2,h3⟩:=idxF_lt' l (k+1) e;exact⟨j,h1,by omega,by rw[List.length_cons];omega⟩
structure Tu5J (V:World)(gO:Nat)(n:Nat)(i:Nat)(iv:Value)(gT:Nat)(pv:Value)(kk:Int)(xv:Value)(zv:Value)(j:Nat)(ib:Nat)(io:Nat)(s:Int)(b0 b1 b2 b3 b4 b5 b6 b7 b8 b9 b10 b11 b12:Bool)(v21 v22 v23 v24 v25 v26 v27 v28 v29 v30 v31 v32:Value)(w:World):Prop where
 h0:b0=true→v21=.slice (some ⟨gO,0,none⟩) n n
 h1:b1=true→v22=.int .i64 (i:Int)
 h2:b2=true→v23=iv
 h3:b3=true→v24=.pointer (some ⟨gT,2,none⟩)
 h4:b4=true→v25=pv
 h5:b5=true→v26=.int .i64 kk
 h6:b6=true→v27=xv
 h7:b7=true→v28=zv
 h8:b8=true→v29=.int .i64 (j:Int)
 h9:b9=true→v30=.pointer (some ⟨ib,io+j,none⟩)
 h10:b10=true→v31=.int .i64 s
 h11:b11=true→v32=.pointer (some ⟨gO,i,none⟩)
 below:b12=false→Below V.heap.size V w
 wd:b12=true→∃ W9:World,Below V.heap.size V W9∧w=W9.setCell ⟨gO,i,none⟩ (.int .i64 s)
 o4:b4=true→b3=true
 o7:b7=true→b5=true∧b6=true
 o8:b8=true→b4=true∧b7=true
 o9:b9=true→b2=true∧b8=true
 o10:b10=true→b9=true
 o11:b11=true→b0=true∧b1=true
 o12:b12=true→b11=true∧b10=true
set_option maxHeartbeats 16000000 in
theorem turned_any (hA:Option Addr)(hc:Nat)(vA:Option Addr)(vc:Nat)(rA:Option Addr)(rc:Nat)(t:TabH)(k:Int)(iA:Option Addr)(ic:Nat)(inn:List Int)(w:World)(hp:Pts w hA t.hood)(hi:Ints w iA inn)(hl:inn.length=t.hood.length)(hn:t.hood.length≤25)(hr:∀ p ∈ t.hood,-2≤p.1∧p.1≤2∧-2≤p.2∧p.2≤2)(hcl:∀ q ∈ t.hood,symP k q ∈ t.hood)(hG:GMat w) :
  Calls Tryz.prog 77 #[tabV hA hc vA vc rA rc t,.int .i64 k,.slice iA inn.length ic] w fun e w'=>∃ A c,e=.returned (.slice A inn.length c)∧Ints w' A (turnedP t.hood k inn)∧Below w.heap.size w w':=by
 obtain⟨st,sym,hood,vs,rs⟩:=t;unfold tabV;dsimp only at hp hl hn hr hcl ⊢;obtain⟨w0,hw0⟩:∃ w0,w0=w.alloc (.cells #[.int .i64 st,.int .i64 sym,.slice hA hood.length hc,.slice vA vs.length vc,.slice rA rs.length rc] 26):=⟨_,rfl⟩
 have hb0:Below w.heap.size w w0:=by rw[hw0];exact below_new _ _
 have p0:Blk w0 w.heap.size 26 #[.int .i64 st,.int .i64 sym,.slice hA hood.length hc,.slice vA vs.length vc,.slice rA rs.length rc]:=by rw[hw0];exact Blk.new _ _ _
 obtain⟨gT,hgT⟩:∃ g,g=w.heap.size:=⟨_,rfl⟩
 rw[← hgT] at p0;obtain⟨res,hres⟩:∃ r,r=turnedP hood k inn:=⟨_,rfl⟩
 rw[← hres];have HRES:Hid (∀ i (h:i < hood.length),res.length=hood.length∧res[i]?=some (inn.getD (idxF (symP k hood[i]) 0 hood).toNat 0)):=hid (fun i h=>by
  rw[hres];unfold turnedP;rw[List.length_map,List.getElem?_map,List.getElem?_eq_getElem h];exact⟨rfl,rfl⟩)
 have hrl:res.length=hood.length:=by rw[hres];unfold turnedP;rw[List.length_map]
 have HRL:=hid hrl;have HB0:=hid hb0;have HP:=hid p0;have HW0:=hid (And.intro hw0 hgT);have HX:=hid (And.intro (hp.ext hb0) (And.intro (hi.ext hb0) (hG.ext hb0)));have HC:=hid (And.intro hr hcl);have HL:=hid (And.intro hl hn);have hin9:inn.length≤9223372036854775807:=hi.le;have hho9:hood.length≤9223372036854775807:=hp.le;obtain⟨i0,hi0,hz0,hz1,hz2⟩:=info_parts Tryz.infoInt;have hmw:w0.heap.size≤w0.heap.size:=Nat.le_refl _;have hil:inn.length≤25:=by omega
 clear hb0 p0 hw0 hgT hp hi hl hn hr hcl hG hres hrl;go_enter Tryz.func77,Tryz.ntmps77;go_upto_region 1 with fail
 rw[← HW0.out.1,← HW0.out.2];go_wp2_with (at_make;refine wpList_make_full _ rfl _ _ 30 rfl w0.heap.size 3 i0 _ 1 Tryz.underlying30 hi0 hz0 hz1 .i64 .i64 inn.length inn.length inn.length rfl rfl rfl rfl (by rw[hz2];omega) (by unfold maxLen;omega) hmw ?_);intro w1 ho1 hg1;have hb1:Below w0.heap.size w0 w1:=(Below.refl _ w0).grown hg1 (Nat.le_refl _) (by intro k hk;cases hk);have hr1:OwnIA w1 w0.heap.size (.slice (some ⟨w0.heap.size,0,none⟩) inn.length inn.length) (fillL res 0):=by
  unfold OwnIA OwnI;rw[fillL_zero,HRL.out,← HL.out.1,List.length_replicate,List.map_replicate];rw[toList_madeCells_one] at ho1;exact ho1
 obtain⟨gO,hgO⟩:∃ g,g=w0.heap.size:=⟨_,rfl⟩
 have HGO:Hid (gO=w0.heap.size):=hid hgO;have HGL:Hid (w0.heap.size≤gO):=hid (by rw[hgO];exact Nat.le_refl _);rw[← hgO] at hr1 ⊢;have HR1:Hid (OwnIA w1 w0.heap.size (.slice (some ⟨gO,0,none⟩) inn.length inn.length) (fillL res 0)):=hid (by rw[hgO] at hr1 ⊢;exact hr1);have HB1:=hid hb1;have c2:=(HP.out.below hb1 HP.out.lt).cell_ 2 (.slice hA hood.length hc) rfl;clear ho1 hg1 hb1 hr1 hgO hi0 hz0 hz1 hz2 hmw hil;go_wp2;clear c2;go_loopw [16] (fun iv wr=>∃ i:Nat,i≤hood.length∧iv=.int .i64 i∧Hid (OwnIA wr w0.heap.size (.slice (some ⟨gO,0,none⟩) inn.length inn.length) (fillL res i))∧Hid (Below w0.heap.size w0 wr)) (fun iv _=>hood.length - (intOf iv).toNat)
 case atStart=>exact⟨0,Nat.zero_le _,rfl,HR1,HB1⟩
 case round=>
  obtain⟨i,hi,rfl,HO,HBW⟩:=hrel;by_cases hil:i < hood.length
  ·obtain⟨pb,po,ep,-,hc0,hc1⟩:=(HX.out.1.ext HBW.out).at_ hil;obtain⟨q,hq⟩:∃ q,q=hood[i]:=⟨_,rfl⟩
   have hqm:q ∈ hood:=by rw[hq];exact List.getElem_mem hil
   rw[← hq] at hc0 hc1;obtain⟨j,hj,-,hjl⟩:=idxF_lt' hood 0 (HC.out.2 q hqm);rw[Nat.zero_add] at hjl;have hjn:j < inn.length:=by rw[HL.out.1];exact hjl
   obtain⟨ib,io,ei,hlt,hci⟩:=(HX.out.2.1.ext HBW.out).at_ hjn;obtain⟨s,hs⟩:∃ s,s=inn[j]:=⟨_,rfl⟩
   rw[← hs] at hci;have HST:Hid ((fillL res i).set i s=fillL res (i+1)):=hid (by
    have h1:=HRES.out i hil;have h2:i < res.length:=by rw[HRL.out];exact hil
    rw[← fillL_step h2];have h3:=h1.2;rw[List.getElem?_eq_getElem h2,← hq,hj] at h3;injection h3 with h3
    rw[h3,Int.toNat_natCast,List.getD_eq_getElem?_getD,List.getElem?_eq_getElem hjn,hs];rfl)
   subst ep ei;have hqr:=HC.out.1 q hqm;obtain⟨q1,q2⟩:=q;dsimp only at hc0 hc1 hqr;have HQR:=hid hqr;have HJ:=hid (And.intro hj hjn);have HI:=hid hil;have hwi:wrap64 ((i:Int)+1)=(i:Int)+1:=by unfold wrap64;omega
   have HWI:=hid hwi;obtain⟨wb,hwb⟩:∃ W,W=wr.alloc (.cells #[.int .i64 q1,.int .i64 q2] 43):=⟨_,rfl⟩
   have hbb:Below wr.heap.size wr wb:=by rw[hwb];exact below_new _ _
   obtain⟨gQ,hgQ⟩:∃ g,g=wr.heap.size:=⟨_,rfl⟩
   have HQB:Hid (Blk wb gQ 43 #[.int .i64 q1,.int .i64 q2]):=hid (by rw[hgQ,hwb];exact Blk.new _ _ _);have HBB:=hid (HBW.out.trans (hbb.mono HBW.out.size));have HOB:=hid (HO.out.ext hbb);have HWB:=hid (And.intro hwb hgQ);have HPB:=hid (HP.out.below HBB.out HP.out.lt);have HCI:Hid (∀ W,Below wb.heap.size wb W→W.cell? ⟨ib,io+j,none⟩=some (.int .i64 s)):=hid (fun W hW=>by
    have h1:wb.cell? ⟨ib,io+j,none⟩=some (.int .i64 s):=(World.cell?_of_block (hbb.block _ hlt)).trans hci;exact (World.cell?_of_block (hW.block _ (Nat.lt_of_lt_of_le hlt hbb.size))).trans h1)
   have HCA:Hid (∀ W,Below wb.heap.size wb W→Calls Tryz.prog 23 #[.int .i64 k,.agg #[.int .i64 q1,.int .i64 q2]] W fun e w'=>e=.returned (.agg #[.int .i64 (symP k (q1,q2)).1,.int .i64 (symP k (q1,q2)).2])∧Below W.heap.size W w'):=hid (fun W hW=>apply_any k q1 q2 W ((HX.out.2.2.ext HBB.out).ext hW) ⟨by have:=HQR.out;omega,by have:=HQR.out;omega⟩ ⟨by have:=HQR.out;omega,by have:=HQR.out;omega⟩);obtain⟨z,hz⟩:∃ z,z=symP k (q1,q2):=⟨_,rfl⟩
   rw[← hz] at HCA HJ;obtain⟨z1,z2⟩:=z;dsimp only at HCA;have HCX:Hid (∀ W,Below wb.heap.size wb W→Calls Tryz.prog 83 #[.slice (some ⟨pb,po,none⟩) hood.length hc,.agg #[.int .i64 z1,.int .i64 z2]] W fun e w'=>e=.returned (.int .i64 (j:Int))∧Below W.heap.size W w'):=hid (fun W hW=>by
    have:=pidx_any (some ⟨pb,po,none⟩) hood hc z1 z2 W ((HX.out.1.ext HBB.out).ext hW);rw[HJ.out.1] at this;exact this)
   clear hq hqm hj hjl hlt hci hs hqr hi hwi hwb hgQ hbb hz;go_upto_region 5 with fail
   rw[← HWB.out.1,← HWB.out.2];refine wp_region_J (by kernel_rfl) (fun listed act w'=>∃ b0 b1 b2 b3 b4 b5 b6 b7 b8 b9 b10 b11 b12 v21 v22 v23 v24 v25 v26 v27 v28 v29 v30 v31 v32,listed=#[b0,b1,b2,b3,b4,b5,b6,b7,b8,b9,b10,b11,b12]∧act=Act.mk #[.agg #[.int .i64 st,.int .i64 sym,.slice (some ⟨pb,po,none⟩) hood.length hc,.slice vA vs.length vc,.slice rA rs.length rc],.int .i64 k,.slice (some ⟨ib,io,none⟩) inn.length ic,.pointer (some ⟨gT,0,none⟩),undef,undef,.slice none 0 0,.slice (some ⟨gO,0,none⟩) inn.length inn.length,.int .i64 ↑i,.pointer (some ⟨gQ,0,none⟩),.slice (some ⟨ib,io,none⟩) inn.length ic,.int .i64 ↑inn.length,.slice (some ⟨gO,0,none⟩) inn.length inn.length,.pointer (some ⟨gT,2,none⟩),.slice (some ⟨pb,po,none⟩) hood.length hc,.int .i64 ↑hood.length,.int .i64 ↑i,.bool true,.int .i64 ↑i,.pointer (some ⟨pb,po+i*2,none⟩),.agg #[.int .i64 q1,.int .i64 q2],v21,v22,v23,v24,v25,v26,v27,v28,v29,v30,v31,v32,u33,undef] []∧Tu5J wb (gO) (inn.length) (i) (.slice (some ⟨ib,io,none⟩) inn.length ic) (gT) (.slice (some ⟨pb,po,none⟩) hood.length hc) (k) (.agg #[.int .i64 q1,.int .i64 q2]) (.agg #[.int .i64 z1,.int .i64 z2]) (j) (ib) (io) (s) b0 b1 b2 b3 b4 b5 b6 b7 b8 b9 b10 b11 b12 v21 v22 v23 v24 v25 v26 v27 v28 v29 v30 v31 v32 w') ?_ ?_ ?_
   ·exact (e_8 (e_8 (e_8 (e_1 ⟨rfl,rfl,(by constructor;(case below=>exact (fun _=>(Below.refl _ wb).drew));all_goals simp)⟩))))
   ·rintro i listed act w' hi ⟨b0,b1,b2,b3,b4,b5,b6,b7,b8,b9,b10,b11,b12,v21,v22,v23,v24,v25,v26,v27,v28,v29,v30,v31,v32,rfl,rfl,H⟩;have hi16:i < 13:=by
     obtain⟨-,o,ho,-⟩:=mem_ready.1 hi;exact (Array.getElem?_eq_some_iff.1 ho).1
    obtain rfl | rfl | rfl | rfl | rfl | rfl | rfl | rfl | rfl | rfl | rfl | rfl | rfl:i=0∨i=1∨i=2∨i=3∨i=4∨i=5∨i=6∨i=7∨i=8∨i=9∨i=10∨i=11∨i=12:=by omega
    all_goals simp[mem_ready,Region.binds] at hi
    ·refine wpOp_hidden rfl fun K hK=>?_;go_wp2;refine OnlyN.mk (hK.out _ _ (e_8 (e_8 (e_8 (e_1 ⟨rfl,rfl,{ H with h0:=fun _=>rfl,o11:=fun h=>⟨rfl,(H.o11 h).2⟩ }⟩)))))
    ·refine wpOp_hidden rfl fun K hK=>?_;go_wp2;refine OnlyN.mk (hK.out _ _ (e_8 (e_8 (e_8 (e_1 ⟨rfl,rfl,{ H with h1:=fun _=>rfl,o11:=fun h=>⟨(H.o11 h).1,rfl⟩ }⟩)))))
    ·refine wpOp_hidden rfl fun K hK=>?_;go_wp2;refine OnlyN.mk (hK.out _ _ (e_8 (e_8 (e_8 (e_1 ⟨rfl,rfl,{ H with h2:=fun _=>rfl,o9:=fun h=>⟨rfl,(H.o9 h).2⟩ }⟩)))))
    ·refine wpOp_hidden rfl fun K hK=>?_;go_wp2;refine OnlyN.mk (hK.out _ _ (e_8 (e_8 (e_8 (e_1 ⟨rfl,rfl,{ H with h3:=fun _=>rfl,o4:=fun h=>rfl }⟩)))))
    ·obtain rfl:=H.h3 (by simp[hi]);have bff:b12=false:=by
      cases hb:b12 with
      | false=>rfl
      | true=>exact absurd (H.o8 (H.o9 (H.o10 (H.o12 hb).2)).2).1 (by simp[hi])
     have hB:=H.below bff;have BFF:=hid bff;clear bff;have cc:=(HPB.out.below hB HPB.out.lt).cell_ 2 (.slice (some ⟨pb,po,none⟩) hood.length hc) rfl;clear hB;refine wpOp_hidden rfl fun K hK=>?_;go_wp2;refine OnlyN.mk (hK.out _ _ (e_8 (e_8 (e_8 (e_1 ⟨rfl,rfl,{ H with h4:=fun _=>rfl,o4:=fun _=>(by simp[hi]),o8:=fun h=>⟨rfl,(H.o8 h).2⟩ }⟩)))))
    ·refine wpOp_hidden rfl fun K hK=>?_;go_wp2;refine OnlyN.mk (hK.out _ _ (e_8 (e_8 (e_8 (e_1 ⟨rfl,rfl,{ H with h5:=fun _=>rfl,o7:=fun h=>⟨rfl,(H.o7 h).2⟩ }⟩)))))
    ·have bff:b12=false:=by
      cases hb:b12 with
      | false=>rfl
      | true=>exact absurd (H.o7 (H.o8 (H.o9 (H.o10 (H.o12 hb).2)).2).2).2 (by simp[hi])
     have hB:=H.below bff;have BFF:=hid bff;clear bff;have hq5:=HQB.out.below hB HQB.out.lt;have cc0:=hq5.cell_ 0 (.int .i64 q1) rfl;have cc1:=hq5.cell_ 1 (.int .i64 q2) rfl;clear hq5;clear hB;refine wpOp_hidden rfl fun K hK=>?_;go_wp2;refine OnlyN.mk (hK.out _ _ (e_8 (e_8 (e_8 (e_1 ⟨rfl,rfl,{ H with h6:=fun _=>rfl,o7:=fun h=>⟨(H.o7 h).1,rfl⟩ }⟩)))))
    ·obtain rfl:=H.h5 (by simp[hi]);obtain rfl:=H.h6 (by simp[hi]);have bff:b12=false:=by
      cases hb:b12 with
      | false=>rfl
      | true=>exact absurd (H.o8 (H.o9 (H.o10 (H.o12 hb).2)).2).2 (by simp[hi])
     have hB:=H.below bff;have BFF:=hid bff;clear bff;have HC5:=hid (HCA.out w' hB);have HBW:=hid hB;clear hB;refine wpOp_hidden rfl fun K hK=>?_;go_wp2_with (go_at_call 23;refine HC5.out.mono ?_;rintro e w9 ⟨rfl,hb9⟩;refine Hid.out ?_);refine hid ?_;clear HC5;have HB9:=hid hb9;have HBN:=hid (HBW.out.trans (hb9.mono HBW.out.size));clear hb9;go_wp2;refine OnlyN.mk (hK.out _ _ (e_8 (e_8 (e_8 (e_1 ⟨rfl,rfl,{ H with h7:=fun _=>rfl,below:=fun _=>HBN.out,wd:=fun h=>absurd h (by rw[BFF.out];decide),o7:=fun _=>(by simp[hi]),o8:=fun h=>⟨(H.o8 h).1,rfl⟩ }⟩)))))
    ·obtain rfl:=H.h4 (by simp[hi]);obtain rfl:=H.h7 (by simp[hi]);have bff:b12=false:=by
      cases hb:b12 with
      | false=>rfl
      | true=>exact absurd (H.o9 (H.o10 (H.o12 hb).2)).2 (by simp[hi])
     have hB:=H.below bff;have BFF:=hid bff;clear bff;have HC5:=hid (HCX.out w' hB);have HBW:=hid hB;clear hB;refine wpOp_hidden rfl fun K hK=>?_;go_wp2_with (go_at_call 83;refine HC5.out.mono ?_;rintro e w9 ⟨rfl,hb9⟩;refine Hid.out ?_);refine hid ?_;clear HC5;have HB9:=hid hb9;have HBN:=hid (HBW.out.trans (hb9.mono HBW.out.size));clear hb9;go_wp2;refine OnlyN.mk (hK.out _ _ (e_8 (e_8 (e_8 (e_1 ⟨rfl,rfl,{ H with h8:=fun _=>rfl,below:=fun _=>HBN.out,wd:=fun h=>absurd h (by rw[BFF.out];decide),o8:=fun _=>(by simp[hi]),o9:=fun h=>⟨(H.o9 h).1,rfl⟩ }⟩)))))
    ·obtain rfl:=H.h2 (by simp[hi]);obtain rfl:=H.h8 (by simp[hi]);have hj9:j < inn.length:=HJ.out.2;refine wpOp_hidden rfl fun K hK=>?_;go_wp2;refine OnlyN.mk (hK.out _ _ (e_8 (e_8 (e_8 (e_1 ⟨rfl,rfl,{ H with h9:=fun _=>rfl,o9:=fun _=>(by simp[hi]),o10:=fun h=>rfl }⟩)))))
    ·obtain rfl:=H.h9 (by simp[hi]);have bff:b12=false:=by
      cases hb:b12 with
      | false=>rfl
      | true=>exact absurd (H.o12 hb).2 (by simp[hi])
     have hB:=H.below bff;have BFF:=hid bff;clear bff;have cc:=HCI.out w' hB;clear hB;refine wpOp_hidden rfl fun K hK=>?_;go_wp2;refine OnlyN.mk (hK.out _ _ (e_8 (e_8 (e_8 (e_1 ⟨rfl,rfl,{ H with h10:=fun _=>rfl,o10:=fun _=>(by simp[hi]),o12:=fun h=>⟨(H.o12 h).1,rfl⟩ }⟩)))))
    ·obtain rfl:=H.h0 (by simp[hi]);obtain rfl:=H.h1 (by simp[hi]);have hi9:i < inn.length:=by rw[HL.out.1];exact HI.out
     refine wpOp_hidden rfl fun K hK=>?_;go_wp2;refine OnlyN.mk (hK.out _ _ (e_8 (e_8 (e_8 (e_1 ⟨rfl,rfl,{ H with h11:=fun _=>rfl,o11:=fun _=>(by simp[hi]),o12:=fun h=>⟨rfl,(H.o12 h).2⟩ }⟩)))))
    ·obtain rfl:=H.h11 (by simp[hi]);obtain rfl:=H.h10 (by simp[hi]);have hB:=H.below (by simp[hi]);have HBW:=hid hB;clear hB;obtain⟨cr,fr⟩:=OwnI.cellk (HOB.out.ext HBW.out) (k:=i) (by rw[fillL_len (by rw[HRL.out];exact Nat.le_of_lt HI.out),HRL.out];exact HI.out);refine wpOp_hidden rfl fun K hK=>?_;go_wp2;refine OnlyN.mk (hK.out _ _ (e_8 (e_8 (e_8 (e_1 ⟨rfl,rfl,{ H with below:=fun h=>(by cases h),wd:=fun _=>⟨w',HBW.out,rfl⟩,o12:=fun _=>(by simp[hi]) }⟩)))))
   ·rintro listed act w' hr ⟨b0,b1,b2,b3,b4,b5,b6,b7,b8,b9,b10,b11,b12,v21,v22,v23,v24,v25,v26,v27,v28,v29,v30,v31,v32,rfl,rfl,H⟩;have hn:=List.eq_nil_iff_forall_not_mem.1 hr;have r0:=hn 0;simp[mem_ready,Region.binds] at r0;subst r0;have r1:=hn 1;simp[mem_ready,Region.binds] at r1;subst r1;have r2:=hn 2;simp[mem_ready,Region.binds] at r2;subst r2;have r3:=hn 3;simp[mem_ready,Region.binds] at r3;subst r3;have r4:=hn 4;simp[mem_ready,Region.binds] at r4;subst r4;have r5:=hn 5;simp[mem_ready,Region.binds] at r5;subst r5;have r6:=hn 6;simp[mem_ready,Region.binds] at r6;subst r6;have r7:=hn 7;simp[mem_ready,Region.binds] at r7;subst r7;have r8:=hn 8;simp[mem_ready,Region.binds] at r8;subst r8;have r9:=hn 9;simp[mem_ready,Region.binds] at r9;subst r9;have r10:=hn 10;simp[mem_ready,Region.binds] at r10;subst r10;have r11:=hn 11;simp[mem_ready,Region.binds] at r11;subst r11;have r12:=hn 12;simp[mem_ready,Region.binds] at r12;subst r12;try dsimp only
    obtain⟨W9,hb9,rfl⟩:=H.wd rfl;have HO9:Hid (OwnIA (W9.setCell ⟨gO,i,none⟩ (.int .i64 s)) w0.heap.size (.slice (some ⟨gO,0,none⟩) inn.length inn.length) (fillL res (i+1))):=hid (by
     rw[← HST.out];exact OwnI.set (HOB.out.ext hb9) (by rw[fillL_len (by rw[HRL.out];exact Nat.le_of_lt HI.out),HRL.out,HL.out.1]) i s)
    have HB9:Hid (Below w0.heap.size w0 (W9.setCell ⟨gO,i,none⟩ (.int .i64 s))):=hid ((HBB.out.trans (hb9.mono HBB.out.size)).setCell (p:=⟨gO,i,none⟩) HGL.out _);clear H hr hn hb9;go_wp2;go_roundw
    case rel=>exact⟨i+1,HI.out,(by first | rfl | (rw[HWI.out];rfl)),HO9,HB9⟩
    case measure=>(try rw[HWI.out]);exact meas_step HI.out
  ·obtain rfl:i=hood.length:=Nat.le_antisymm hi (Nat.le_of_not_lt hil);have hfin:=HO.out;rw[← HRL.out,fillL_all] at hfin;have HF:=hid hfin;clear hi hil hfin;go_wp2;go_ret;exact⟨_,_,rfl,OwnI.reads HF.out,HB0.out.trans (HBW.out.mono HB0.out.size)⟩
def better (r:Int × Bool)(n:Int):Int × Bool:=if r.2=false∨n < r.1 then (n,true) else r
def decTo (hood:List (Int × Int))(vars:List (List Int))(ins:List Int)(out:Int)(inn:List Int):Nat→Int × Bool
 | 0=>(0,false)
 | k+1=>if (plainP vars ins out (turnedP hood (k:Int) inn)).2=true then better (decTo hood vars ins out inn k) (plainP vars ins out (turnedP hood (k:Int) inn)).1 else decTo hood vars ins out inn k
def nSym (sym:Int):Nat:=if sym=1 then 4 else if sym=2 then 8 else 1
def placeP (vars:List (List Int))(ins:List Int)(out:Int)(inn:List Int)(c:Int):Nat→List Int→List Bool→Int × Bool→Int × Bool
 | 0,bs,used,r=>better r (outP bs out)
 | L+1,bs,used,r=>if ((inn.length - (L+1):Nat):Int)=c then placeP vars ins out inn c L bs used r else
   ((List.range inn.length).foldl (fun (x:List Int × (Int × Bool)) (k:Nat)=>
    if (k:Int)=c∨used.getD k false=true∨inn.getD k 0 ∈ x.1 then x else
     (inn.getD k 0 :: x.1,if (acceptP vars bs (ins.getD (inn.length - (L+1)) 0) (inn.getD k 0)).1=true then placeP vars ins out inn c L (acceptP vars bs (ins.getD (inn.length - (L+1)) 0) (inn.getD k 0)).2.2 (used.set k true) x.2 else x.2)) ([],r)).2
def permutedP (hood:List (Int × Int))(vars:List (List Int))(ins:List Int)(out:Int)(inn:List Int):Int × Bool:=
 if 0≤ctrP hood then
  if (acceptP vars negL (ins.getD (ctrP hood).toNat 0) (inn.getD (ctrP hood).toNat 0)).1=true then placeP vars ins out inn (ctrP hood) inn.length (acceptP vars negL (ins.getD (ctrP hood).toNat 0) (inn.getD (ctrP hood).toNat 0)).2.2 (List.replicate inn.length false) (0,false)
  else (0,false)
 else placeP vars ins out inn (ctrP hood) inn.length negL (List.replicate inn.length false) (0,false)
def decideP (sym:Int)(hood:List (Int × Int))(vars:List (List Int))(ins:List Int)(out:Int)(inn:List Int):Int × Bool:=
 if sym=3 then permutedP hood vars ins out inn else decTo hood vars ins out inn (nSym sym)
structure DecR (w:World)(hA vA:Option Addr)(t:TabH)(zA:Option Addr)(ins:List Int)(out:Int)(iA:Option Addr)(inn:List Int):Prop where
 pts:Pts w hA t.hood
 hood:hoodB t.hood=true
 perm:permP t.hood t.sym=true
 vrs:Vrs w vA t.vs
 v40:t.vs.length≤40
 gm:GMat w
 rz:Ints w zA ins
 ri:Ints w iA inn
 lz:ins.length=t.hood.length
 li:inn.length=t.hood.length
 ez:∀ e ∈ ins,ElOk t.vs.length e
 eo:ElOk t.vs.length out
theorem DecR.ext {w w':World}{hA vA:Option Addr}{t:TabH}{zA:Option Addr}{ins:List Int}{out:Int}{iA:Option Addr}{inn:List Int}(h:DecR w hA vA t zA ins out iA inn)(hb:Below w.heap.size w w'):DecR w' hA vA t zA ins out iA inn:=
 ⟨h.pts.ext hb,h.hood,h.perm,h.vrs.ext hb,h.v40,h.gm.ext hb,h.rz.ext hb,h.ri.ext hb,h.lz,h.li,h.ez,h.eo⟩
def PermOK:Prop:=∀ (hA:Option Addr)(hc:Nat)(vA:Option Addr)(vc:Nat)(rA:Option Addr)(rc:Nat)(t:TabH)(zA:Option Addr)(zc:Nat)(ins:List Int)(out:Int)(iA:Option Addr)(ic:Nat)(inn:List Int)(w:World),DecR w hA vA t zA ins out iA inn→(∀ s ∈ inn,0≤s∧s < 8)→
  Calls Tryz.prog 75 #[tabV hA hc vA vc rA rc t,.agg #[.slice zA ins.length zc,.int .i64 out],.slice iA inn.length ic] w fun en w'=>en=.returned (.tuple #[.int .i64 (permutedP t.hood (t.vs.map Vh.zs) ins out inn).1,.bool (permutedP t.hood (t.vs.map Vh.zs) ins out inn).2])∧Below w.heap.size w w'
theorem hoodB_len {ps:List (Int × Int)}(h:hoodB ps=true):1≤ps.length∧ps.length≤25:=by
 unfold hoodB at h;simp only[Bool.and_eq_true,decide_eq_true_eq] at h;exact h.1
theorem symP_0 (q:Int × Int):symP 0 q=q:=by
 have h1:matL.getD (symJ 0*4) 0=1:=by decide
 have h2:matL.getD (symJ 0*4+1) 0=0:=by decide
 have h3:matL.getD (symJ 0*4+2) 0=0:=by decide
 have h4:matL.getD (symJ 0*4+3) 0=1:=by decide
 unfold symP;rw[h1,h2,h3,h4];exact Prod.ext (by simp) (by simp)
theorem symP_2 (q:Int × Int):symP 2 q=symP 1 (symP 1 q):=by
 have h1:matL.getD (symJ 2*4) 0 = -1:=by decide
 have h2:matL.getD (symJ 2*4+1) 0=0:=by decide
 have h3:matL.getD (symJ 2*4+2) 0=0:=by decide
 have h4:matL.getD (symJ 2*4+3) 0 = -1:=by decide
 have k1:matL.getD (symJ 1*4) 0=0:=by decide
 have k2:matL.getD (symJ 1*4+1) 0 = -1:=by decide
 have k3:matL.getD (symJ 1*4+2) 0=1:=by decide
 have k4:matL.getD (symJ 1*4+3) 0=0:=by decide
 unfold symP;rw[h1,h2,h3,h4,k1,k2,k3,k4];exact Prod.ext (by simp) (by simp)
theorem symP_3 (q:Int × Int):symP 3 q=symP 1 (symP 2 q):=by
 have h1:matL.getD (symJ 3*4) 0=0:=by decide
 have h2:matL.getD (symJ 3*4+1) 0=1:=by decide
 have h3:matL.getD (symJ 3*4+2) 0 = -1:=by decide
 have h4:matL.getD (symJ 3*4+3) 0=0:=by decide
 have k1:matL.getD (symJ 1*4) 0=0:=by decide
 have k2:matL.getD (symJ 1*4+1) 0 = -1:=by decide
 have k3:matL.getD (symJ 1*4+2) 0=1:=by decide
 have k4:matL.getD (symJ 1*4+3) 0=0:=by decide
 have m1:matL.getD (symJ 2*4) 0 = -1:=by decide
 have m2:matL.getD (symJ 2*4+1) 0=0:=by decide
 have m3:matL.getD (symJ 2*4+2) 0=0:=by decide
 have m4:matL.getD (symJ 2*4+3) 0 = -1:=by decide
 unfold symP;rw[h1,h2,h3,h4,k1,k2,k3,k4,m1,m2,m3,m4];exact Prod.ext (by simp) (by simp)
theorem symsTo_mem {ps:List (Int × Int)}{n:Nat}{k:Nat}(h:(k:Int) ∈ symsTo ps n):∀ q ∈ ps,symP (k:Int) q ∈ ps:=by
 unfold symsTo at h;obtain⟨j,hj,e⟩:=List.mem_map.1 h;have e':j=k:=by omega
 subst e';have h2:=(List.mem_filter.1 hj).2;intro q hq;by_cases hm:symP (j:Int) q ∈ ps
 ·exact hm
 ·have:ps.any (outH ps (j:Int))=true:=List.any_eq_true.2 ⟨q,hq,by unfold outH;rw[decide_eq_false hm];rfl⟩;rw[this] at h2;exact absurd h2 (by simp)
theorem symsTo_full {ps:List (Int × Int)}(h:(symsTo ps 8).length=8):∀ k:Nat,k < 8→(k:Int) ∈ symsTo ps 8:=by
 unfold symsTo at h ⊢;rw[List.length_map] at h;intro k hk;refine List.mem_map.2 ⟨k,?_,rfl⟩;have:(List.range 8).filter (fun (k:Nat)=>!ps.any (outH ps (k:Int)))=List.range 8:=(List.filter_sublist).eq_of_length (by rw[h];rfl);rw[this];exact List.mem_range.2 hk
theorem syms_in {ps:List (Int × Int)}{sym:Int}(hh:hoodB ps=true)(hp:permP ps sym=true)(h3:sym≠3){k:Nat}(hk:k < nSym sym):∀ q ∈ ps,symP (k:Int) q ∈ ps:=by
 have hs:symsP ps=symsTo ps 8:=if_pos hh;by_cases h0:sym=0
 ·subst h0;obtain rfl:k=0:=by unfold nSym at hk;simp at hk;omega
  intro q hq;rw[show ((0:Nat):Int)=0 from rfl,symP_0];exact hq
 ·by_cases h1:sym=1
  ·subst h1;have hm:((1:Nat):Int) ∈ symsTo ps 8:=by
    unfold permP at hp;rw[hs] at hp;simpa using hp
   have c1:=symsTo_mem hm;have hk4:k < 4:=by unfold nSym at hk;simpa using hk
   intro q hq;have e:k=0∨k=1∨k=2∨k=3:=by omega
   rcases e with rfl | rfl | rfl | rfl
   ·rw[show ((0:Nat):Int)=0 from rfl,symP_0];exact hq
   ·exact c1 q hq
   ·rw[show ((2:Nat):Int)=2 from rfl,symP_2];exact c1 _ (c1 _ hq)
   ·rw[show ((3:Nat):Int)=3 from rfl,symP_3,symP_2];exact c1 _ (c1 _ (c1 _ hq))
  ·by_cases h2:sym=2
   ·subst h2;have hm:(symsTo ps 8).length=8:=by
     unfold permP at hp;rw[hs] at hp;simp at hp;omega
    have hk8:k < 8:=by unfold nSym at hk;simpa using hk
    exact symsTo_mem (symsTo_full hm k hk8)
   ·unfold permP at hp;rw[if_neg h0,if_neg h1,if_neg h2,if_neg h3] at hp;cases hp
structure De12J (V:World)(tv:Value)(rv:Value)(kk:Nat)(iv:Value)(nn:Nat)(tl:List Int)(p1:Int)(p2:Bool)(b0 b1 b2 b3 b4 b5 b6 b7 b8 b9 b10 b11:Bool)(v31 v32 v33 v34 v35 v36 v37 v30 v38 v39 v10 v11:Value)(w:World):Prop where
 h0:b0=true→v31=tv
 h1:b1=true→v32=rv
 h2:b2=true→v33=tv
 h3:b3=true→v34=.int .i64 (kk:Int)
 h4:b4=true→v35=iv
 h6:b6=true→v37=.tuple #[.int .i64 p1,.bool p2]
 h7:b7=true→v30=.tuple #[.int .i64 p1,.bool p2]
 h8:b8=true→v38=.int .i64 p1
 h9:b9=true→v39=.bool p2
 h10:b10=true→v10=.int .i64 p1
 h11:b11=true→v11=.bool p2
 below:Below V.heap.size V w
 x5:b5=true→∃ A9 c9,v36=.slice A9 nn c9∧Ints w A9 tl
set_option maxHeartbeats 16000000 in
theorem decide_any (hA:Option Addr)(hc:Nat)(vA:Option Addr)(vc:Nat)(rA:Option Addr)(rc:Nat)(t:TabH)(zA:Option Addr)(zc:Nat)(ins:List Int)(out:Int)(iA:Option Addr)(ic:Nat)(inn:List Int)(w:World)(hR:DecR w hA vA t zA ins out iA inn)(hst:∀ s ∈ inn,0≤s∧s < 8)(hs:t.sym≠3∨PermOK) :
  Calls Tryz.prog 42 #[tabV hA hc vA vc rA rc t,.agg #[.slice zA ins.length zc,.int .i64 out],.slice iA inn.length ic] w fun en w'=>en=.returned (.tuple #[.int .i64 (decideP t.sym t.hood (t.vs.map Vh.zs) ins out inn).1,.bool (decideP t.sym t.hood (t.vs.map Vh.zs) ins out inn).2])∧Below w.heap.size w w':=by
 obtain⟨w0,hw0⟩:∃ w0,w0=(w.alloc (.cells #[.int .i64 t.st,.int .i64 t.sym,.slice hA t.hood.length hc,.slice vA t.vs.length vc,.slice rA t.rs.length rc] 26)).alloc (.cells #[.slice zA ins.length zc,.int .i64 out] 48):=⟨_,rfl⟩
 have hb0:Below w.heap.size w w0:=by rw[hw0];exact (below_new _ _).alloc (by simp) _
 have p0:Blk w0 w.heap.size 26 #[.int .i64 t.st,.int .i64 t.sym,.slice hA t.hood.length hc,.slice vA t.vs.length vc,.slice rA t.rs.length rc]:=by rw[hw0];exact (Blk.new w _ _).alloc _
 have q0:Blk w0 (w.heap.size+1) 48 #[.slice zA ins.length zc,.int .i64 out]:=by rw[hw0];have:=Blk.new (w.alloc (.cells #[.int .i64 t.st,.int .i64 t.sym,.slice hA t.hood.length hc,.slice vA t.vs.length vc,.slice rA t.rs.length rc] 26)) 48 #[.slice zA ins.length zc,.int .i64 out];simpa using this
 have HPERM:Hid (t.sym=3→∀ W,Below w0.heap.size w0 W→Calls Tryz.prog 75 #[tabV hA hc vA vc rA rc t,.agg #[.slice zA ins.length zc,.int .i64 out],.slice iA inn.length ic] W fun en w'=>en=.returned (.tuple #[.int .i64 (permutedP t.hood (t.vs.map Vh.zs) ins out inn).1,.bool (permutedP t.hood (t.vs.map Vh.zs) ins out inn).2])∧Below W.heap.size W w'):=hid (fun h3 W hW=>by
  rcases hs with h | h
  ·exact absurd h3 h
  ·exact h hA hc vA vc rA rc t zA zc ins out iA ic inn W ((hR.ext hb0).ext hW) hst)
 have HTURN:Hid (t.sym≠3→∀ k:Nat,k < nSym t.sym→∀ W,Below w0.heap.size w0 W→Calls Tryz.prog 77 #[tabV hA hc vA vc rA rc t,.int .i64 (k:Int),.slice iA inn.length ic] W fun e w'=>∃ A c,e=.returned (.slice A inn.length c)∧Ints w' A (turnedP t.hood (k:Int) inn)∧Below W.heap.size W w'):=hid (fun h3 k hk W hW=>
  turned_any hA hc vA vc rA rc t (k:Int) iA ic inn W (((hR.ext hb0).ext hW).pts) (((hR.ext hb0).ext hW).ri) hR.li (hoodB_len hR.hood).2 (hoodB_rng hR.hood) (syms_in hR.hood hR.perm h3 hk) (((hR.ext hb0).ext hW).gm))
 have HPLAIN:Hid (∀ (W:World) (k:Int) (A9:Option Addr) (c9:Nat),Below w0.heap.size w0 W→Ints W A9 (turnedP t.hood k inn)→Calls Tryz.prog 76 #[tabV hA hc vA vc rA rc t,.agg #[.slice zA ins.length zc,.int .i64 out],.slice A9 inn.length c9] W fun en w'=>en=.returned (.tuple #[.int .i64 (plainP (t.vs.map Vh.zs) ins out (turnedP t.hood k inn)).1,.bool (plainP (t.vs.map Vh.zs) ins out (turnedP t.hood k inn)).2])∧Below W.heap.size W w'):=hid (fun W k A9 c9 hW hi9=>by
  have hlen:(turnedP t.hood k inn).length=inn.length:=by unfold turnedP;rw[List.length_map,hR.li]
  have:=plain_any hA hc vA vc rA rc t zA zc ins out A9 c9 (turnedP t.hood k inn) W ((hR.ext hb0).ext hW).vrs hR.v40 ((hR.ext hb0).ext hW).rz hi9 (by rw[hlen,hR.li,hR.lz];exact Nat.le_refl _) (by have:=(hoodB_len hR.hood).2;have:=hR.lz;omega) hR.ez hR.eo;rw[hlen] at this;exact this)
 have HB0:=hid hb0;have HP:=hid p0;have HQ:=hid q0;have HW0:=hid hw0;obtain⟨st,sym,hood,vs,rs⟩:=t;unfold tabV at HPERM HTURN HPLAIN ⊢;dsimp only at HPERM HTURN HPLAIN HP HQ HW0 ⊢;obtain⟨vars,hvars⟩:∃ v,v=vs.map Vh.zs:=⟨_,rfl⟩
 rw[← hvars] at HPERM HPLAIN ⊢;have c1:=HP.out.cell_ 1 (.int .i64 sym) rfl;clear hb0 p0 q0 hw0 hR hs hvars hst;by_cases h3:sym=3
 ·have hE:decideP sym hood vars ins out inn=permutedP hood vars ins out inn:=if_pos h3;rw[hE];have hcall:=HPERM.out h3 w0 (Below.refl _ _);obtain⟨pr,hpr⟩:∃ r,r=permutedP hood vars ins out inn:=⟨_,rfl⟩
  rw[← hpr] at hcall ⊢;obtain⟨p1,p2⟩:=pr;dsimp only at hcall ⊢;have HCALL:=hid hcall;subst h3;have c0:=HP.out.cell_ 0 (.int .i64 st) rfl;have c2:=HP.out.cell_ 2 (.slice hA hood.length hc) rfl;have c3:=HP.out.cell_ 3 (.slice vA vs.length vc) rfl;have c4:=HP.out.cell_ 4 (.slice rA rs.length rc) rfl;have r0:=HQ.out.cell_ 0 (.slice zA ins.length zc) rfl;have r1:=HQ.out.cell_ 1 (.int .i64 out) rfl;clear hE hpr hcall HPERM HTURN HPLAIN;go_enter Tryz.func42,Tryz.ntmps42;go_upto_region 1 with fail
  rw[← HW0.out];go_wp2_with (go_at_call 75;refine HCALL.out.mono ?_;rintro en w1 ⟨rfl,hb1⟩;refine Hid.out ?_);refine hid ?_;go_wp2;go_ret2;exact⟨rfl,HB0.out.trans (hb1.mono HB0.out.size)⟩
 ·have hE:decideP sym hood vars ins out inn=decTo hood vars ins out inn (nSym sym):=if_neg h3;obtain⟨ns,hns⟩:∃ n,n=nSym sym:=⟨_,rfl⟩
  rw[hE,← hns];have HTURN3:Hid (∀ k:Nat,k < ns→∀ W,Below w0.heap.size w0 W→Calls Tryz.prog 77 #[.agg #[.int .i64 st,.int .i64 sym,.slice hA hood.length hc,.slice vA vs.length vc,.slice rA rs.length rc],.int .i64 (k:Int),.slice iA inn.length ic] W fun e w'=>∃ A c,e=.returned (.slice A inn.length c)∧Ints w' A (turnedP hood (k:Int) inn)∧Below W.heap.size W w'):=hid (fun k hk=>HTURN.out h3 k (by rw[← hns];exact hk));have hns8:ns≤8:=by rw[hns];unfold nSym;split;decide;split <;> decide
  have HN8:=hid hns8;have d3:(sym == 3)=false:=beq_false_of_ne h3;have HREG:Hid ((sym=1∧ns=4)∨(sym≠1∧sym=2∧ns=8)∨(sym≠1∧sym≠2∧ns=1)):=hid (by
   rw[hns];unfold nSym;by_cases h1:sym=1
   ·exact .inl ⟨h1,if_pos h1⟩
   ·by_cases h2:sym=2
    ·exact .inr (.inl ⟨h1,h2,by rw[if_neg h1,if_pos h2]⟩)
    ·exact .inr (.inr ⟨h1,h2,by rw[if_neg h1,if_neg h2]⟩))
  clear hE hns HPERM HTURN hns8;have HLOOP:Hid (∀ (nv:Int),nv=(ns:Int)→True):=hid (fun _ _=>trivial);rcases HREG.out with ⟨h1,hn⟩ | ⟨h1,h2,hn⟩ | ⟨h1,h2,hn⟩
  ·subst h1 hn;clear h3;go_enter Tryz.func42,Tryz.ntmps42;go_upto_region 1 with fail
   rw[← HW0.out];go_wp2;clear c1 d3;go_loopw [6,7,27] (fun bv fv iv wr=>∃ (k:Nat) (b:Int × Bool),k≤4∧iv=.int .i64 k∧bv=.int .i64 b.1∧fv=.bool b.2∧Hid (decTo hood vars ins out inn k=b)∧Hid (Below w0.heap.size w0 wr)) (fun _ _ iv _=>4 - (intOf iv).toNat)
   case atStart=>exact⟨0,(0,false),Nat.zero_le _,rfl,rfl,rfl,hid rfl,hid (Below.refl _ _)⟩
   case round=>
    obtain⟨k,⟨bz,bf⟩,hk,rfl,rfl,rfl,HD,HBW⟩:=hrel;dsimp only;by_cases hkn:k < 4
    ·have dk:decide ((k:Int) < 4)=true:=decide_eq_true (by omega);have HK:=hid hkn;have hwk:wrap64 ((k:Int)+1)=(k:Int)+1:=by unfold wrap64;omega
     have HWK:=hid hwk;have HTU:=hid (fun W (hW:Below wr.heap.size wr W)=>HTURN3.out k hkn W (HBW.out.trans (hW.mono HBW.out.size)));obtain⟨tl,htl⟩:∃ l,l=turnedP hood (k:Int) inn:=⟨_,rfl⟩
     obtain⟨pr,hpr⟩:∃ r,r=plainP vars ins out tl:=⟨_,rfl⟩
     have HPL:Hid (∀ (W:World) (A9:Option Addr) (c9:Nat),Below wr.heap.size wr W→Ints W A9 tl→Calls Tryz.prog 76 #[.agg #[.int .i64 st,.int .i64 1,.slice hA hood.length hc,.slice vA vs.length vc,.slice rA rs.length rc],.agg #[.slice zA ins.length zc,.int .i64 out],.slice A9 inn.length c9] W fun en w'=>en=.returned (.tuple #[.int .i64 pr.1,.bool pr.2])∧Below W.heap.size W w'):=hid (fun W A9 c9 hW hi9=>by
      have:=HPLAIN.out W (k:Int) A9 c9 (HBW.out.trans (hW.mono HBW.out.size)) (by rw[← htl];exact hi9);rw[← htl,← hpr] at this;exact this)
     rw[← htl] at HTU;have HSTEP:Hid (decTo hood vars ins out inn (k+1)=if pr.2=true then better (bz,bf) pr.1 else (bz,bf)):=hid (by
      show (if (plainP vars ins out (turnedP hood (k:Int) inn)).2=true then _ else _)=_;rw[← htl,← hpr,HD.out])
     obtain⟨p1,p2⟩:=pr;dsimp only at HPL HSTEP;have HPB:=hid (HP.out.below HBW.out HP.out.lt);have HQB:=hid (HQ.out.below HBW.out HQ.out.lt);clear hk hwk htl hpr;go_upto_region 12 with fail
     refine wp_region_J (by kernel_rfl) (fun listed act w'=>∃ b0 b1 b2 b3 b4 b5 b6 b7 b8 b9 b10 b11 v31 v32 v33 v34 v35 v36 v37 v30 v38 v39 v10 v11,listed=#[b0,b1,b2,b3,b4,b5,b6,b7,b8,b9,b10,b11]∧act=Act.mk #[.agg #[.int .i64 st,.int .i64 1,.slice hA hood.length hc,.slice vA vs.length vc,.slice rA rs.length rc],.agg #[.slice zA ins.length zc,.int .i64 out],.slice iA inn.length ic,.pointer (some ⟨w.heap.size,0,none⟩),.pointer (some ⟨w.heap.size+1,0,none⟩),undef,.int .i64 bz,.bool bf,.int .i64 4,.int .i64 ↑k,v10,v11,.pointer (some ⟨w.heap.size,1,none⟩),.int .i64 1,.bool true,.bool true,undef,undef,undef,undef,undef,undef,undef,undef,undef,undef,.int .i64 4,.int .i64 ↑k,.bool true,.int .i64 ↑k,v30,v31,v32,v33,v34,v35,v36,v37,v38,v39,u40,u41,u42,u43,u44,u45,u46,u47,u48,u49,u50,u51,undef,undef] []∧De12J wr (.agg #[.int .i64 st,.int .i64 1,.slice hA hood.length hc,.slice vA vs.length vc,.slice rA rs.length rc]) (.agg #[.slice zA ins.length zc,.int .i64 out]) (k) (.slice iA inn.length ic) (inn.length) (tl) (p1) (p2) b0 b1 b2 b3 b4 b5 b6 b7 b8 b9 b10 b11 v31 v32 v33 v34 v35 v36 v37 v30 v38 v39 v10 v11 w') ?_ ?_ ?_
     ·exact (e_8 (e_8 (e_8 ⟨rfl,rfl,(by constructor;(case below=>exact ((Below.refl _ wr).drew));all_goals simp)⟩)))
     ·rintro i listed act w' hi ⟨b0,b1,b2,b3,b4,b5,b6,b7,b8,b9,b10,b11,v31,v32,v33,v34,v35,v36,v37,v30,v38,v39,v10,v11,rfl,rfl,H⟩;have hi16:i < 12:=by
       obtain⟨-,o,ho,-⟩:=mem_ready.1 hi;exact (Array.getElem?_eq_some_iff.1 ho).1
      obtain rfl | rfl | rfl | rfl | rfl | rfl | rfl | rfl | rfl | rfl | rfl | rfl:i=0∨i=1∨i=2∨i=3∨i=4∨i=5∨i=6∨i=7∨i=8∨i=9∨i=10∨i=11:=by omega
      all_goals simp[mem_ready,Region.binds] at hi
      ·have hB:=H.below;have hcc:=HPB.out.below hB HPB.out.lt;have cc0:=hcc.cell_ 0 (.int .i64 st) rfl;have cc1:=hcc.cell_ 1 (.int .i64 1) rfl;have cc2:=hcc.cell_ 2 (.slice hA hood.length hc) rfl;have cc3:=hcc.cell_ 3 (.slice vA vs.length vc) rfl;have cc4:=hcc.cell_ 4 (.slice rA rs.length rc) rfl;clear hcc;clear hB;refine wpOp_hidden rfl fun K hK=>?_;go_wp2;refine OnlyN.mk (hK.out _ _ (e_8 (e_8 (e_8 ⟨rfl,rfl,{ H with h0:=fun _=>rfl }⟩))))
      ·have hB:=H.below;have hcc:=HQB.out.below hB HQB.out.lt;have cc0:=hcc.cell_ 0 (.slice zA ins.length zc) rfl;have cc1:=hcc.cell_ 1 (.int .i64 out) rfl;clear hcc;clear hB;refine wpOp_hidden rfl fun K hK=>?_;go_wp2;refine OnlyN.mk (hK.out _ _ (e_8 (e_8 (e_8 ⟨rfl,rfl,{ H with h1:=fun _=>rfl }⟩))))
      ·have hB:=H.below;have hcc:=HPB.out.below hB HPB.out.lt;have cc0:=hcc.cell_ 0 (.int .i64 st) rfl;have cc1:=hcc.cell_ 1 (.int .i64 1) rfl;have cc2:=hcc.cell_ 2 (.slice hA hood.length hc) rfl;have cc3:=hcc.cell_ 3 (.slice vA vs.length vc) rfl;have cc4:=hcc.cell_ 4 (.slice rA rs.length rc) rfl;clear hcc;clear hB;refine wpOp_hidden rfl fun K hK=>?_;go_wp2;refine OnlyN.mk (hK.out _ _ (e_8 (e_8 (e_8 ⟨rfl,rfl,{ H with h2:=fun _=>rfl }⟩))))
      ·refine wpOp_hidden rfl fun K hK=>?_;go_wp2;refine OnlyN.mk (hK.out _ _ (e_8 (e_8 (e_8 ⟨rfl,rfl,{ H with h3:=fun _=>rfl }⟩))))
      ·refine wpOp_hidden rfl fun K hK=>?_;go_wp2;refine OnlyN.mk (hK.out _ _ (e_8 (e_8 (e_8 ⟨rfl,rfl,{ H with h4:=fun _=>rfl }⟩))))
      ·obtain rfl:=H.h2 (by simp[hi]);obtain rfl:=H.h3 (by simp[hi]);obtain rfl:=H.h4 (by simp[hi]);have hB:=H.below;have HC5:=hid (HTU.out w' hB);have HBW:=hid hB;clear hB;refine wpOp_hidden rfl fun K hK=>?_;go_wp2_with (go_at_call 77;refine HC5.out.mono ?_;rintro e w9 ⟨A9,c9,rfl,hi9,hb9⟩;refine Hid.out ?_);refine hid ?_;have HI9:=hid hi9;clear HC5 hi9;have HB9:=hid hb9;have HBN:=hid (HBW.out.trans (hb9.mono HBW.out.size));clear hb9;go_wp2;refine OnlyN.mk (hK.out _ _ (e_8 (e_8 (e_8 ⟨rfl,rfl,{ H with below:=HBN.out,x5:=fun _=>⟨A9,c9,rfl,HI9.out⟩ }⟩))))
      ·obtain rfl:=H.h0 (by simp[hi]);obtain rfl:=H.h1 (by simp[hi]);have hB:=H.below;obtain⟨A5,c5,e5,hi5⟩:=H.x5 (by simp[hi]);subst e5;have HC5:=hid (HPL.out w' A5 c5 hB hi5);have HX5:=hid hi5;clear hi5;have HBW:=hid hB;clear hB;refine wpOp_hidden rfl fun K hK=>?_;go_wp2_with (go_at_call 76;refine HC5.out.mono ?_;rintro e w9 ⟨rfl,hb9⟩;refine Hid.out ?_);refine hid ?_;clear HC5;have HB9:=hid hb9;have HBN:=hid (HBW.out.trans (hb9.mono HBW.out.size));clear hb9;go_wp2;refine OnlyN.mk (hK.out _ _ (e_8 (e_8 (e_8 ⟨rfl,rfl,{ H with h6:=fun _=>rfl,below:=HBN.out,x5:=fun h=>(H.x5 h).imp fun A9 h=>h.imp fun c9 h=>⟨h.1,h.2.ext HB9.out⟩ }⟩))))
      ·obtain rfl:=H.h6 (by simp[hi]);refine wpOp_hidden rfl fun K hK=>?_;go_wp2;refine OnlyN.mk (hK.out _ _ (e_8 (e_8 (e_8 ⟨rfl,rfl,{ H with h7:=fun _=>rfl }⟩))))
      ·obtain rfl:=H.h7 (by simp[hi]);refine wpOp_hidden rfl fun K hK=>?_;go_wp2;refine OnlyN.mk (hK.out _ _ (e_8 (e_8 (e_8 ⟨rfl,rfl,{ H with h8:=fun _=>rfl }⟩))))
      ·obtain rfl:=H.h7 (by simp[hi]);refine wpOp_hidden rfl fun K hK=>?_;go_wp2;refine OnlyN.mk (hK.out _ _ (e_8 (e_8 (e_8 ⟨rfl,rfl,{ H with h9:=fun _=>rfl }⟩))))
      ·obtain rfl:=H.h8 (by simp[hi]);refine wpOp_hidden rfl fun K hK=>?_;go_wp2;refine OnlyN.mk (hK.out _ _ (e_8 (e_8 (e_8 ⟨rfl,rfl,{ H with h10:=fun _=>rfl }⟩))))
      ·obtain rfl:=H.h9 (by simp[hi]);refine wpOp_hidden rfl fun K hK=>?_;go_wp2;refine OnlyN.mk (hK.out _ _ (e_8 (e_8 (e_8 ⟨rfl,rfl,{ H with h11:=fun _=>rfl }⟩))))
     ·rintro listed act w' hr ⟨b0,b1,b2,b3,b4,b5,b6,b7,b8,b9,b10,b11,v31,v32,v33,v34,v35,v36,v37,v30,v38,v39,v10,v11,rfl,rfl,H⟩;have hn:=List.eq_nil_iff_forall_not_mem.1 hr;have r0:=hn 0;simp[mem_ready,Region.binds] at r0;subst r0;have r1:=hn 1;simp[mem_ready,Region.binds] at r1;subst r1;have r2:=hn 2;simp[mem_ready,Region.binds] at r2;subst r2;have r3:=hn 3;simp[mem_ready,Region.binds] at r3;subst r3;have r4:=hn 4;simp[mem_ready,Region.binds] at r4;subst r4;have r5:=hn 5;simp[mem_ready,Region.binds] at r5;subst r5;have r6:=hn 6;simp[mem_ready,Region.binds] at r6;subst r6;have r7:=hn 7;simp[mem_ready,Region.binds] at r7;subst r7;have r8:=hn 8;simp[mem_ready,Region.binds] at r8;subst r8;have r9:=hn 9;simp[mem_ready,Region.binds] at r9;subst r9;have r10:=hn 10;simp[mem_ready,Region.binds] at r10;subst r10;have r11:=hn 11;simp[mem_ready,Region.binds] at r11;subst r11;try dsimp only
      obtain⟨A5,c5,e5,-⟩:=H.x5 rfl;obtain rfl:=H.h10 rfl;obtain rfl:=H.h11 rfl;have HB6:=hid (HBW.out.trans (H.below.mono HBW.out.size));obtain⟨w6,rfl⟩:∃ w6:World,w6=w':=⟨_,rfl⟩
      clear H hr hn e5;cases p2 with
      | false=>
       have HST:Hid (decTo hood vars ins out inn (k+1)=(bz,bf)):=hid (by rw[HSTEP.out];rfl);go_wp2;go_roundw
       case rel=>exact⟨k+1,(bz,bf),HK.out,(by first | rfl | (rw[HWK.out];rfl)),rfl,rfl,HST,HB6⟩
       case measure=>(try rw[HWK.out]);exact meas_step HK.out
      | true=>
       cases bf with
       | false=>
        have HST:Hid (decTo hood vars ins out inn (k+1)=(p1,true)):=hid (by rw[HSTEP.out];rfl);go_wp2;go_roundw
        case rel=>exact⟨k+1,(p1,true),HK.out,(by first | rfl | (rw[HWK.out];rfl)),rfl,rfl,HST,HB6⟩
        case measure=>(try rw[HWK.out]);exact meas_step HK.out
       | true=>
        by_cases hlt:p1 < bz
        ·have dl:decide (p1 < bz)=true:=decide_eq_true hlt;have HST:Hid (decTo hood vars ins out inn (k+1)=(p1,true)):=hid (by rw[HSTEP.out,if_pos rfl];unfold better;rw[if_pos (Or.inr hlt)]);clear hlt;go_wp2;go_roundw
         case rel=>exact⟨k+1,(p1,true),HK.out,(by first | rfl | (rw[HWK.out];rfl)),rfl,rfl,HST,HB6⟩
         case measure=>(try rw[HWK.out]);exact meas_step HK.out
        ·have dl:decide (p1 < bz)=false:=decide_eq_false hlt;have HST:Hid (decTo hood vars ins out inn (k+1)=(bz,true)):=hid (by rw[HSTEP.out,if_pos rfl];unfold better;rw[if_neg (by rintro (h | h);cases h;exact hlt h)]);clear hlt;go_wp2;go_roundw
         case rel=>exact⟨k+1,(bz,true),HK.out,(by first | rfl | (rw[HWK.out];rfl)),rfl,rfl,HST,HB6⟩
         case measure=>(try rw[HWK.out]);exact meas_step HK.out
    ·obtain rfl:k=4:=Nat.le_antisymm hk (Nat.le_of_not_lt hkn);have dk:decide (((4:Nat):Int) < 4)=false:=by decide
     clear hk hkn;go_wp2;go_ret2;exact⟨by rw[HD.out] <;> rfl,HB0.out.trans (HBW.out.mono HB0.out.size)⟩
  ·subst h2 hn;clear h3 h1;go_enter Tryz.func42,Tryz.ntmps42;go_upto_region 1 with fail
   rw[← HW0.out];go_wp2;clear c1 d3;go_loopw [6,7,27] (fun bv fv iv wr=>∃ (k:Nat) (b:Int × Bool),k≤8∧iv=.int .i64 k∧bv=.int .i64 b.1∧fv=.bool b.2∧Hid (decTo hood vars ins out inn k=b)∧Hid (Below w0.heap.size w0 wr)) (fun _ _ iv _=>8 - (intOf iv).toNat)
   case atStart=>exact⟨0,(0,false),Nat.zero_le _,rfl,rfl,rfl,hid rfl,hid (Below.refl _ _)⟩
   case round=>
    obtain⟨k,⟨bz,bf⟩,hk,rfl,rfl,rfl,HD,HBW⟩:=hrel;dsimp only;by_cases hkn:k < 8
    ·have dk:decide ((k:Int) < 8)=true:=decide_eq_true (by omega);have HK:=hid hkn;have hwk:wrap64 ((k:Int)+1)=(k:Int)+1:=by unfold wrap64;omega
     have HWK:=hid hwk;have HTU:=hid (fun W (hW:Below wr.heap.size wr W)=>HTURN3.out k hkn W (HBW.out.trans (hW.mono HBW.out.size)));obtain⟨tl,htl⟩:∃ l,l=turnedP hood (k:Int) inn:=⟨_,rfl⟩
     obtain⟨pr,hpr⟩:∃ r,r=plainP vars ins out tl:=⟨_,rfl⟩
     have HPL:Hid (∀ (W:World) (A9:Option Addr) (c9:Nat),Below wr.heap.size wr W→Ints W A9 tl→Calls Tryz.prog 76 #[.agg #[.int .i64 st,.int .i64 2,.slice hA hood.length hc,.slice vA vs.length vc,.slice rA rs.length rc],.agg #[.slice zA ins.length zc,.int .i64 out],.slice A9 inn.length c9] W fun en w'=>en=.returned (.tuple #[.int .i64 pr.1,.bool pr.2])∧Below W.heap.size W w'):=hid (fun W A9 c9 hW hi9=>by
      have:=HPLAIN.out W (k:Int) A9 c9 (HBW.out.trans (hW.mono HBW.out.size)) (by rw[← htl];exact hi9);rw[← htl,← hpr] at this;exact this)
     rw[← htl] at HTU;have HSTEP:Hid (decTo hood vars ins out inn (k+1)=if pr.2=true then better (bz,bf) pr.1 else (bz,bf)):=hid (by
      show (if (plainP vars ins out (turnedP hood (k:Int) inn)).2=true then _ else _)=_;rw[← htl,← hpr,HD.out])
     obtain⟨p1,p2⟩:=pr;dsimp only at HPL HSTEP;have HPB:=hid (HP.out.below HBW.out HP.out.lt);have HQB:=hid (HQ.out.below HBW.out HQ.out.lt);clear hk hwk htl hpr;go_upto_region 12 with fail
     refine wp_region_J (by kernel_rfl) (fun listed act w'=>∃ b0 b1 b2 b3 b4 b5 b6 b7 b8 b9 b10 b11 v31 v32 v33 v34 v35 v36 v37 v30 v38 v39 v10 v11,listed=#[b0,b1,b2,b3,b4,b5,b6,b7,b8,b9,b10,b11]∧act=Act.mk #[.agg #[.int .i64 st,.int .i64 2,.slice hA hood.length hc,.slice vA vs.length vc,.slice rA rs.length rc],.agg #[.slice zA ins.length zc,.int .i64 out],.slice iA inn.length ic,.pointer (some ⟨w.heap.size,0,none⟩),.pointer (some ⟨w.heap.size+1,0,none⟩),undef,.int .i64 bz,.bool bf,.int .i64 8,.int .i64 ↑k,v10,v11,.pointer (some ⟨w.heap.size,1,none⟩),.int .i64 2,.bool false,.bool false,.bool true,.bool true,undef,undef,undef,undef,undef,undef,undef,undef,.int .i64 8,.int .i64 ↑k,.bool true,.int .i64 ↑k,v30,v31,v32,v33,v34,v35,v36,v37,v38,v39,u40,u41,u42,u43,u44,u45,u46,u47,u48,u49,u50,u51,undef,undef] []∧De12J wr (.agg #[.int .i64 st,.int .i64 2,.slice hA hood.length hc,.slice vA vs.length vc,.slice rA rs.length rc]) (.agg #[.slice zA ins.length zc,.int .i64 out]) (k) (.slice iA inn.length ic) (inn.length) (tl) (p1) (p2) b0 b1 b2 b3 b4 b5 b6 b7 b8 b9 b10 b11 v31 v32 v33 v34 v35 v36 v37 v30 v38 v39 v10 v11 w') ?_ ?_ ?_
     ·exact (e_8 (e_8 (e_8 ⟨rfl,rfl,(by constructor;(case below=>exact ((Below.refl _ wr).drew));all_goals simp)⟩)))
     ·rintro i listed act w' hi ⟨b0,b1,b2,b3,b4,b5,b6,b7,b8,b9,b10,b11,v31,v32,v33,v34,v35,v36,v37,v30,v38,v39,v10,v11,rfl,rfl,H⟩;have hi16:i < 12:=by
       obtain⟨-,o,ho,-⟩:=mem_ready.1 hi;exact (Array.getElem?_eq_some_iff.1 ho).1
      obtain rfl | rfl | rfl | rfl | rfl | rfl | rfl | rfl | rfl | rfl | rfl | rfl:i=0∨i=1∨i=2∨i=3∨i=4∨i=5∨i=6∨i=7∨i=8∨i=9∨i=10∨i=11:=by omega
      all_goals simp[mem_ready,Region.binds] at hi
      ·have hB:=H.below;have hcc:=HPB.out.below hB HPB.out.lt;have cc0:=hcc.cell_ 0 (.int .i64 st) rfl;have cc1:=hcc.cell_ 1 (.int .i64 2) rfl;have cc2:=hcc.cell_ 2 (.slice hA hood.length hc) rfl;have cc3:=hcc.cell_ 3 (.slice vA vs.length vc) rfl;have cc4:=hcc.cell_ 4 (.slice rA rs.length rc) rfl;clear hcc;clear hB;refine wpOp_hidden rfl fun K hK=>?_;go_wp2;refine OnlyN.mk (hK.out _ _ (e_8 (e_8 (e_8 ⟨rfl,rfl,{ H with h0:=fun _=>rfl }⟩))))
      ·have hB:=H.below;have hcc:=HQB.out.below hB HQB.out.lt;have cc0:=hcc.cell_ 0 (.slice zA ins.length zc) rfl;have cc1:=hcc.cell_ 1 (.int .i64 out) rfl;clear hcc;clear hB;refine wpOp_hidden rfl fun K hK=>?_;go_wp2;refine OnlyN.mk (hK.out _ _ (e_8 (e_8 (e_8 ⟨rfl,rfl,{ H with h1:=fun _=>rfl }⟩))))
      ·have hB:=H.below;have hcc:=HPB.out.below hB HPB.out.lt;have cc0:=hcc.cell_ 0 (.int .i64 st) rfl;have cc1:=hcc.cell_ 1 (.int .i64 2) rfl;have cc2:=hcc.cell_ 2 (.slice hA hood.length hc) rfl;have cc3:=hcc.cell_ 3 (.slice vA vs.length vc) rfl;have cc4:=hcc.cell_ 4 (.slice rA rs.length rc) rfl;clear hcc;clear hB;refine wpOp_hidden rfl fun K hK=>?_;go_wp2;refine OnlyN.mk (hK.out _ _ (e_8 (e_8 (e_8 ⟨rfl,rfl,{ H with h2:=fun _=>rfl }⟩))))
      ·refine wpOp_hidden rfl fun K hK=>?_;go_wp2;refine OnlyN.mk (hK.out _ _ (e_8 (e_8 (e_8 ⟨rfl,rfl,{ H with h3:=fun _=>rfl }⟩))))
      ·refine wpOp_hidden rfl fun K hK=>?_;go_wp2;refine OnlyN.mk (hK.out _ _ (e_8 (e_8 (e_8 ⟨rfl,rfl,{ H with h4:=fun _=>rfl }⟩))))
      ·obtain rfl:=H.h2 (by simp[hi]);obtain rfl:=H.h3 (by simp[hi]);obtain rfl:=H.h4 (by simp[hi]);have hB:=H.below;have HC5:=hid (HTU.out w' hB);have HBW:=hid hB;clear hB;refine wpOp_hidden rfl fun K hK=>?_;go_wp2_with (go_at_call 77;refine HC5.out.mono ?_;rintro e w9 ⟨A9,c9,rfl,hi9,hb9⟩;refine Hid.out ?_);refine hid ?_;have HI9:=hid hi9;clear HC5 hi9;have HB9:=hid hb9;have HBN:=hid (HBW.out.trans (hb9.mono HBW.out.size));clear hb9;go_wp2;refine OnlyN.mk (hK.out _ _ (e_8 (e_8 (e_8 ⟨rfl,rfl,{ H with below:=HBN.out,x5:=fun _=>⟨A9,c9,rfl,HI9.out⟩ }⟩))))
      ·obtain rfl:=H.h0 (by simp[hi]);obtain rfl:=H.h1 (by simp[hi]);have hB:=H.below;obtain⟨A5,c5,e5,hi5⟩:=H.x5 (by simp[hi]);subst e5;have HC5:=hid (HPL.out w' A5 c5 hB hi5);have HX5:=hid hi5;clear hi5;have HBW:=hid hB;clear hB;refine wpOp_hidden rfl fun K hK=>?_;go_wp2_with (go_at_call 76;refine HC5.out.mono ?_;rintro e w9 ⟨rfl,hb9⟩;refine Hid.out ?_);refine hid ?_;clear HC5;have HB9:=hid hb9;have HBN:=hid (HBW.out.trans (hb9.mono HBW.out.size));clear hb9;go_wp2;refine OnlyN.mk (hK.out _ _ (e_8 (e_8 (e_8 ⟨rfl,rfl,{ H with h6:=fun _=>rfl,below:=HBN.out,x5:=fun h=>(H.x5 h).imp fun A9 h=>h.imp fun c9 h=>⟨h.1,h.2.ext HB9.out⟩ }⟩))))
      ·obtain rfl:=H.h6 (by simp[hi]);refine wpOp_hidden rfl fun K hK=>?_;go_wp2;refine OnlyN.mk (hK.out _ _ (e_8 (e_8 (e_8 ⟨rfl,rfl,{ H with h7:=fun _=>rfl }⟩))))
      ·obtain rfl:=H.h7 (by simp[hi]);refine wpOp_hidden rfl fun K hK=>?_;go_wp2;refine OnlyN.mk (hK.out _ _ (e_8 (e_8 (e_8 ⟨rfl,rfl,{ H with h8:=fun _=>rfl }⟩))))
      ·obtain rfl:=H.h7 (by simp[hi]);refine wpOp_hidden rfl fun K hK=>?_;go_wp2;refine OnlyN.mk (hK.out _ _ (e_8 (e_8 (e_8 ⟨rfl,rfl,{ H with h9:=fun _=>rfl }⟩))))
      ·obtain rfl:=H.h8 (by simp[hi]);refine wpOp_hidden rfl fun K hK=>?_;go_wp2;refine OnlyN.mk (hK.out _ _ (e_8 (e_8 (e_8 ⟨rfl,rfl,{ H with h10:=fun _=>rfl }⟩))))
      ·obtain rfl:=H.h9 (by simp[hi]);refine wpOp_hidden rfl fun K hK=>?_;go_wp2;refine OnlyN.mk (hK.out _ _ (e_8 (e_8 (e_8 ⟨rfl,rfl,{ H with h11:=fun _=>rfl }⟩))))
     ·rintro listed act w' hr ⟨b0,b1,b2,b3,b4,b5,b6,b7,b8,b9,b10,b11,v31,v32,v33,v34,v35,v36,v37,v30,v38,v39,v10,v11,rfl,rfl,H⟩;have hn:=List.eq_nil_iff_forall_not_mem.1 hr;have r0:=hn 0;simp[mem_ready,Region.binds] at r0;subst r0;have r1:=hn 1;simp[mem_ready,Region.binds] at r1;subst r1;have r2:=hn 2;simp[mem_ready,Region.binds] at r2;subst r2;have r3:=hn 3;simp[mem_ready,Region.binds] at r3;subst r3;have r4:=hn 4;simp[mem_ready,Region.binds] at r4;subst r4;have r5:=hn 5;simp[mem_ready,Region.binds] at r5;subst r5;have r6:=hn 6;simp[mem_ready,Region.binds] at r6;subst r6;have r7:=hn 7;simp[mem_ready,Region.binds] at r7;subst r7;have r8:=hn 8;simp[mem_ready,Region.binds] at r8;subst r8;have r9:=hn 9;simp[mem_ready,Region.binds] at r9;subst r9;have r10:=hn 10;simp[mem_ready,Region.binds] at r10;subst r10;have r11:=hn 11;simp[mem_ready,Region.binds] at r11;subst r11;try dsimp only
      obtain⟨A5,c5,e5,-⟩:=H.x5 rfl;obtain rfl:=H.h10 rfl;obtain rfl:=H.h11 rfl;have HB6:=hid (HBW.out.trans (H.below.mono HBW.out.size));obtain⟨w6,rfl⟩:∃ w6:World,w6=w':=⟨_,rfl⟩
      clear H hr hn e5;cases p2 with
      | false=>
       have HST:Hid (decTo hood vars ins out inn (k+1)=(bz,bf)):=hid (by rw[HSTEP.out];rfl);go_wp2;go_roundw
       case rel=>exact⟨k+1,(bz,bf),HK.out,(by first | rfl | (rw[HWK.out];rfl)),rfl,rfl,HST,HB6⟩
       case measure=>(try rw[HWK.out]);exact meas_step HK.out
      | true=>
       cases bf with
       | false=>
        have HST:Hid (decTo hood vars ins out inn (k+1)=(p1,true)):=hid (by rw[HSTEP.out];rfl);go_wp2;go_roundw
        case rel=>exact⟨k+1,(p1,true),HK.out,(by first | rfl | (rw[HWK.out];rfl)),rfl,rfl,HST,HB6⟩
        case measure=>(try rw[HWK.out]);exact meas_step HK.out
       | true=>
        by_cases hlt:p1 < bz
        ·have dl:decide (p1 < bz)=true:=decide_eq_true hlt;have HST:Hid (decTo hood vars ins out inn (k+1)=(p1,true)):=hid (by rw[HSTEP.out,if_pos rfl];unfold better;rw[if_pos (Or.inr hlt)]);clear hlt;go_wp2;go_roundw
         case rel=>exact⟨k+1,(p1,true),HK.out,(by first | rfl | (rw[HWK.out];rfl)),rfl,rfl,HST,HB6⟩
         case measure=>(try rw[HWK.out]);exact meas_step HK.out
        ·have dl:decide (p1 < bz)=false:=decide_eq_false hlt;have HST:Hid (decTo hood vars ins out inn (k+1)=(bz,true)):=hid (by rw[HSTEP.out,if_pos rfl];unfold better;rw[if_neg (by rintro (h | h);cases h;exact hlt h)]);clear hlt;go_wp2;go_roundw
         case rel=>exact⟨k+1,(bz,true),HK.out,(by first | rfl | (rw[HWK.out];rfl)),rfl,rfl,HST,HB6⟩
         case measure=>(try rw[HWK.out]);exact meas_step HK.out
    ·obtain rfl:k=8:=Nat.le_antisymm hk (Nat.le_of_not_lt hkn);have dk:decide (((8:Nat):Int) < 8)=false:=by decide
     clear hk hkn;go_wp2;go_ret2;exact⟨by rw[HD.out] <;> rfl,HB0.out.trans (HBW.out.mono HB0.out.size)⟩
  ·have d1:(sym == 1)=false:=beq_false_of_ne h1;have d2:(sym == 2)=false:=beq_false_of_ne h2;subst hn;clear h3 h1 h2;go_enter Tryz.func42,Tryz.ntmps42;go_upto_region 1 with fail
   rw[← HW0.out];go_wp2;clear c1 d3 d1 d2;go_loopw [6,7,27] (fun bv fv iv wr=>∃ (k:Nat) (b:Int × Bool),k≤1∧iv=.int .i64 k∧bv=.int .i64 b.1∧fv=.bool b.2∧Hid (decTo hood vars ins out inn k=b)∧Hid (Below w0.heap.size w0 wr)) (fun _ _ iv _=>1 - (intOf iv).toNat)
   case atStart=>exact⟨0,(0,false),Nat.zero_le _,rfl,rfl,rfl,hid rfl,hid (Below.refl _ _)⟩
   case round=>
    obtain⟨k,⟨bz,bf⟩,hk,rfl,rfl,rfl,HD,HBW⟩:=hrel;dsimp only;by_cases hkn:k < 1
    ·have dk:decide ((k:Int) < 1)=true:=decide_eq_true (by omega);have HK:=hid hkn;have hwk:wrap64 ((k:Int)+1)=(k:Int)+1:=by unfold wrap64;omega
     have HWK:=hid hwk;have HTU:=hid (fun W (hW:Below wr.heap.size wr W)=>HTURN3.out k hkn W (HBW.out.trans (hW.mono HBW.out.size)));obtain⟨tl,htl⟩:∃ l,l=turnedP hood (k:Int) inn:=⟨_,rfl⟩
     obtain⟨pr,hpr⟩:∃ r,r=plainP vars ins out tl:=⟨_,rfl⟩
     have HPL:Hid (∀ (W:World) (A9:Option Addr) (c9:Nat),Below wr.heap.size wr W→Ints W A9 tl→Calls Tryz.prog 76 #[.agg #[.int .i64 st,.int .i64 sym,.slice hA hood.length hc,.slice vA vs.length vc,.slice rA rs.length rc],.agg #[.slice zA ins.length zc,.int .i64 out],.slice A9 inn.length c9] W fun en w'=>en=.returned (.tuple #[.int .i64 pr.1,.bool pr.2])∧Below W.heap.size W w'):=hid (fun W A9 c9 hW hi9=>by
      have:=HPLAIN.out W (k:Int) A9 c9 (HBW.out.trans (hW.mono HBW.out.size)) (by rw[← htl];exact hi9);rw[← htl,← hpr] at this;exact this)
     rw[← htl] at HTU;have HSTEP:Hid (decTo hood vars ins out inn (k+1)=if pr.2=true then better (bz,bf) pr.1 else (bz,bf)):=hid (by
      show (if (plainP vars ins out (turnedP hood (k:Int) inn)).2=true then _ else _)=_;rw[← htl,← hpr,HD.out])
     obtain⟨p1,p2⟩:=pr;dsimp only at HPL HSTEP;have HPB:=hid (HP.out.below HBW.out HP.out.lt);have HQB:=hid (HQ.out.below HBW.out HQ.out.lt);clear hk hwk htl hpr;go_upto_region 12 with fail
     refine wp_region_J (by kernel_rfl) (fun listed act w'=>∃ b0 b1 b2 b3 b4 b5 b6 b7 b8 b9 b10 b11 v31 v32 v33 v34 v35 v36 v37 v30 v38 v39 v10 v11,listed=#[b0,b1,b2,b3,b4,b5,b6,b7,b8,b9,b10,b11]∧act=Act.mk #[.agg #[.int .i64 st,.int .i64 sym,.slice hA hood.length hc,.slice vA vs.length vc,.slice rA rs.length rc],.agg #[.slice zA ins.length zc,.int .i64 out],.slice iA inn.length ic,.pointer (some ⟨w.heap.size,0,none⟩),.pointer (some ⟨w.heap.size+1,0,none⟩),undef,.int .i64 bz,.bool bf,.int .i64 1,.int .i64 ↑k,v10,v11,.pointer (some ⟨w.heap.size,1,none⟩),.int .i64 sym,.bool false,.bool false,.bool false,.bool false,.bool false,.bool false,undef,undef,undef,undef,undef,undef,.int .i64 1,.int .i64 ↑k,.bool true,.int .i64 ↑k,v30,v31,v32,v33,v34,v35,v36,v37,v38,v39,u40,u41,u42,u43,u44,u45,u46,u47,u48,u49,u50,u51,undef,undef] []∧De12J wr (.agg #[.int .i64 st,.int .i64 sym,.slice hA hood.length hc,.slice vA vs.length vc,.slice rA rs.length rc]) (.agg #[.slice zA ins.length zc,.int .i64 out]) (k) (.slice iA inn.length ic) (inn.length) (tl) (p1) (p2) b0 b1 b2 b3 b4 b5 b6 b7 b8 b9 b10 b11 v31 v32 v33 v34 v35 v36 v37 v30 v38 v39 v10 v11 w') ?_ ?_ ?_
     ·exact (e_8 (e_8 (e_8 ⟨rfl,rfl,(by constructor;(case below=>exact ((Below.refl _ wr).drew));all_goals simp)⟩)))
     ·rintro i listed act w' hi ⟨b0,b1,b2,b3,b4,b5,b6,b7,b8,b9,b10,b11,v31,v32,v33,v34,v35,v36,v37,v30,v38,v39,v10,v11,rfl,rfl,H⟩;have hi16:i < 12:=by
       obtain⟨-,o,ho,-⟩:=mem_ready.1 hi;exact (Array.getElem?_eq_some_iff.1 ho).1
      obtain rfl | rfl | rfl | rfl | rfl | rfl | rfl | rfl | rfl | rfl | rfl | rfl:i=0∨i=1∨i=2∨i=3∨i=4∨i=5∨i=6∨i=7∨i=8∨i=9∨i=10∨i=11:=by omega
      all_goals simp[mem_ready,Region.binds] at hi
      ·have hB:=H.below;have hcc:=HPB.out.below hB HPB.out.lt;have cc0:=hcc.cell_ 0 (.int .i64 st) rfl;have cc1:=hcc.cell_ 1 (.int .i64 sym) rfl;have cc2:=hcc.cell_ 2 (.slice hA hood.length hc) rfl;have cc3:=hcc.cell_ 3 (.slice vA vs.length vc) rfl;have cc4:=hcc.cell_ 4 (.slice rA rs.length rc) rfl;clear hcc;clear hB;refine wpOp_hidden rfl fun K hK=>?_;go_wp2;refine OnlyN.mk (hK.out _ _ (e_8 (e_8 (e_8 ⟨rfl,rfl,{ H with h0:=fun _=>rfl }⟩))))
      ·have hB:=H.below;have hcc:=HQB.out.below hB HQB.out.lt;have cc0:=hcc.cell_ 0 (.slice zA ins.length zc) rfl;have cc1:=hcc.cell_ 1 (.int .i64 out) rfl;clear hcc;clear hB;refine wpOp_hidden rfl fun K hK=>?_;go_wp2;refine OnlyN.mk (hK.out _ _ (e_8 (e_8 (e_8 ⟨rfl,rfl,{ H with h1:=fun _=>rfl }⟩))))
      ·have hB:=H.below;have hcc:=HPB.out.below hB HPB.out.lt;have cc0:=hcc.cell_ 0 (.int .i64 st) rfl;have cc1:=hcc.cell_ 1 (.int .i64 sym) rfl;have cc2:=hcc.cell_ 2 (.slice hA hood.length hc) rfl;have cc3:=hcc.cell_ 3 (.slice vA vs.length vc) rfl;have cc4:=hcc.cell_ 4 (.slice rA rs.length rc) rfl;clear hcc;clear hB;refine wpOp_hidden rfl fun K hK=>?_;go_wp2;refine OnlyN.mk (hK.out _ _ (e_8 (e_8 (e_8 ⟨rfl,rfl,{ H with h2:=fun _=>rfl }⟩))))
      ·refine wpOp_hidden rfl fun K hK=>?_;go_wp2;refine OnlyN.mk (hK.out _ _ (e_8 (e_8 (e_8 ⟨rfl,rfl,{ H with h3:=fun _=>rfl }⟩))))
      ·refine wpOp_hidden rfl fun K hK=>?_;go_wp2;refine OnlyN.mk (hK.out _ _ (e_8 (e_8 (e_8 ⟨rfl,rfl,{ H with h4:=fun _=>rfl }⟩))))
      ·obtain rfl:=H.h2 (by simp[hi]);obtain rfl:=H.h3 (by simp[hi]);obtain rfl:=H.h4 (by simp[hi]);have hB:=H.below;have HC5:=hid (HTU.out w' hB);have HBW:=hid hB;clear hB;refine wpOp_hidden rfl fun K hK=>?_;go_wp2_with (go_at_call 77;refine HC5.out.mono ?_;rintro e w9 ⟨A9,c9,rfl,hi9,hb9⟩;refine Hid.out ?_);refine hid ?_;have HI9:=hid hi9;clear HC5 hi9;have HB9:=hid hb9;have HBN:=hid (HBW.out.trans (hb9.mono HBW.out.size));clear hb9;go_wp2;refine OnlyN.mk (hK.out _ _ (e_8 (e_8 (e_8 ⟨rfl,rfl,{ H with below:=HBN.out,x5:=fun _=>⟨A9,c9,rfl,HI9.out⟩ }⟩))))
      ·obtain rfl:=H.h0 (by simp[hi]);obtain rfl:=H.h1 (by simp[hi]);have hB:=H.below;obtain⟨A5,c5,e5,hi5⟩:=H.x5 (by simp[hi]);subst e5;have HC5:=hid (HPL.out w' A5 c5 hB hi5);have HX5:=hid hi5;clear hi5;have HBW:=hid hB;clear hB;refine wpOp_hidden rfl fun K hK=>?_;go_wp2_with (go_at_call 76;refine HC5.out.mono ?_;rintro e w9 ⟨rfl,hb9⟩;refine Hid.out ?_);refine hid ?_;clear HC5;have HB9:=hid hb9;have HBN:=hid (HBW.out.trans (hb9.mono HBW.out.size));clear hb9;go_wp2;refine OnlyN.mk (hK.out _ _ (e_8 (e_8 (e_8 ⟨rfl,rfl,{ H with h6:=fun _=>rfl,below:=HBN.out,x5:=fun h=>(H.x5 h).imp fun A9 h=>h.imp fun c9 h=>⟨h.1,h.2.ext HB9.out⟩ }⟩))))
      ·obtain rfl:=H.h6 (by simp[hi]);refine wpOp_hidden rfl fun K hK=>?_;go_wp2;refine OnlyN.mk (hK.out _ _ (e_8 (e_8 (e_8 ⟨rfl,rfl,{ H with h7:=fun _=>rfl }⟩))))
      ·obtain rfl:=H.h7 (by simp[hi]);refine wpOp_hidden rfl fun K hK=>?_;go_wp2;refine OnlyN.mk (hK.out _ _ (e_8 (e_8 (e_8 ⟨rfl,rfl,{ H with h8:=fun _=>rfl }⟩))))
      ·obtain rfl:=H.h7 (by simp[hi]);refine wpOp_hidden rfl fun K hK=>?_;go_wp2;refine OnlyN.mk (hK.out _ _ (e_8 (e_8 (e_8 ⟨rfl,rfl,{ H with h9:=fun _=>rfl }⟩))))
      ·obtain rfl:=H.h8 (by simp[hi]);refine wpOp_hidden rfl fun K hK=>?_;go_wp2;refine OnlyN.mk (hK.out _ _ (e_8 (e_8 (e_8 ⟨rfl,rfl,{ H with h10:=fun _=>rfl }⟩))))
      ·obtain rfl:=H.h9 (by simp[hi]);refine wpOp_hidden rfl fun K hK=>?_;go_wp2;refine OnlyN.mk (hK.out _ _ (e_8 (e_8 (e_8 ⟨rfl,rfl,{ H with h11:=fun _=>rfl }⟩))))
     ·rintro listed act w' hr ⟨b0,b1,b2,b3,b4,b5,b6,b7,b8,b9,b10,b11,v31,v32,v33,v34,v35,v36,v37,v30,v38,v39,v10,v11,rfl,rfl,H⟩;have hn:=List.eq_nil_iff_forall_not_mem.1 hr;have r0:=hn 0;simp[mem_ready,Region.binds] at r0;subst r0;have r1:=hn 1;simp[mem_ready,Region.binds] at r1;subst r1;have r2:=hn 2;simp[mem_ready,Region.binds] at r2;subst r2;have r3:=hn 3;simp[mem_ready,Region.binds] at r3;subst r3;have r4:=hn 4;simp[mem_ready,Region.binds] at r4;subst r4;have r5:=hn 5;simp[mem_ready,Region.binds] at r5;subst r5;have r6:=hn 6;simp[mem_ready,Region.binds] at r6;subst r6;have r7:=hn 7;simp[mem_ready,Region.binds] at r7;subst r7;have r8:=hn 8;simp[mem_ready,Region.binds] at r8;subst r8;have r9:=hn 9;simp[mem_ready,Region.binds] at r9;subst r9;have r10:=hn 10;simp[mem_ready,Region.binds] at r10;subst r10;have r11:=hn 11;simp[mem_ready,Region.binds] at r11;subst r11;try dsimp only
      obtain⟨A5,c5,e5,-⟩:=H.x5 rfl;obtain rfl:=H.h10 rfl;obtain rfl:=H.h11 rfl;have HB6:=hid (HBW.out.trans (H.below.mono HBW.out.size));obtain⟨w6,rfl⟩:∃ w6:World,w6=w':=⟨_,rfl⟩
      clear H hr hn e5;cases p2 with
      | false=>
       have HST:Hid (decTo hood vars ins out inn (k+1)=(bz,bf)):=hid (by rw[HSTEP.out];rfl);go_wp2;go_roundw
       case rel=>exact⟨k+1,(bz,bf),HK.out,(by first | rfl | (rw[HWK.out];rfl)),rfl,rfl,HST,HB6⟩
       case measure=>(try rw[HWK.out]);exact meas_step HK.out
      | true=>
       cases bf with
       | false=>
        have HST:Hid (decTo hood vars ins out inn (k+1)=(p1,true)):=hid (by rw[HSTEP.out];rfl);go_wp2;go_roundw
        case rel=>exact⟨k+1,(p1,true),HK.out,(by first | rfl | (rw[HWK.out];rfl)),rfl,rfl,HST,HB6⟩
        case measure=>(try rw[HWK.out]);exact meas_step HK.out
       | true=>
        by_cases hlt:p1 < bz
        ·have dl:decide (p1 < bz)=true:=decide_eq_true hlt;have HST:Hid (decTo hood vars ins out inn (k+1)=(p1,true)):=hid (by rw[HSTEP.out,if_pos rfl];unfold better;rw[if_pos (Or.inr hlt)]);clear hlt;go_wp2;go_roundw
         case rel=>exact⟨k+1,(p1,true),HK.out,(by first | rfl | (rw[HWK.out];rfl)),rfl,rfl,HST,HB6⟩
         case measure=>(try rw[HWK.out]);exact meas_step HK.out
        ·have dl:decide (p1 < bz)=false:=decide_eq_false hlt;have HST:Hid (decTo hood vars ins out inn (k+1)=(bz,true)):=hid (by rw[HSTEP.out,if_pos rfl];unfold better;rw[if_neg (by rintro (h | h);cases h;exact hlt h)]);clear hlt;go_wp2;go_roundw
         case rel=>exact⟨k+1,(bz,true),HK.out,(by first | rfl | (rw[HWK.out];rfl)),rfl,rfl,HST,HB6⟩
         case measure=>(try rw[HWK.out]);exact meas_step HK.out
    ·obtain rfl:k=1:=Nat.le_antisymm hk (Nat.le_of_not_lt hkn);have dk:decide (((1:Nat):Int) < 1)=false:=by decide
     clear hk hkn;go_wp2;go_ret2;exact⟨by rw[HD.out] <;> rfl,HB0.out.trans (HBW.out.mono HB0.out.size)⟩
end Go.Proofs.YtcmbdhopmncmnaaGreatDoor
