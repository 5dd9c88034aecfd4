/-
  texts Dead REval15 SmallL AllN: parts of the proof; conditions stand with each theorem.
-/
import Derived.Test.YtlegfdllipkggaaGreatDoorWG16
import Derived.Test.YtlegfdllipkggaaGreatDoorWG12
import Derived.Test.YtlegfdllipkggaaGreatDoorWG6
import Derived.Test.YtlegfdllipkggaaGreatDoorWG5
import Derived.Test.YtlegfdllipkggaaGreatDoorWG0
import Derived.Test.YtlegfdllipkggaaGreatDoorWG2
import Derived.Test.YtlegfdllipkggaaGreatDoorWG8
namespace Go.Proofs.YtlegfdllipkggaaGreatDoor
open Lib(hid)
open Go.RowKit Go.Maps
set_option maxRecDepth 100000
set_option linter.unusedVariables false
set_option linter.unusedSimpArgs false
def hitD (t:TabL)(inn:List Int):Option Nat:=(List.range t.rows.length).find? fun i=>(matchT t (i:Int) inn).2
def aliveS (t:TabL)(al:List Bool)(inn:List Int):List Bool:=match hitD t inn with
 | some i=>al.set i true
 | none=>al
def aliveTo (t:TabL)(q n:Nat):Nat→List Bool
 | 0=>List.replicate t.rows.length false
 | m+1=>aliveS t (aliveTo t q n m) (intsN (digs q n m))
theorem aliveS_len (t:TabL)(al:List Bool)(inn:List Int):(aliveS t al inn).length=al.length:=by
 unfold aliveS
 split <;> simp
theorem aliveTo_len (t:TabL)(q n:Nat):∀ m,(aliveTo t q n m).length=t.rows.length
 | 0=>by simp[aliveTo]
 | m+1=>by unfold aliveTo;rw[aliveS_len,aliveTo_len t q n m]
theorem find_hit {n i:Nat}{f:Nat→Bool}(hi:i < n)(h:f i=true)(hb:∀ j,j < i→f j=false):(List.range n).find? f=some i:=by
 rw[List.find?_range_eq_some];exact⟨h,List.mem_range.2 hi,fun j hj=>by rw[hb j hj];rfl⟩
theorem find_none {n:Nat}{f:Nat→Bool}(hb:∀ j,j < n→f j=false):(List.range n).find? f=none:=by
 rw[List.find?_range_eq_none];intro j hj;rw[hb j hj];rfl
def deadL (al:List Bool)(k:Nat):List Int:=((List.range k).filter fun i=>!al.getD i false).map fun (i:Nat)=>(i:Int)
def deadT (t:TabL):List Int × Int:=
 if rightTab t=true then (if smallP t.st.toNat t.hood.length=true then (deadL (aliveTo t t.st.toNat t.hood.length (t.st.toNat ^ t.hood.length)) t.rows.length,0) else ([],6)) else ([],2)
theorem deadL_len (al:List Bool)(k:Nat):(deadL al k).length≤k:=by
 unfold deadL;rw[List.length_map];exact Nat.le_trans (List.length_filter_le _ _) (by simp)
theorem deadL_yes {al:List Bool}{k:Nat}(h:al.getD k false=false):deadL al (k+1)=deadL al k ++ [(k:Int)]:=by
 unfold deadL;rw[List.range_succ,List.filter_append,List.map_append];have:[k].filter (fun i=>!al.getD i false)=[k]:=List.filter_cons_of_pos (p:=fun i=>!al.getD i false) (by show (!al.getD k false)=true;rw[h];rfl);rw[this];rfl
theorem deadL_no {al:List Bool}{k:Nat}(h:al.getD k false=true):deadL al (k+1)=deadL al k:=by
 unfold deadL;rw[List.range_succ,List.filter_append,List.map_append];have:[k].filter (fun i=>!al.getD i false)=[]:=List.filter_cons_of_neg (p:=fun i=>!al.getD i false) (by show ¬ (!al.getD k false)=true;rw[h];decide);rw[this]
 simp
set_option maxHeartbeats 16000000 in
theorem dead1_any (hA:Option Addr)(hc:Nat)(vA:Option Addr)(vc:Nat)(rA:Option Addr)(rc:Nat)(t:TabH)(gt gA gL B:Nat)(l:List Nat)(A:Option Addr)(c:Nat)(al:List Bool)(w:World)(hT:TabR w hA vA rA t)(hG:GMat w)(hi:Ints w A (intsN l))(hl:l.length=t.hood.length)(hb:Blk w gt 26 #[.int .i64 t.st,.int .i64 t.sym,.slice hA t.hood.length hc,.slice vA t.vs.length vc,.slice rA t.rs.length rc])
  (ha:Blk w gA 62 #[.slice (some ⟨gL,0,none⟩) t.rs.length t.rs.length]) (ho:OwnBl w B (.slice (some ⟨gL,0,none⟩) t.rs.length t.rs.length) al) (hal:al.length=t.rs.length) (hgl:gL < w.heap.size) (hs:t.sym≠3∨PermOK) :
  Calls Tryz.prog 37 #[.slice A t.hood.length c,.pointer (some ⟨gt,0,none⟩),.pointer (some ⟨gA,0,none⟩)] w fun e w'=>e=.returned (.tuple #[])∧OwnBl w' B (.slice (some ⟨gL,0,none⟩) t.rs.length t.rs.length) (aliveS t.tab al (intsN l))∧Kept (fun g=>g=gL) w w':=by
 have HM:Hid (∀ (i:Nat) W,Below w.heap.size w W→Calls Tryz.prog 30 #[tabV hA hc vA vc rA rc t,.int .i64 (i:Int),.slice A t.hood.length c] W fun en w'=>en=.returned (.tuple #[.int .i64 (matchT t.tab (i:Int) (intsN l)).1,.bool (matchT t.tab (i:Int) (intsN l)).2])∧Below W.heap.size W w'):=hid (fun i W hW=>by
  have:=match_any hA hc vA vc rA rc t (i:Int) A c (intsN l) W (hT.ext hW) (hG.ext hW) (hi.ext hW) hs;rw[intsN_len,hl] at this;exact this)
 have hrl:t.tab.rows.length=t.rs.length:=by unfold TabH.tab;simp
 have hr9:t.rs.length≤9223372036854775807:=hT.rows.le;obtain⟨TL,hTL⟩:∃ x,x=t.tab:=⟨_,rfl⟩
 rw[← hTL] at HM hrl ⊢;obtain⟨st,sym,hood,vs,rs⟩:=t;unfold tabV at HM;dsimp only at HM hl hb ha ho hal hrl hr9 ⊢;have HB:=hid hb;have HA:=hid ha;have HO:=hid ho;have HL:=hid (And.intro hal (And.intro hrl hgl));have c4:=hb.cell_ 4 (.slice rA rs.length rc) rfl;clear hT hG hi hl hb ha ho hal hrl hgl hs hTL;go_enter Tryz.func37,Tryz.ntmps37;go_wp2;clear c4;go_loopw [10] (fun iv wr=>∃ i:Nat,i≤rs.length∧iv=.int .i64 i∧Hid (Below w.heap.size w wr)∧Hid (∀ j:Nat,j < i→(matchT TL (j:Int) (intsN l)).2=false)) (fun iv _=>rs.length - (intOf iv).toNat)
 case atStart=>exact⟨0,Nat.zero_le _,rfl,hid (Below.refl _ _),hid (fun j hj=>absurd hj (by omega))⟩
 case round=>
  obtain⟨i,hi,rfl,HBW,HN⟩:=hrel;by_cases hil:i < rs.length
  ·have HI:=hid hil;have hwi:wrap64 ((i:Int)+1)=(i:Int)+1:=by unfold wrap64;omega
   have HWI:=hid hwi;have hcall:=HM.out i wr HBW.out;obtain⟨mr,hmr⟩:∃ r,r=matchT TL (i:Int) (intsN l):=⟨_,rfl⟩
   rw[← hmr] at hcall;have HMR:=hid hmr;obtain⟨m1,m2⟩:=mr;dsimp only at hcall;have HCALL:=hid hcall;have hbw:=HB.out.below HBW.out HB.out.lt;have x0:=hbw.cell_ 0 (.int .i64 st) rfl;have x1:=hbw.cell_ 1 (.int .i64 sym) rfl;have x2:=hbw.cell_ 2 (.slice hA hood.length hc) rfl;have x3:=hbw.cell_ 3 (.slice vA vs.length vc) rfl;have x4:=hbw.cell_ 4 (.slice rA rs.length rc) rfl;clear hi hwi hcall hmr hbw;go_wp2_with (go_at_call 30;refine HCALL.out.mono ?_;rintro e w2 ⟨rfl,hb2⟩;refine Hid.out ?_);refine hid ?_;have HB2:=hid (HBW.out.trans (hb2.mono HBW.out.size));clear hb2 x0 x1 x2 x3 x4;cases m2 with
   | true=>
    have HS:Hid (aliveS TL al (intsN l)=al.set i true):=hid (by
     have h1:hitD TL (intsN l)=some i:=find_hit (by rw[HL.out.2.1];exact HI.out) (by rw[← HMR.out]) HN.out;unfold aliveS;rw[h1])
    have ho2:OwnBl w2 B (.slice (some ⟨gL,0,none⟩) rs.length rs.length) al:=own_below HO.out HB2.out;have HO2:=hid (ho2.set i true);have y0:=(HA.out.below HB2.out HA.out.lt).cell_ 0 (.slice (some ⟨gL,0,none⟩) rs.length rs.length) rfl;obtain⟨ck,fk⟩:=ho2.cellk (k:=i) (by rw[HL.out.1];exact HI.out);have HKK:Hid (Kept (fun g=>g=gL) w (w2.setCell ⟨gL,i,none⟩ (.bool true))):=hid ((Kept.of_new (fun g=>g=gL) HB2.out).setCell (p:=⟨gL,i,none⟩) (Or.inl rfl) _);clear ho2;go_wp2;(try simp only[Exit.inBlock,Exit.then]);refine bodyPost_ret (results_none rfl _ _ _) rfl ?_;exact⟨rfl,by rw[HS.out];exact HO2.out,HKK.out⟩
   | false=>
    have HN2:Hid (∀ j:Nat,j < i+1→(matchT TL (j:Int) (intsN l)).2=false):=hid (fun j hj=>by
     rcases Nat.lt_or_ge j i with h1 | h1
     ·exact HN.out j h1
     ·obtain rfl:j=i:=by omega
      rw[← HMR.out])
    go_wp2;go_roundw
    case rel=>exact⟨i+1,HI.out,(by first | rfl | (rw[HWI.out];rfl)),HB2,HN2⟩
    case measure=>(try rw[HWI.out]);exact meas_step HI.out
  ·obtain rfl:i=rs.length:=Nat.le_antisymm hi (Nat.le_of_not_lt hil);have HS:Hid (aliveS TL al (intsN l)=al):=hid (by
    have h1:hitD TL (intsN l)=none:=find_none (by rw[HL.out.2.1];exact HN.out);unfold aliveS;rw[h1])
   clear hi hil;go_wp2;(try simp only[Exit.inBlock,Exit.then]);refine bodyPost_end (results_none rfl _ _ _) rfl ?_;exact⟨rfl,by rw[HS.out];exact own_below HO.out HBW.out,Kept.of_new _ HBW.out⟩
set_option maxHeartbeats 16000000 in
theorem dead_any (hA:Option Addr)(hc:Nat)(vA:Option Addr)(vc:Nat)(rA:Option Addr)(rc:Nat)(t:TabH)(w:World)(hT:TabR w hA vA rA t)(hG:GMat w)(hs:t.sym≠3∨PermOK) :
  Calls Tryz.prog 16 #[tabV hA hc vA vc rA rc t] w fun e w'=>∃ v,e=.returned (.tuple #[v,.int .i64 (deadT t.tab).2])∧OwnIA w' w.heap.size v (deadT t.tab).1∧Below w.heap.size w w':=by
 obtain⟨w0,hw0⟩:∃ w0,w0=w.alloc (.cells #[.int .i64 t.st,.int .i64 t.sym,.slice hA t.hood.length hc,.slice vA t.vs.length vc,.slice rA t.rs.length rc] 26):=⟨_,rfl⟩
 have hb0:Below w.heap.size w w0:=by rw[hw0];exact below_new _ _
 have p0:Blk w0 w.heap.size 26 #[.int .i64 t.st,.int .i64 t.sym,.slice hA t.hood.length hc,.slice vA t.vs.length vc,.slice rA t.rs.length rc]:=by rw[hw0];exact Blk.new _ _ _
 have hcr:=rright15_any hA hc vA vc rA rc t w0 (hT.ext hb0) (hG.ext hb0);have HTR:=hid (And.intro hT (And.intro hG hs));have HB0:=hid hb0;have HP:=hid p0;have HW0:=hid hw0;have hh9:t.hood.length≤9223372036854775807:=hT.hood.le;have hr9:t.rs.length≤9223372036854775807:=hT.rows.le;obtain⟨d1,hd1⟩:∃ d,d=(deadT t.tab).1:=⟨_,rfl⟩
 obtain⟨d2,hd2⟩:∃ d,d=(deadT t.tab).2:=⟨_,rfl⟩
 rw[← hd1,← hd2];have HD:Hid (deadT t.tab=(d1,d2)):=hid (by rw[hd1,hd2]);have x0:=p0.cell_ 0 (.int .i64 t.st) rfl;have x1:=p0.cell_ 1 (.int .i64 t.sym) rfl;have x2:=p0.cell_ 2 (.slice hA t.hood.length hc) rfl;have x3:=p0.cell_ 3 (.slice vA t.vs.length vc) rfl;have x4:=p0.cell_ 4 (.slice rA t.rs.length rc) rfl;clear hb0 p0 hw0 hT hG hs hd1 hd2;cases hr:rightTab t.tab with
 | false=>
  have HE:Hid (d1=[]∧d2=2):=hid (by
   have h:=HD.out;unfold deadT at h;rw[if_neg (by rw[hr];simp)] at h;injection h with h1 h2
   exact⟨h1.symm,h2.symm⟩)
  rw[hr] at hcr;unfold tabV at hcr ⊢;have HCR:=hid hcr;clear hr hcr;go_enter Tryz.func16,Tryz.ntmps16;go_upto_region 1 with fail
  rw[← HW0.out];go_wp2_with (go_at_call 24;refine HCR.out.mono ?_;rintro e w1 ⟨rfl,hb1⟩;refine Hid.out ?_);refine hid ?_;go_wp2;go_ret2;exact⟨_,by first | (rw[HE.out.2];done) | (rw[HE.out.2];rfl),by rw[HE.out.1];exact OwnI.nil _ _ _,HB0.out.trans (hb1.mono HB0.out.size)⟩
 | true=>
  obtain⟨⟨hr1,hr2⟩,hr3,hr4,hr5,hr6,-⟩:=rightTab_parts hr;have H400:Hid (t.rs.length≤400):=hid (by rw[show t.tab.rows.length=t.rs.length by unfold TabH.tab;simp] at hr6;exact hr6);have hln:=hoodB_len hr3;obtain⟨q,hq⟩:∃ q:Nat,t.st=(q:Int):=⟨t.st.toNat,by have:t.tab.st=t.st:=rfl;omega⟩
  have hq1:t.tab.st=(q:Int):=hq;have HQ:Hid (2≤q∧q≤8∧1≤t.hood.length∧t.hood.length≤25):=hid ⟨by omega,by omega,hln.1,hln.2⟩;have HD2:Hid ((if smallP q t.hood.length=true then (deadL (aliveTo t.tab q t.hood.length (q ^ t.hood.length)) t.rs.length,(0:Int)) else ([],6))=(d1,d2)):=hid (by
   have h:=HD.out;unfold deadT at h;rw[if_pos hr,hq1,Int.toNat_natCast,show t.tab.rows.length=t.rs.length by unfold TabH.tab;simp] at h;exact h)
  have HSM:Hid (∀ W,Below w0.heap.size w0 W→Calls Tryz.prog 35 #[tabV hA hc vA vc rA rc t] W fun e w'=>e=.returned (.bool (smallP q t.hood.length))∧Below W.heap.size W w'):=hid (fun W hW=>small15_any hA hc vA vc rA rc t q W hq (by have:=HQ.out;omega) (by have:=HQ.out;omega) (by have:=HQ.out;omega));rw[hr] at hcr;unfold tabV at hcr HSM ⊢;have HCR:=hid hcr;have HST:=hid hq;clear hr hcr hr1 hr2 hr3 hr4 hr5 hr6 hln hq hq1;cases hsm:smallP q t.hood.length with
  | false=>
   have HE:Hid (d1=[]∧d2=6):=hid (by
    have h:=HD2.out;rw[if_neg (by rw[hsm];simp)] at h;injection h with h1 h2
    exact⟨h1.symm,h2.symm⟩)
   rw[hsm] at HSM;clear hsm;go_enter Tryz.func16,Tryz.ntmps16;go_upto_region 1 with fail
   rw[← HW0.out];go_wp2_with (go_at_call 24;refine HCR.out.mono ?_;rintro e w1 ⟨rfl,hb1⟩;refine Hid.out ?_);refine hid ?_;have HB1:=hid hb1;have HP1:=hid (HP.out.below hb1 HP.out.lt);have HSC:=hid (HSM.out w1 hb1);clear hb1 x0 x1 x2 x3 x4;have x0:=HP1.out.cell_ 0 (.int .i64 t.st) rfl;have x1:=HP1.out.cell_ 1 (.int .i64 t.sym) rfl;have x2:=HP1.out.cell_ 2 (.slice hA t.hood.length hc) rfl;have x3:=HP1.out.cell_ 3 (.slice vA t.vs.length vc) rfl;have x4:=HP1.out.cell_ 4 (.slice rA t.rs.length rc) rfl;go_wp2_with (go_at_call 35;refine HSC.out.mono ?_;rintro e w2 ⟨rfl,hb2⟩;refine Hid.out ?_);refine hid ?_;go_wp2;go_ret2;exact⟨_,by first | (rw[HE.out.2];done) | (rw[HE.out.2];rfl),by rw[HE.out.1];exact OwnI.nil _ _ _,HB0.out.trans ((HB1.out.trans (hb2.mono HB1.out.size)).mono HB0.out.size)⟩
  | true=>
   have HE:Hid (d1=deadL (aliveTo t.tab q t.hood.length (q ^ t.hood.length)) t.rs.length∧d2=0):=hid (by
    have h:=HD2.out;rw[if_pos hsm] at h;injection h with h1 h2
    exact⟨h1.symm,h2.symm⟩)
   rw[hsm] at HSM;clear hsm;go_enter Tryz.func16,Tryz.ntmps16;go_upto_region 1 with fail
   rw[← HW0.out];go_wp2_with (go_at_call 24;refine HCR.out.mono ?_;rintro e w1 ⟨rfl,hb1⟩;refine Hid.out ?_);refine hid ?_;have HB1:=hid hb1;have HP1:=hid (HP.out.below hb1 HP.out.lt);have HSC:=hid (HSM.out w1 hb1);clear hb1 x0 x1 x2 x3 x4;have x0:=HP1.out.cell_ 0 (.int .i64 t.st) rfl;have x1:=HP1.out.cell_ 1 (.int .i64 t.sym) rfl;have x2:=HP1.out.cell_ 2 (.slice hA t.hood.length hc) rfl;have x3:=HP1.out.cell_ 3 (.slice vA t.vs.length vc) rfl;have x4:=HP1.out.cell_ 4 (.slice rA t.rs.length rc) rfl;go_wp2_with (go_at_call 35;refine HSC.out.mono ?_;rintro e w2 ⟨rfl,hb2⟩;refine Hid.out ?_);refine hid ?_;have HB2:=hid (HB1.out.trans (hb2.mono HB1.out.size));have HP2:=hid (HP.out.below HB2.out HP.out.lt);clear hb2 x0 x1 x2 x3 x4 HB1 HP1 HSC;have x4:=HP2.out.cell_ 4 (.slice rA t.rs.length rc) rfl;obtain⟨i0,hi0,hz0,hz1,hz2⟩:=info_parts Tryz.infoBool;have hmw:w2.heap.size≤w2.heap.size:=Nat.le_refl _;have hrs400:t.rs.length≤400:=H400.out;go_wp2_with (at_make;refine wpList_make_full _ rfl _ _ 62 rfl w2.heap.size 4 i0 _ 1 Tryz.underlying62 hi0 hz0 hz1 .i64 .i64 t.rs.length t.rs.length t.rs.length rfl rfl rfl rfl (by rw[hz2];omega) (by unfold maxLen;omega) hmw ?_);intro w3 ho3 hg3;have hsz3:w2.heap.size < w3.heap.size:=(own_lt' ho3 rfl).1;rw[toList_madeCells_one] at ho3;have hb3:Below w2.heap.size w2 w3:=(Below.refl _ w2).grown hg3 (Nat.le_refl _) (by intro k hk;cases hk);clear hg3 hi0 hz0 hz1 hz2 hmw x4;go_upto_region 6 with fail
   obtain⟨gL,hgL⟩:∃ g,g=w2.heap.size:=⟨_,rfl⟩
   obtain⟨gA,hgA⟩:∃ g,g=w3.heap.size:=⟨_,rfl⟩
   obtain⟨w4,hw4⟩:∃ W,W=w3.alloc (.cells #[.slice (some ⟨w2.heap.size,0,none⟩) t.rs.length t.rs.length] 62):=⟨_,rfl⟩
   have hb4:Below w3.heap.size w3 w4:=by rw[hw4];exact below_new _ _
   have hb24:Below w2.heap.size w2 w4:=hb3.trans (hb4.mono (Nat.le_of_lt hsz3));have ha4:Blk w4 gA 62 #[.slice (some ⟨gL,0,none⟩) t.rs.length t.rs.length]:=by rw[hw4,hgA,hgL];exact Blk.new _ _ _
   have ho4:OwnBl w4 w2.heap.size (.slice (some ⟨gL,0,none⟩) t.rs.length t.rs.length) (aliveTo t.tab q t.hood.length 0):=by
    rw[hgL];unfold OwnBl aliveTo;rw[show t.tab.rows.length=t.rs.length by unfold TabH.tab;simp,List.length_replicate,List.map_replicate];exact own_below ho3 hb4
   have hw2:w.heap.size < w2.heap.size:=by
    have h1:w0.heap.size=w.heap.size+1:=by rw[HW0.out];simp
    have:=HB2.out.size;omega
   have hgl4:gL < w4.heap.size:=by rw[hgL];have:=hb4.size;omega
   have HG:Hid (w.heap.size < gL∧gL < gA∧gL < w4.heap.size):=hid (by refine⟨by omega,by omega,hgl4⟩);have HB4:Hid (Below w.heap.size w w4):=hid (HB0.out.trans ((HB2.out.mono HB0.out.size).trans (hb24.mono (Nat.le_of_lt hw2))));have HP4:Hid (Blk w4 w.heap.size 26 #[.int .i64 t.st,.int .i64 t.sym,.slice hA t.hood.length hc,.slice vA t.vs.length vc,.slice rA t.rs.length rc]):=hid (HP2.out.below hb24 hw2);have HA4:=hid ha4;have HEACH:=hid (each_any q t.hood.length w.heap.size gA gL (fun m W=>OwnBl W w2.heap.size (.slice (some ⟨gL,0,none⟩) t.rs.length t.rs.length) (aliveTo t.tab q t.hood.length m)∧Kept (fun g=>g=gL) w4 W) w4 (by have:=HQ.out;omega) (by have:=HQ.out;omega) (by have:=HQ.out;omega) (by have:=HQ.out;omega)
    ⟨ho4,Kept.refl _ _⟩ hgl4
    (fun m W W' hS hsz hb=>⟨(Kept.of_below hb).own hS.1 (fun g e h=>by
      have:gL=g:=by simpa [Value.ownBlock] using e
      omega),hS.2.overB (Kept.of_below hb) (fun g e=>e)⟩)
    (fun m A c W hm hS hsz hi=>by
     have hbW:Below w.heap.size w W:=HB4.out.trans (hS.2.to_below HB4.out.size (fun g hg e=>by have:=HG.out;omega));have h1:=dead1_any hA hc vA vc rA rc t w.heap.size gA gL w2.heap.size (digs q t.hood.length m) A c (aliveTo t.tab q t.hood.length m) W (HTR.out.1.ext hbW) (HTR.out.2.1.ext hbW) hi (digs_len _ _ _) (hS.2.blk HP4.out (by have:=HG.out;omega)) (hS.2.blk HA4.out (by have:=HG.out;omega)) hS.1 (by rw[aliveTo_len];unfold TabH.tab;simp) (by have:=HG.out;omega) HTR.out.2.2;refine h1.mono ?_;rintro e w' ⟨e1,e2,e3⟩;exact⟨e1,⟨e2,hS.2.trans e3⟩,e3⟩))
   rw[← hw4,← hgL,← hgA];have x0:=HP4.out.cell_ 0 (.int .i64 t.st) rfl;have x2:=HP4.out.cell_ 2 (.slice hA t.hood.length hc) rfl;rw[HST.out] at x0 ⊢;clear hsz3 hb3 hb4 hb24 ha4 ho4 hw2 hgl4 hgL hgA hw4 ho3 HP2 HB2 HP HSM;go_wp2_with (go_at_call 36;refine HEACH.out.mono ?_;rintro e w5 ⟨rfl,⟨ho5,hk5⟩,-⟩;refine Hid.out ?_);refine hid ?_;have HB5:Hid (Below w.heap.size w w5):=hid (HB4.out.trans (hk5.to_below HB4.out.size (fun g hg e=>by have:=HG.out;omega)));have ha5:=hk5.blk HA4.out (by have:=HG.out;omega);have y0:=ha5.cell_ 0 (.slice (some ⟨gL,0,none⟩) t.rs.length t.rs.length) rfl;obtain⟨al,hal⟩:∃ al,al=aliveTo t.tab q t.hood.length (q ^ t.hood.length):=⟨_,rfl⟩
   rw[← hal] at ho5 HE;have HAL:Hid (al.length=t.rs.length):=hid (by rw[hal,aliveTo_len];unfold TabH.tab;simp);have HO5:=hid ho5;have HGL5:Hid (gL < w5.heap.size):=hid (own_lt' ho5 rfl).1;clear ho5 hk5 ha5 hal x0 x2 HEACH HA4 HP4 HB4;go_wp2;clear y0;go_loopw [5,27] (fun ov iv wr=>∃ i:Nat,i≤t.rs.length∧iv=.int .i64 i∧Hid (OwnIA wr w5.heap.size ov (deadL al i))∧Hid (Below w5.heap.size w5 wr)) (fun _ iv _=>t.rs.length - (intOf iv).toNat)
   case atStart=>exact⟨0,Nat.zero_le _,rfl,hid (OwnI.nil _ _ _),hid (Below.refl _ _)⟩
   case round=>
    obtain⟨i,hi,rfl,HO,HB⟩:=hrel;by_cases hil:i < t.rs.length
    ·have hwi:wrap64 ((i:Int)+1)=(i:Int)+1:=by unfold wrap64;omega
     have HI:=hid hil;have HWI:=hid hwi;have hor:=own_belowB HO5.out HGL5.out HB.out;obtain⟨ck,-⟩:=OwnBl.cellk hor (k:=i) (by rw[HAL.out];exact hil);clear hi hwi hor;cases hb:al.getD i false with
     | true=>
      rw[hb] at ck;have ho2:=HO.out;rw[← deadL_no hb] at ho2;have HO2:=hid ho2;clear hb ho2;go_wp2;go_roundw
      case rel=>exact⟨i+1,HI.out,(by first | rfl | (rw[HWI.out];rfl)),HO2,HB⟩
      case measure=>(try rw[HWI.out]);exact meas_step HI.out
     | false=>
      rw[hb] at ck;have HBF:=hid hb;have hown:=HO.out;have hln:(deadL al i).length < 1000000000000:=by have:=deadL_len al i;have:=H400.out;omega
      have hbs:=HB.out.size;clear hb;go_wp2_with (at_builtin;refine wpList_pushI rfl _ _ _ rfl w5.heap.size 3 Tryz.underlying38 Tryz.infoInt _ _ rfl hown _ rfl hln hbs ?_);intro v' w7 ho' hb';have HO7:Hid (OwnIA w7 w5.heap.size v' (deadL al (i+1))):=hid (by rw[deadL_yes HBF.out];exact ho');have HB7:=hid (HB.out.trans hb');clear ho' hb' hown hln hbs ck;go_wp2;go_roundw
      case rel=>exact⟨i+1,HI.out,(by first | rfl | (rw[HWI.out];rfl)),HO7,HB7⟩
      case measure=>(try rw[HWI.out]);exact meas_step HI.out
    ·obtain rfl:i=t.rs.length:=Nat.le_antisymm hi (Nat.le_of_not_lt hil);have HOE:=own_weak HO.out HB5.out.size;have HOEH:=hid HOE;clear hi hil HOE;go_wp2;go_ret2;exact⟨_,by first | (rw[HE.out.2];done) | (rw[HE.out.2];rfl),by rw[HE.out.1];exact HOEH.out,HB5.out.trans (HB.out.mono HB5.out.size)⟩
end Go.Proofs.YtlegfdllipkggaaGreatDoor
namespace Go.Proofs.YtlegfdllipkggaaGreatDoor
open Lib(hid)
open Go.RowKit
set_option maxRecDepth 100000
set_option linter.unusedVariables false
set_option linter.unusedSimpArgs false
def evalP (t:PT)(zs:List Int):Int × Int:=
 if t.right=true then (if zs.length=t.ps.length then (if zs.any (badS t.st)=true then (0,10) else (val t.ns ((t.ns.length - 1:Nat):Int) (zs.map Int.toNat),0)) else (0,2)) else (0,11)
theorem toNat_back {st:Int}:∀ {zs:List Int},zs.any (badS st)=false→(zs.map Int.toNat).map (fun (s:Nat)=>(s:Int))=zs∧∀ s ∈ zs.map Int.toNat,s < st.toNat
 | [],_=>⟨rfl,by simp⟩
 | z :: r,h=>by
  rw[List.any_cons,Bool.or_eq_false_iff] at h;obtain⟨h1,h2⟩:=toNat_back h.2;have h3:=h.1;simp only[badS,Bool.or_eq_false_iff,decide_eq_false_iff_not] at h3;refine⟨?_,?_⟩
  ·rw[List.map_cons,List.map_cons,h1,Int.toNat_of_nonneg (by omega)]
  ·intro s hs;rw[List.map_cons] at hs;rcases List.mem_cons.1 hs with e | e
   ·rw[e];omega
   ·exact h2 s e
set_option maxHeartbeats 4000000 in
theorem reval_any (st:Int)(A:Option Addr)(c:Nat)(ps:List (Int × Int))(B:Option Addr)(d:Nat)(hs:List Hd)(Av:Option Addr)(cv:Nat)(zs:List Int)(w:World)(hp:Pts w A ps)(hN:Nds w B hs)(hz:Ints w Av zs) :
  Calls Tryz.prog 44 #[.agg #[.int .i64 st,.slice A ps.length c,.slice B hs.length d],.slice Av zs.length cv] w fun e w'=>e=.returned (.tuple #[.int .i64 (evalP ⟨st,ps,hs.map Hd.nd⟩ zs).1,.int .i64 (evalP ⟨st,ps,hs.map Hd.nd⟩ zs).2])∧Below w.heap.size w w':=by
 obtain⟨w0,hw0⟩:∃ w0,w0=w.alloc (.cells #[.int .i64 st,.slice A ps.length c,.slice B hs.length d] 31):=⟨_,rfl⟩
 have hb0:Below w.heap.size w w0:=by rw[hw0];exact below_new _ _
 have q1:Blk w0 w.heap.size 31 #[.int .i64 st,.slice A ps.length c,.slice B hs.length d]:=by rw[hw0];exact Blk.new _ _ _
 have HW:=hid hw0;have HB0:=hid hb0;have HP0:=hid q1;have HR:=hid (rright_any st A c ps B d hs w0 (hp.ext hb0) (hN.ext hb0));have HNN:=hid (hN.ext hb0);have HZ:=hid (hz.ext hb0);have HLP:=hid hp.le;have HLZ:=hid hz.le;have c0:=q1.cell_ 0 (.int .i64 st) rfl;have c1:=q1.cell_ 1 (.slice A ps.length c) rfl;have c2:=q1.cell_ 2 (.slice B hs.length d) rfl;clear hw0 hb0 q1 hp hN hz;unfold evalP PT.right;dsimp only;cases hr:rightN st ps (hs.map Hd.nd) with
 | false=>
  rw[if_neg (by simp)];rw[hr] at HR;clear hr;go_enter Tryz.func44,Tryz.ntmps44;go_upto_region 1 with fail
  rw[← HW.out];go_wp2_with (go_at_call 63;refine HR.out.mono ?_);rintro e w1 ⟨rfl,hb⟩;have HBw:=hid (HB0.out.trans (hb.mono HB0.out.size));clear hb c0 c1 c2;go_wp2;go_ret2;exact⟨rfl,HBw.out⟩
 | true=>
  rw[if_pos rfl];rw[hr] at HR;have HRR:=hid hr;clear hr;have HRP:=hid (rightN_parts HRR.out);by_cases y1:zs.length=ps.length
  ·rw[if_pos y1];have d1:(((zs.length:Nat):Int) != ((ps.length:Nat):Int))=false:=by rw[y1];simp
   have HY:=hid y1;have HCV:Hid (zs.any (badS st)=false→∀ W,Below w0.heap.size w0 W→Calls Tryz.prog 64 #[.agg #[.int .i64 st,.slice A ps.length c,.slice B hs.length d],.slice Av zs.length cv] W fun e w'=>e=.returned (.int .i64 (val (hs.map Hd.nd) ((hs.length - 1:Nat):Int) (zs.map Int.toNat)))∧Below W.heap.size W w'):=hid (fun hb W hW=>by
    obtain⟨t1,t2⟩:=toNat_back hb;have:=val12_any st A ps.length c B d hs Av cv (zs.map Int.toNat) W (HNN.out.ext hW) (by rw[t1];exact HZ.out.ext hW) st.toNat HRP.out.2.2.2.2.2.2.2.1 (by have:=HRP.out.2.2.2.1;rw[List.length_map] at this;omega) (by
     have h6:=HRP.out.2.2.2.2.2.1;rw[List.length_map] at h6 ⊢;rw[h6,HY.out]) t2
    rw[List.length_map] at this;exact this)
   rw[List.length_map];obtain⟨rr,hrr⟩:∃ rr,rr=if zs.any (badS st)=true then ((0:Int),(10:Int)) else (val (hs.map Hd.nd) ((hs.length - 1:Nat):Int) (zs.map Int.toNat),0):=⟨_,rfl⟩
   rw[← hrr];have HRE:=hid hrr;clear hrr y1;go_enter Tryz.func44,Tryz.ntmps44;go_upto_region 1 with fail
   rw[← HW.out];go_wp2_with (go_at_call 63;refine HR.out.mono ?_);rintro e w1 ⟨rfl,hb⟩;have HB1:=hid hb;have p1:=HP0.out.below hb HP0.out.lt;have e1:=p1.cell_ 1 (.slice A ps.length c) rfl;clear hb c0 c1 c2 p1;go_wp2;clear e1;go_loopw [6] (fun iv wr=>∃ i:Nat,i≤zs.length∧iv=.int .i64 i∧Hid (Below w0.heap.size w0 wr)∧Hid ((zs.take i).any (badS st)=false)) (fun iv _=>zs.length - (intOf iv).toNat)
   case atStart=>exact⟨0,Nat.zero_le _,rfl,HB1,hid rfl⟩
   case round=>
    obtain⟨i,hi,rfl,HBR,HNO⟩:=hrel;have p1:=HP0.out.below HBR.out HP0.out.lt;have x0:=p1.cell_ 0 (.int .i64 st) rfl;by_cases hil:i < zs.length
    ·obtain⟨b,o,rfl,-,hc⟩:=(HZ.out.ext HBR.out).at_ hil;have htk:(zs.take (i+1)).any (badS st)=badS st zs[i]:=by
      rw[List.take_add_one,List.getElem?_eq_getElem hil,List.any_append,HNO.out,Bool.false_or];exact Bool.or_false _
     have hbd:badS st zs[i]=true→zs.any (badS st)=true:=fun h=>List.any_eq_true.2 ⟨zs[i],List.getElem_mem hil,h⟩;obtain⟨z,hz⟩:∃ z,z=zs[i]:=⟨_,rfl⟩
     rw[← hz] at hc htk hbd;have hwi:wrap64 ((i:Int)+1)=(i:Int)+1:=by have:=HLZ.out;unfold wrap64;omega
     have HI:=hid hil;have HWI:=hid hwi;have HTK:=hid htk;have HBD:=hid hbd;clear hi hz htk hbd p1;by_cases z1:z < 0
     ·have k1:decide (z < 0)=true:=decide_eq_true z1;have HE:Hid (rr=(0,10)):=hid (by rw[HRE.out,if_pos (HBD.out (by unfold badS;rw[k1,Bool.true_or]))]);clear z1;go_wp2;go_quiet (fail)
      go_wp2;go_ret2;exact⟨by first | (rw[HE.out];done) | (rw[HE.out];rfl),by first | exact HB0.out.trans (HBR.out.mono HB0.out.size) | exact HB0.out.trans (HBR.out.drew.mono HB0.out.size) | exact HB0.out.trans ((below_drewN HBR.out _).mono HB0.out.size)⟩
     ·have k1:decide (z < 0)=false:=decide_eq_false z1;by_cases z2:st≤z
      ·have k2:decide (st≤z)=true:=decide_eq_true z2;have HE:Hid (rr=(0,10)):=hid (by rw[HRE.out,if_pos (HBD.out (by unfold badS;rw[k1,Bool.false_or];exact k2))]);clear z1 z2;go_wp2;go_quiet (fail)
       go_wp2;go_ret2;exact⟨by first | (rw[HE.out];done) | (rw[HE.out];rfl),by first | exact HB0.out.trans (HBR.out.mono HB0.out.size) | exact HB0.out.trans (HBR.out.drew.mono HB0.out.size) | exact HB0.out.trans ((below_drewN HBR.out _).mono HB0.out.size)⟩
      ·have k2:decide (st≤z)=false:=decide_eq_false z2;have HN2:Hid ((zs.take (i+1)).any (badS st)=false):=hid (by rw[HTK.out];unfold badS;rw[k1,Bool.false_or];exact k2);clear z1 z2;go_wp2;go_quiet (fail)
       go_wp2;go_roundw
       case rel=>exact⟨i+1,HI.out,(by first | rfl | (rw[HWI.out];rfl)),(by first | exact HBR | exact hid (HBR.out.drew) | exact hid (below_drewN HBR.out _)),HN2⟩
       case measure=>(try rw[HWI.out]);exact meas_step HI.out
    ·obtain rfl:i=zs.length:=Nat.le_antisymm hi (Nat.le_of_not_lt hil);have hno:=HNO.out;rw[List.take_length] at hno;have HE:Hid (rr=(val (hs.map Hd.nd) ((hs.length - 1:Nat):Int) (zs.map Int.toNat),0)):=hid (by rw[HRE.out,if_neg (by rw[hno];simp)]);have HCALL:=hid (HCV.out hno _ HBR.out);have x1:=p1.cell_ 1 (.slice A ps.length c) rfl;have x2:=p1.cell_ 2 (.slice B hs.length d) rfl;clear hi hil hno p1;go_wp2_with (go_at_call 64;refine HCALL.out.mono ?_);rintro e w3 ⟨rfl,hb⟩;have HB3:=hid (HB0.out.trans ((HBR.out.trans (hb.mono HBR.out.size)).mono HB0.out.size));clear hb;go_wp2;go_ret2;exact⟨by first | (rw[HE.out];done) | (rw[HE.out];rfl),HB3.out⟩
  ·rw[if_neg y1];have d1:(((zs.length:Nat):Int) != ((ps.length:Nat):Int))=true:=by simp;omega
   have HY:=hid y1;clear y1;go_enter Tryz.func44,Tryz.ntmps44;go_upto_region 1 with fail
   rw[← HW.out];go_wp2_with (go_at_call 63;refine HR.out.mono ?_);rintro e w1 ⟨rfl,hb⟩;have HBw:=hid (HB0.out.trans (hb.mono HB0.out.size));have p1:=HP0.out.below hb HP0.out.lt;have e1:=p1.cell_ 1 (.slice A ps.length c) rfl;clear hb c0 c1 c2 p1;go_wp2;go_ret2;exact⟨rfl,HBw.out⟩
theorem reval_tv {w:World}{v:Value}{t:PT}{Av:Option Addr}{cv:Nat}{zs:List Int}(h:TreeAt w v t)(hz:Ints w Av zs) :
  Calls Tryz.prog 44 #[v,.slice Av zs.length cv] w fun e w'=>e=.returned (.tuple #[.int .i64 (evalP t zs).1,.int .i64 (evalP t zs).2])∧Below w.heap.size w w':=by
 obtain⟨A,c,B,d,os,rfl,h1,h2,h3⟩:=h;have:=reval_any t.st A c t.ps B d os Av cv zs w h1 h2 hz;rw[h3] at this;exact this
set_option maxHeartbeats 4000000 in
theorem ints12_any (A:Option Addr)(c:Nat)(l:List Int)(B:Option Addr)(d:Nat)(m:List Int)(w:World)(ha:Ints w A l)(hb:Ints w B m) :
  Calls Tryz.prog 18 #[.slice A l.length c,.slice B m.length d] w fun e w'=>e=.returned (.bool (decide (l=m)))∧∃ k,w'=w.drewN k:=by
 have HA:=hid ha;have HB:=hid hb;have hl9:=ha.le;have hm9:=hb.le;clear ha hb;by_cases hlm:l.length=m.length
 ·have d1:(((l.length:Nat):Int) != ((m.length:Nat):Int))=false:=by rw[hlm];simp
  have HLM:=hid hlm;have HL9:=hid hl9;clear hlm hl9 hm9;go_enter Tryz.func18,Tryz.ntmps18;go_wp2;go_loopw [13] (fun iv wr=>∃ i:Nat,i≤l.length∧iv=.int .i64 i∧Hid (∃ k,wr=w.drewN k)∧Hid (l.take i=m.take i)) (fun iv _=>l.length - (intOf iv).toNat)
  case atStart=>exact⟨0,Nat.zero_le _,rfl,hid ⟨0,rfl⟩,hid rfl⟩
  case round=>
   obtain⟨i,hi,rfl,HW,HT⟩:=hrel;obtain⟨k9,hk9⟩:=HW.out;by_cases hil:i < l.length
   ·have him:i < m.length:=by rw[← HLM.out];exact hil
    have hwb:Below w.heap.size w wr:=by rw[hk9];exact below_drewN (Below.refl _ _) _
    obtain⟨b,o,rfl,-,hc⟩:=(HA.out.ext hwb).at_ hil;obtain⟨b2,o2,rfl,-,hc2⟩:=(HB.out.ext hwb).at_ him;have htk:l[i]=m[i]→l.take (i+1)=m.take (i+1):=fun h=>by
     rw[List.take_add_one,List.take_add_one,List.getElem?_eq_getElem hil,List.getElem?_eq_getElem him,HT.out,h]
    have hne:l[i]≠m[i]→l≠m:=fun h e=>h (by subst e;rfl);obtain⟨x,hx⟩:∃ x,x=l[i]:=⟨_,rfl⟩
    obtain⟨y,hy⟩:∃ y,y=m[i]:=⟨_,rfl⟩
    rw[← hx] at hc htk hne;rw[← hy] at hc2 htk hne;have hwi:wrap64 ((i:Int)+1)=(i:Int)+1:=by have:=HL9.out;unfold wrap64;omega
    have HI:=hid hil;have HI2:=hid him;have HWI:=hid hwi;have HTK:=hid htk;have HNE:=hid hne;have HK9:=hid hk9;clear hi hx hy htk hne hwb hk9;by_cases e:x=y
    ·have e1:(x != y)=false:=by rw[e];simp
     have HT2:=hid (HTK.out e);clear e;go_wp2;go_quiet (fail)
     go_wp2;go_roundw
     case rel=>exact⟨i+1,HI.out,(by first | rfl | (rw[HWI.out];rfl)),hid (by rw[HK9.out];exact⟨_,(by first | exact World.drewN_drewN | exact World.drewN_drewN _ _ _)⟩),HT2⟩
     case measure=>(try rw[HWI.out]);exact meas_step HI.out
    ·have e1:(x != y)=true:=by simpa using e
     have HE:Hid (decide (l=m)=false):=hid (decide_eq_false (HNE.out e));clear e;go_wp2;go_quiet (fail)
     go_wp2;go_ret;exact⟨by first | (rw[HE.out];done) | (rw[HE.out];rfl),by rw[HK9.out];exact⟨_,(by first | exact World.drewN_drewN | exact World.drewN_drewN _ _ _)⟩⟩
   ·obtain rfl:i=l.length:=Nat.le_antisymm hi (Nat.le_of_not_lt hil);have HE:Hid (decide (l=m)=true):=hid (decide_eq_true (by
     have h:=HT.out;rw[List.take_length,HLM.out,List.take_length] at h;exact h))
    clear hi hil HT HW;go_wp2;go_ret;exact⟨by first | (rw[HE.out];done) | (rw[HE.out];rfl),(by first | exact⟨_,hk9⟩ | exact⟨_,rfl⟩)⟩
 ·have d1:(((l.length:Nat):Int) != ((m.length:Nat):Int))=true:=by simp;omega
  have HE:Hid (decide (l=m)=false):=hid (decide_eq_false (fun h=>hlm (by rw[h])));clear hlm hl9 hm9;go_enter Tryz.func18,Tryz.ntmps18;go_wp2;go_ret;exact⟨by first | (rw[HE.out];done) | (rw[HE.out];rfl),⟨0,rfl⟩⟩
def lineL:List (Int × Int):=[(-1,0),(0,0),(1,0)]
set_option maxHeartbeats 4000000 in
theorem line_any (w:World) :
  Calls Tryz.prog 19 #[] w fun e w'=>∃ A c,e=.returned (.slice A 3 c)∧Pts w' A lineL∧Below w.heap.size w w':=by
 have h1:OwnP 56 (w.alloc (.cells #[.int .i64 (-1),.int .i64 0,.int .i64 0,.int .i64 0,.int .i64 1,.int .i64 0] 56)) w.heap.size (.slice (some ⟨w.heap.size,0,none⟩) 3 3) lineL:=
  World.ownsRow_lit (base:=w.heap.size) (e:=56) (size:=2) w #[.int .i64 (-1),.int .i64 0,.int .i64 0,.int .i64 0,.int .i64 1,.int .i64 0] 3 (Nat.le_refl _) (by decide) rfl
 obtain⟨A,c,e,hp,-⟩:=h1.pts;injection e with e e2 e3
 subst e;clear e2 e3;have HP:=hid hp;clear hp h1;go_enter Tryz.func19,Tryz.ntmps19;go_wp2;go_ret;exact⟨_,_,rfl,HP.out,below_new _ _⟩
theorem replicate_snoc (n:Nat)(a:Int):List.replicate (n+1) a=List.replicate n a ++ [a]:=by
 rw[List.replicate_succ']
set_option maxHeartbeats 4000000 in
theorem all_any (lv:Int)(st:Nat)(k:Int)(hst:st≤1000)(w:World) :
  Calls Tryz.prog 39 #[.int .i64 lv,.int .i64 st,.int .i64 k] w fun e w'=>∃ zA zc,e=.returned (.agg #[.int .i64 lv,.slice zA st zc])∧OwnIA w' w.heap.size (.slice zA st zc) (List.replicate st k)∧Below w.heap.size w w':=by
 have HS:=hid hst;clear hst;go_enter Tryz.func39,Tryz.ntmps39;go_upto_region 2 with fail
 obtain⟨w1,hw1⟩:∃ W,W=(w.alloc (.cells #[.int .i64 0,.slice none 0 0] 58)).alloc (.cells #[.int .i64 lv,.slice none 0 0] 58):=⟨_,rfl⟩
 have hr1:Blk w1 w.heap.size 58 #[.int .i64 0,.slice none 0 0]:=by rw[hw1];exact (Blk.new _ _ _).alloc _
 have hx1:Blk w1 (w.heap.size+1) 58 #[.int .i64 lv,.slice none 0 0]:=by rw[hw1];exact blk_two' _ _ _ _
 have hb1:Below w.heap.size w w1:=by rw[hw1];exact (below_new _ _).alloc (by simp) _
 rw[← hw1];have HR1:=hid hr1;have HX1:=hid hx1;have HB1:=hid hb1;clear hr1 hx1 hb1 hw1;go_wp2;go_loopw [8] (fun iv wr=>∃ i:Nat,i≤st∧iv=.int .i64 i∧Hid (w1.heap.size≤wr.heap.size)∧∃ A c,Hid (Blk wr (w.heap.size+1) 58 #[.int .i64 lv,.slice A i c])∧Hid (Blk wr w.heap.size 58 #[.int .i64 0,.slice none 0 0])∧Hid (OwnIA wr w1.heap.size (.slice A i c) (List.replicate i k))∧Hid (Below w.heap.size w wr)) (fun iv _=>st - (intOf iv).toNat)
 case atStart=>exact⟨0,Nat.zero_le _,rfl,hid (Nat.le_refl _),none,0,HX1,HR1,hid (OwnI.nil _ _ _),HB1⟩
 case round=>
  obtain⟨i,hi,rfl,HSZ,A,c,HX,HR,HO,HB⟩:=hrel;have c0:=HX.out.cell_ 0 (.int .i64 lv) rfl;have c1:=HX.out.cell_ 1 (.slice A i c) rfl;by_cases hil:i < st
  ·have hwi:wrap64 ((i:Int)+1)=(i:Int)+1:=by have:=HS.out;unfold wrap64;omega
   have HI:=hid hil;have HWI:=hid hwi;have hown:=HO.out;have hln:(List.replicate i k).length < 1000000000000:=by rw[List.length_replicate];have:=HS.out;omega
   have hbs:=HSZ.out;clear hi;go_wp2_with (at_builtin;refine wpList_pushI rfl _ _ _ rfl w1.heap.size 3 Tryz.underlying38 Tryz.infoInt _ _ rfl hown _ rfl hln hbs ?_);intro v' w7 ho' hb';obtain⟨A2,c2,e2,-,-⟩:=OwnI.ints ho';rw[List.length_append,List.length_replicate,List.length_singleton] at e2;subst e2;have hx7:=HX.out.below hb' HX1.out.lt;have hr7:=HR.out.below hb' HR1.out.lt;have d0:=hx7.cell_ 0 (.int .i64 lv) rfl;have d1:=hx7.cell_ 1 (.slice A i c) rfl;have f1:=hx7.frozen 1;have HX7:Hid (Blk (w7.setCell ⟨w.heap.size+1,1,none⟩ (.slice A2 (i+1) c2)) (w.heap.size+1) 58 #[.int .i64 lv,.slice A2 (i+1) c2]):=hid (hx7.set_ 1 _);have HR7:Hid (Blk (w7.setCell ⟨w.heap.size+1,1,none⟩ (.slice A2 (i+1) c2)) w.heap.size 58 #[.int .i64 0,.slice none 0 0]):=hid (hr7.far (p:=⟨w.heap.size+1,1,none⟩) (by simp) _);have HO7:Hid (OwnIA (w7.setCell ⟨w.heap.size+1,1,none⟩ (.slice A2 (i+1) c2)) w1.heap.size (.slice A2 (i+1) c2) (List.replicate (i+1) k)):=hid (by
    rw[replicate_snoc];exact ((Kept.refl (fun g=>g=w.heap.size+1) w7).setCell (p:=⟨w.heap.size+1,1,none⟩) (Or.inl rfl) _).own ho' (fun g g1 g2=>by subst g2;have:=(own_lt' ho' g1).2;have:=HX1.out.lt;omega))
   have HB7:Hid (Below w.heap.size w (w7.setCell ⟨w.heap.size+1,1,none⟩ (.slice A2 (i+1) c2))):=hid ((HB.out.trans (hb'.mono HB1.out.size)).setCell (p:=⟨w.heap.size+1,1,none⟩) (by simp) _);have HSZ7:Hid (w1.heap.size≤(w7.setCell ⟨w.heap.size+1,1,none⟩ (.slice A2 (i+1) c2)).heap.size):=hid (by have:=hb'.size;have:=HSZ.out;simp;omega);clear ho' hb' hown hln hbs hx7 hr7 c0 c1;go_wp2;go_roundw
   case rel=>exact⟨i+1,HI.out,(by first | rfl | (rw[HWI.out];rfl)),HSZ7,A2,c2,HX7,HR7,HO7,HB7⟩
   case measure=>(try rw[HWI.out]);exact meas_step HI.out
  ·obtain rfl:i=st:=Nat.le_antisymm hi (Nat.le_of_not_lt hil);have r0:=HR.out.cell_ 0 (.int .i64 0) rfl;have r1:=HR.out.cell_ 1 (.slice none 0 0) rfl;have f0:=HR.out.frozen 0;have f1:=HR.out.frozen 1;clear hi hil;go_wp2;have hq:Blk ((wr.setCell ⟨w.heap.size,0,none⟩ (.int .i64 lv)).setCell ⟨w.heap.size,1,none⟩ (.slice A i c)) w.heap.size 58 #[.int .i64 lv,.slice A i c]:=(HR.out.set_ 0 (.int .i64 lv)).set_ 1 (.slice A i c);have hk:Kept (fun g=>g=w.heap.size) wr ((wr.setCell ⟨w.heap.size,0,none⟩ (.int .i64 lv)).setCell ⟨w.heap.size,1,none⟩ (.slice A i c)):=((Kept.refl (fun g=>g=w.heap.size) wr).setCell (p:=⟨w.heap.size,0,none⟩) (Or.inl rfl) _).setCell (p:=⟨w.heap.size,1,none⟩) (Or.inl rfl) _;refine bodyPost_ret (results_cell_row Tryz.results39 _ _ w.heap.size 58 #[.int .i64 lv,.slice A i c] (0,0) _ rfl hq Tryz.underlying58 rfl (by kernel_rfl)) rfl ⟨A,c,rfl,?_,?_⟩
   ·exact own_weak (hk.own HO.out (fun g g1 g2=>by subst g2;have:=(own_lt' HO.out g1).2;have:=HR1.out.lt;omega)) HB1.out.size
   ·exact (HB.out.setCell (p:=⟨w.heap.size,0,none⟩) (by simp) _).setCell (p:=⟨w.heap.size,1,none⟩) (by simp) _
end Go.Proofs.YtlegfdllipkggaaGreatDoor
