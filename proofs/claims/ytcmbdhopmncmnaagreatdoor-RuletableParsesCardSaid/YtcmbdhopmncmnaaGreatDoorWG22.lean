/-
  texts RTxt11 LawP11: parts of the proof; conditions stand with each theorem.
-/
import Derived.Test.YtcmbdhopmncmnaaGreatDoorWG21
import Derived.Test.YtcmbdhopmncmnaaGreatDoorWG14
import Derived.Test.YtcmbdhopmncmnaaGreatDoorWG18
import Derived.Test.YtcmbdhopmncmnaaGreatDoorWG15
namespace Go.Proofs.YtcmbdhopmncmnaaGreatDoor
open Lib(hid)
open Go.RowKit
set_option maxRecDepth 100000
set_option linter.unusedVariables false
set_option linter.unusedSimpArgs false
def nmDn (h:List (Int × Int)):Nat→Wd
 | 0=>[]
 | j+1=>if h=hoodsP.getD (3 - j) [] then hoodsW.getD (3 - j) [] else nmDn h j
theorem nmDn_all (h:List (Int × Int)):nmDn h 4=nmTo h 4:=by
 by_cases h0:h=mooreP
 ·subst h0;decide
 by_cases h1:h=neumP
 ·subst h1;decide
 by_cases h2:h=hexP
 ·subst h2;decide
 by_cases h3:h=line11
 ·subst h3;decide
 ·rw[nmTo_miss (k:=3) (fun e=>h3 e.symm),nmTo_miss (k:=2) (fun e=>h2 e.symm),nmTo_miss (k:=1) (fun e=>h1 e.symm),nmTo_miss (k:=0) (fun e=>h0 e.symm)];unfold nmDn;rw[if_neg (show ¬ h=hoodsP.getD (3 - 3) [] from h0)];unfold nmDn;rw[if_neg (show ¬ h=hoodsP.getD (3 - 2) [] from h1)];unfold nmDn;rw[if_neg (show ¬ h=hoodsP.getD (3 - 1) [] from h2)];unfold nmDn;rw[if_neg (show ¬ h=hoodsP.getD (3 - 0) [] from h3)];rfl
theorem nmDn_hit {h:List (Int × Int)}{k:Nat}(hk:k < 4)(e:h=hoodsP.getD k []):nmDn h (4 - k)=hoodsW.getD k []:=by
 rw[show 4 - k=(3 - k)+1 by omega];unfold nmDn;rw[show 3 - (3 - k)=k by omega,if_pos e]
theorem nmDn_miss {h:List (Int × Int)}{k:Nat}(hk:k < 4)(e:¬ h=hoodsP.getD k []):nmDn h (4 - k)=nmDn h (3 - k):=by
 rw[show 4 - k=(3 - k)+1 by omega];show (if h=hoodsP.getD (3 - (3 - k)) [] then _ else nmDn h (3 - k))=_;rw[show 3 - (3 - k)=k by omega,if_neg e]
theorem str2 (a b c:List UInt8):Value.string (⟨a.toArray⟩ ++ ⟨b.toArray⟩ ++ ⟨c.toArray⟩)=.string ⟨(a ++ b ++ c).toArray⟩:=by rw[bytes_app,bytes_app]
theorem str3 (a b c d:List UInt8):Value.string (⟨a.toArray⟩ ++ ⟨b.toArray⟩ ++ ⟨c.toArray⟩ ++ ⟨d.toArray⟩)=.string ⟨(a ++ b ++ c ++ d).toArray⟩:=by rw[bytes_app,bytes_app,bytes_app]
theorem len5 {a d x:List UInt8}(h1:a.length≤2760)(h2:d.length≤2)(h3:x.length≤60):(a ++ ([118,97,114,32,118] ++ d) ++ x).length≤2900:=by
 simp only[List.length_append,List.length_cons,List.length_nil];omega
theorem meas_t11 {n k:Nat}(h:k < n):n - (intOf (.int .i64 ((k:Int)+1))).toNat < n - (intOf (.int .i64 (k:Int))).toNat:=by
 simp[intOf];omega
theorem int_lt11 {i n:Nat}(h:i < n):(i:Int) < (n:Int):=by omega
theorem meas_d {q:Nat}:(intOf (.int .i64 ((q:Int) - 1))+1).toNat < (intOf (.int .i64 (q:Int))+1).toNat:=by simp[intOf]
structure RnJ (w0:World)(P:Nat)(hA:Option Addr)(hc:Nat)(hood:List (Int × Int))(k:Nat)(b0 b1 b2 b3 b4:Bool)(v17 v18 v19 v20 v21:Value)(w:World):Prop where
 below:Below w0.heap.size w0 w
 h0:b0=true→v17=.pointer (some ⟨P,2,none⟩)
 h1:b1=true→v18=.slice hA hood.length hc
 h2:b2=true→v19=.int .i64 (k:Int)
 h3:b3=true→∃ A c,v20=.slice A (hoodsP.getD k []).length c∧Pts w A (hoodsP.getD k [])
 h4:b4=true→v21=.bool (decide (hood=hoodsP.getD k []))
section
variable {w0 : World} {P : Nat} {hA : Option Addr} {hc : Nat} {hood : List (Int × Int)} {k : Nat} {b0 b1 b2 b3 b4 : Bool} {v17 v18 v19 v20 v21 : Value} {w w' : World}
theorem RnJ.world (H:RnJ w0 P hA hc hood k b0 b1 b2 b3 b4 v17 v18 v19 v20 v21 w)(hb:Below w.heap.size w w'):RnJ w0 P hA hc hood k b0 b1 b2 b3 b4 v17 v18 v19 v20 v21 w':=
 {H with below:=H.below.trans (hb.mono H.below.size),h3:=fun h=>by obtain⟨A,c,e,hp⟩:=H.h3 h;exact⟨A,c,e,hp.ext hb⟩ }
end
structure RhJ (w0:World)(P:Nat)(st:Int)(sym:Int)(ds:List UInt8)(nm:List UInt8)(sy:List UInt8)(L3:List UInt8)(L4:List UInt8)(L6:List UInt8)(L7:List UInt8)(L12:List UInt8)(L13:List UInt8)(b0 b1 b2 b3 b4 b5 b6 b7 b8 b9 b10 b11 b12 b13 b14 b15:Bool)(v28 v29 v30 v31 v32 v33 v34 v35 v36 v37 v38 v39 v40 v41 v42 v5:Value)(w:World):Prop where
 below:Below w0.heap.size w0 w
 h0:b0=true→v28=.pointer (some ⟨P,0,none⟩)
 h1:b1=true→v29=.int .i64 st
 h2:b2=true→v30=.string ⟨ds.toArray⟩
 h3:b3=true→v31=.string ⟨L3.toArray⟩
 h4:b4=true→v32=.string ⟨L4.toArray⟩
 h5:b5=true→v33=.string ⟨nm.toArray⟩
 h6:b6=true→v34=.string ⟨L6.toArray⟩
 h7:b7=true→v35=.string ⟨L7.toArray⟩
 h8:b8=true→∃ g,v36=.slice (some ⟨g,0,none⟩) 4 4∧Sts w (some ⟨g,0,none⟩) symsB
 h9:b9=true→v37=.pointer (some ⟨P,1,none⟩)
 h10:b10=true→v38=.int .i64 sym
 h11:b11=true→∃ g,v39=.pointer (some ⟨g,sym.toNat,none⟩)∧w.cell? ⟨g,sym.toNat,none⟩=some (.string ⟨sy.toArray⟩)
 h12:b12=true→v40=.string ⟨sy.toArray⟩
 h13:b13=true→v41=.string ⟨L12.toArray⟩
 h14:b14=true→v42=.string ⟨L13.toArray⟩
 h15:b15=true→v5=.string ⟨L13.toArray⟩
section
variable {w0 : World} {P : Nat} {st : Int} {sym : Int} {ds : List UInt8} {nm : List UInt8} {sy : List UInt8} {L3 : List UInt8} {L4 : List UInt8} {L6 : List UInt8} {L7 : List UInt8} {L12 : List UInt8} {L13 : List UInt8} {b0 b1 b2 b3 b4 b5 b6 b7 b8 b9 b10 b11 b12 b13 b14 b15 : Bool} {v28 v29 v30 v31 v32 v33 v34 v35 v36 v37 v38 v39 v40 v41 v42 v5 : Value} {w w' : World}
theorem RhJ.world (H:RhJ w0 P st sym ds nm sy L3 L4 L6 L7 L12 L13 b0 b1 b2 b3 b4 b5 b6 b7 b8 b9 b10 b11 b12 b13 b14 b15 v28 v29 v30 v31 v32 v33 v34 v35 v36 v37 v38 v39 v40 v41 v42 v5 w)(hb:Below w.heap.size w w'):RhJ w0 P st sym ds nm sy L3 L4 L6 L7 L12 L13 b0 b1 b2 b3 b4 b5 b6 b7 b8 b9 b10 b11 b12 b13 b14 b15 v28 v29 v30 v31 v32 v33 v34 v35 v36 v37 v38 v39 v40 v41 v42 v5 w':=
 {H with below:=H.below.trans (hb.mono H.below.size),h8:=fun h=>by obtain⟨g,e,h2⟩:=H.h8 h;exact⟨g,e,h2.ext hb⟩,h11:=fun h=>by obtain⟨g,e,h2⟩:=H.h11 h;exact⟨g,e,(hb.cell (p:=⟨g,sym.toNat,none⟩) (World.block_lt_of_cell? _ _ h2)).trans h2⟩ }
end
set_option maxHeartbeats 16000000 in
theorem rtext_any (hA:Option Addr)(hc:Nat)(vA:Option Addr)(vc:Nat)(rA:Option Addr)(rc:Nat)(t:TabH)(w:World)(hT:TabR w hA vA rA t)(hfew:few11 t.tab=true) :
  Calls Tryz.prog 21 #[tabV hA hc vA vc rA rc t] w fun e w'=>e=.returned (.string ⟨(text11 t.tab).toArray⟩)∧Below w.heap.size w w':=by
 obtain⟨hf1,hf2,hf3,hf4,hf5⟩:=few11_parts hfew;obtain⟨w0,hw0⟩:∃ w0,w0=w.alloc (.cells #[.int .i64 t.st,.int .i64 t.sym,.slice hA t.hood.length hc,.slice vA t.vs.length vc,.slice rA t.rs.length rc] 26):=⟨_,rfl⟩
 have hb0:Below w.heap.size w w0:=by rw[hw0];exact below_new _ _
 have p0:Blk w0 w.heap.size 26 #[.int .i64 t.st,.int .i64 t.sym,.slice hA t.hood.length hc,.slice vA t.vs.length vc,.slice rA t.rs.length rc]:=by rw[hw0];exact Blk.new _ _ _
 obtain⟨P,hPe⟩:∃ P,P=w.heap.size:=⟨_,rfl⟩
 rw[← hPe] at p0;have HR:=hid (rright11_any hA hc vA vc rA rc t w0 (hT.ext hb0));have HTX:Hid (text11 t.tab=if rightTab t.tab=false then [] else match placeH t.hood 0 hoodsP with
  | none=>[]
  | some k=>head11 t.tab k ++ varsT11 0 t.tab.vars ++ t.tab.rows.flatMap rowT11):=hid rfl
 obtain⟨TL,hTL⟩:∃ x,x=t.tab:=⟨_,rfl⟩
 have htl:TL.st=t.st∧TL.sym=t.sym∧TL.hood=t.hood∧TL.vars=t.vs.map Vh.zs∧TL.rows=t.rs.map Rh.rw_:=by rw[hTL];exact⟨rfl,rfl,rfl,rfl,rfl⟩
 rw[← hTL] at HR HTX hf4 hf5 ⊢;have HTL:=hid htl;clear hTL htl;obtain⟨res,hres⟩:∃ r,r=text11 TL:=⟨_,rfl⟩
 rw[← hres] at HTX ⊢;have HB0:=hid hb0;have HTR:=hid (hT.ext hb0);have HFW:=hid (And.intro hf2 (And.intro hf3 (And.intro hf4 hf5)));have hh9:t.hood.length≤9223372036854775807:=hT.hood.le;have hv9:t.vs.length≤9223372036854775807:=hT.vars.le;have hr9:t.rs.length≤9223372036854775807:=hT.rows.le;have HPE:=hid hPe;have HPP:=hid p0;have HW0:=hid hw0;obtain⟨st,sym,hood,vs,rs⟩:=t;dsimp only at HTX HTL HTR HPP HW0 HFW hh9 hv9 hr9;have x0:=HPP.out.cell_ 0 (.int .i64 st) rfl;have x1:=HPP.out.cell_ 1 (.int .i64 sym) rfl;have x2:=HPP.out.cell_ 2 (.slice hA hood.length hc) rfl;have x3:=HPP.out.cell_ 3 (.slice vA vs.length vc) rfl;have x4:=HPP.out.cell_ 4 (.slice rA rs.length rc) rfl;unfold tabV at HR ⊢;dsimp only at HR ⊢;clear hw0 hb0 hT hf1 hf2 hf3 hf4 hf5 hfew hres p0 hPe;cases hr:rightTab TL with
 | false=>
  have HE:Hid (res=[]):=hid (by rw[HTX.out,if_pos hr]);rw[hr] at HR;clear hr HTX;go_enter Tryz.func21,Tryz.ntmps21;go_upto_region 1 with fail
  rw[← HW0.out,← HPE.out];go_wp2_with (go_at_call 11;refine HR.out.mono ?_;rintro e w1 ⟨rfl,hb1⟩;refine Hid.out ?_);refine hid ?_;have HB1:=hid hb1;have HP1:=hid (HPP.out.below hb1 HPP.out.lt);have HTR1:=hid (HTR.out.ext hb1);clear hb1 x0 x1 x2 x3 x4 HR;go_wp2;go_ret;rw[HE.out];exact⟨rfl,HB0.out.trans (HB1.out.mono HB0.out.size)⟩
 | true=>
  have HRT:=hid hr;rw[hr] at HR;have HTX2:Hid (res=match placeH hood 0 hoodsP with
   | none=>[]
   | some k=>head11 TL k ++ varsT11 0 TL.vars ++ TL.rows.flatMap rowT11):=hid (by rw[HTX.out,if_neg (by rw[hr];simp)])
  clear hr HTX;go_enter Tryz.func21,Tryz.ntmps21;go_upto_region 1 with fail
  rw[← HW0.out,← HPE.out];go_wp2_with (go_at_call 11;refine HR.out.mono ?_;rintro e w1 ⟨rfl,hb1⟩;refine Hid.out ?_);refine hid ?_;have HB1:=hid hb1;have HP1:=hid (HPP.out.below hb1 HPP.out.lt);have HTR1:=hid (HTR.out.ext hb1);clear hb1 x0 x1 x2 x3 x4 HR;have HLT:Hid (P < w1.heap.size):=hid HP1.out.lt;go_wp2;go_loopw [3,4] (fun nmv iv wr=>∃ m:Nat,m≤4∧iv=.int .i64 ((m:Int) - 1)∧nmv=.string ⟨(nmDn hood (4 - m)).toArray⟩∧Hid (Below w1.heap.size w1 wr)) (fun _ iv _=>(intOf iv+1).toNat)
  case atStart=>exact⟨4,Nat.le_refl _,rfl,rfl,hid (Below.refl _ _)⟩
  case round=>
   obtain⟨m,hm,rfl,rfl,HB3⟩:=hrel;cases m with
   | succ k=>
    have hk4:k < 4:=hm;have HK4:=hid hk4;rw[show (((k+1:Nat):Int) - 1)=(k:Int) by omega,show 4 - (k+1)=3 - k by omega];have dk:decide ((0:Int)≤(k:Int))=true:=decide_eq_true (by omega);have dk0:(0:Int)≤(k:Int):=by omega
    have HP3:=hid (HP1.out.below HB3.out HLT.out);have HTR3:=hid (HTR1.out.ext HB3.out);have hwk:wrap64 ((k:Int) - 1)=(k:Int) - 1:=by unfold wrap64;omega
    clear hm hk4;go_upto_region 7 with fail
    refine wp_region_J (by kernel_rfl) (fun listed act w'=>∃ b0 b1 b2 b3 b4 v17 v18 v19 v20 v21,listed=#[b0,b1,b2,b3,b4]∧act=Act.mk #[.agg #[.int .i64 st,.int .i64 sym,.slice hA hood.length hc,.slice vA vs.length vc,.slice rA rs.length rc],.pointer (some ⟨P,0,none⟩),Value.string { data:=#[] },Value.string { data:=List.toArray (nmDn hood (3 - k)) },.int .i64 ↑k,undef,undef,undef,undef,undef,.agg #[.int .i64 st,.int .i64 sym,.slice hA hood.length hc,.slice vA vs.length vc,.slice rA rs.length rc],.bool true,.bool false,.int .i64 ↑k,.bool true,u15,u16,v17,v18,v19,v20,v21,u22,u23,u24,u25,undef,undef,undef,undef,undef,undef,undef,undef,undef,undef,undef,undef,undef,undef,undef,undef,undef,undef,undef,undef,undef,undef,undef,undef,undef,undef,undef,undef,undef,undef,undef,undef,undef,undef,undef,undef,undef,undef,undef,undef,undef,undef,undef,undef,undef,undef,undef,undef,undef,undef,undef,undef,undef,undef,undef,undef,undef,undef,undef,undef,undef,undef,undef,undef,undef,undef,undef,undef,undef,undef,undef,undef,undef,undef,undef,undef,undef,undef,undef,undef,undef,undef,undef,undef,undef,undef,undef,undef,undef,undef,undef,undef] []∧RnJ wr P hA hc hood k b0 b1 b2 b3 b4 v17 v18 v19 v20 v21 w') ?_ ?_ ?_
    ·exact (e_8 (e_2 ⟨rfl,rfl,(by constructor;(case below=>exact (Below.refl _ wr).drew);all_goals simp)⟩))
    ·rintro i listed act w' hi ⟨b0,b1,b2,b3,b4,v17,v18,v19,v20,v21,rfl,rfl,H⟩;have hi16:i < 5:=by
      obtain⟨-,o,ho,-⟩:=mem_ready.1 hi;exact (Array.getElem?_eq_some_iff.1 ho).1
     obtain rfl | rfl | rfl | rfl | rfl:i=0∨i=1∨i=2∨i=3∨i=4:=by omega
     all_goals simp[mem_ready,Region.binds] at hi
     ·refine wpOp_hidden rfl fun K hK=>?_;go_wp2;refine OnlyN.mk (hK.out _ _ (e_8 (e_2 ⟨rfl,rfl,{ H with h0:=fun _=>rfl }⟩)))
     ·obtain rfl:=H.h0 (by simp[hi]);have cc:=(HP3.out.below H.below HP3.out.lt).cell_ 2 (.slice hA hood.length hc) rfl;refine wpOp_hidden rfl fun K hK=>?_;go_wp2;refine OnlyN.mk (hK.out _ _ (e_8 (e_2 ⟨rfl,rfl,{ H with h1:=fun _=>rfl }⟩)))
     ·refine wpOp_hidden rfl fun K hK=>?_;go_wp2;refine OnlyN.mk (hK.out _ _ (e_8 (e_2 ⟨rfl,rfl,{ H with h2:=fun _=>rfl }⟩)))
     ·obtain rfl:=H.h2 (by simp[hi]);have HC:=hid (rhoodof_any k HK4.out w');have HH:=hid H;clear H;refine wpOp_hidden rfl fun K hK=>?_;go_wp2_with (go_at_call 60;refine HC.out.mono ?_;rintro e w9 ⟨A,c,rfl,hp,-,hb9⟩;refine Hid.out ?_);refine hid ?_;have HA:=hid (HH.out.world hb9);have HPP9:=hid hp;clear hb9 hp;go_wp2;refine OnlyN.mk (hK.out _ _ (e_8 (e_2 ⟨rfl,rfl,⟨HA.out.below,HA.out.h0,HA.out.h1,HA.out.h2,fun _=>⟨A,c,rfl,HPP9.out⟩,HA.out.h4⟩⟩)))
     ·obtain rfl:=H.h1 (by simp[hi]);obtain⟨A,c,rfl,hp⟩:=H.h3 (by simp[hi]);have HC:=hid (samePtsR hA A hood (hoodsP.getD k []) hc c w' (HTR3.out.hood.ext H.below) hp);have HH:=hid H;clear H hp;refine wpOp_hidden rfl fun K hK=>?_;go_wp2_with (go_at_call 39;refine HC.out.mono ?_;rintro e w9 ⟨rfl,hq⟩;refine Hid.out ?_);refine hid ?_;have HA:=hid (HH.out.world (hq.below _));clear hq;go_wp2;refine OnlyN.mk (hK.out _ _ (e_8 (e_2 ⟨rfl,rfl,⟨HA.out.below,HA.out.h0,HA.out.h1,HA.out.h2,HA.out.h3,fun _=>rfl⟩⟩)))
    ·rintro listed act w' hr ⟨b0,b1,b2,b3,b4,v17,v18,v19,v20,v21,rfl,rfl,H⟩;have hn:=List.eq_nil_iff_forall_not_mem.1 hr;have r0:=hn 0;simp[mem_ready,Region.binds] at r0;subst r0;have r1:=hn 1;simp[mem_ready,Region.binds] at r1;subst r1;have r2:=hn 2;simp[mem_ready,Region.binds] at r2;subst r2;have r3:=hn 3;simp[mem_ready,Region.binds] at r3;subst r3;have r4:=hn 4;simp[mem_ready,Region.binds] at r4;subst r4;obtain rfl:=H.h4 rfl;have HB4:=hid (HB3.out.trans (H.below.mono HB3.out.size));clear H hr hn;generalize w'=w4 at *;by_cases he:hood=hoodsP.getD k []
     ·have hd:decide (hood=hoodsP.getD k [])=true:=decide_eq_true he;have HN:=hid (nmDn_hit HK4.out he);have HHO:=hid (rhoods_any w4);obtain⟨hsb1,-⟩:=hoodsB_at (k:=k) HK4.out;have HSB:=hid hsb1;rw[hd];clear hd he hsb1;go_wp2_with (go_at_call 61;refine HHO.out.mono ?_;rintro e w9 ⟨g,rfl,-,hs9,hb9⟩;have HB9:=hid (HB4.out.trans (hb9.mono HB4.out.size));obtain⟨gb,go,eg,-,hcell⟩:=hs9.at_ (k:=k) HK4.out;injection eg with eg;injection eg with eg1 eg2;subst eg1 eg2;rw[Nat.zero_add] at hcell;have hk4i:=int_lt11 HK4.out;clear hs9 hb9;refine Hid.out ?_);refine hid ?_;go_wp2;go_roundw
      case rel=>exact⟨k,Nat.le_of_lt HK4.out,(by first | rfl | (rw[hwk];done) | (rw[hwk];rfl)),by rw[HN.out,HSB.out],HB9⟩
      case measure=>(try rw[hwk]);exact meas_d
     ·have hd:decide (hood=hoodsP.getD k [])=false:=decide_eq_false he;have HN:=hid (nmDn_miss HK4.out he);rw[hd];clear hd he;go_wp2;go_roundw
      case rel=>exact⟨k,Nat.le_of_lt HK4.out,(by first | rfl | (rw[hwk];done) | (rw[hwk];rfl)),by rw[HN.out],HB4⟩
      case measure=>(try rw[hwk]);exact meas_d
   | zero=>
    rw[show (((0:Nat):Int) - 1) = -1 by decide];clear hm;obtain⟨nm,hnm0⟩:∃ n,n=nmDn hood 4:=⟨_,rfl⟩
    have hall:=nmTo_all hood;have hnl:=nmTo_len hood;rw[← nmDn_all,← hnm0] at hall hnl;have hnm1:nmDn hood (4 - 0)=nm:=hnm0.symm;rw[hnm1];rcases hall with ⟨kk,hk4,hpl,hnm,hne⟩ | ⟨hpl,hnm⟩
    rotate_left
    ·have dn:List.isEmpty nm=true:=by rw[hnm];rfl
     have HE:Hid (res=[]):=hid (by rw[HTX2.out,hpl]);have HBF:=hid (HB0.out.trans ((HB1.out.trans (HB3.out.mono HB1.out.size)).mono HB0.out.size));clear hpl hnm hnm0 hnl;go_wp2;go_ret;rw[HE.out];exact⟨rfl,HBF.out⟩
    have dn:List.isEmpty nm=false:=by cases nm with
     | nil=>exact absurd rfl hne
     | cons a l=>rfl
    have HTX3:Hid (res=head11 TL kk ++ varsT11 0 TL.vars ++ TL.rows.flatMap rowT11):=hid (by rw[HTX2.out,hpl]);have HNM:Hid (nm=hoodsW.getD kk []∧nm.length≤7∧kk < 4):=hid ⟨hnm,hnl,hk4⟩;clear hpl hnm hnm0 hne hnl hk4;have HPA:=hid (HP1.out.below HB3.out HLT.out);have HTRA:=hid (HTR1.out.ext HB3.out);have HBA:Hid (Below w.heap.size w wr):=hid (HB0.out.trans ((HB1.out.trans (HB3.out.mono HB1.out.size)).mono HB0.out.size));obtain⟨hst2,hst8⟩:=(rightTab_parts HRT.out).1;have hsr:=sym_range HRT.out;rw[HTL.out.1] at hst2 hst8;rw[HTL.out.2.1] at hsr;have HST:=hid (And.intro hst2 (And.intro hst8 hsr));obtain⟨ds,hds⟩:∃ d,d=Lib.decDigits st.toNat:=⟨_,rfl⟩
    have hdl:ds.length≤2:=by rw[hds];exact dec1_len (by omega) (by omega)
    obtain⟨sy,hsy⟩:∃ d,d=symsW.getD sym.toNat []:=⟨_,rfl⟩
    have hyl:sy.length≤7:=by rw[hsy];exact (words_len _ (by omega)).2
    obtain⟨L3,e3⟩:∃ l,l=[115,116,97,116,101,115,32] ++ ds:=⟨_,rfl⟩
    obtain⟨L4,e4⟩:∃ l,l=L3 ++ [10,104,111,111,100,32]:=⟨_,rfl⟩
    obtain⟨L6,e6⟩:∃ l,l=L4 ++ nm:=⟨_,rfl⟩
    obtain⟨L7,e7⟩:∃ l,l=L6 ++ [10,115,121,109,109,101,116,114,121,32]:=⟨_,rfl⟩
    obtain⟨L12,e12⟩:∃ l,l=L7 ++ sy:=⟨_,rfl⟩
    obtain⟨L13,e13⟩:∃ l,l=L12 ++ [10]:=⟨_,rfl⟩
    have HLN:Hid (ds.length≤2∧sy.length≤7∧nm.length≤7∧L3.length≤9∧L4.length≤15∧L6.length≤22∧L7.length≤32∧L12.length≤39∧L13.length≤40):=hid (by
     have k3:L3.length=7+ds.length:=by rw[e3];simp;omega
     have k4:L4.length=L3.length+6:=by rw[e4];simp
     have k6:L6.length=L4.length+nm.length:=by rw[e6];simp
     have k7:L7.length=L6.length+10:=by rw[e7];simp
     have k12:L12.length=L7.length+sy.length:=by rw[e12];simp
     have k13:L13.length=L12.length+1:=by rw[e13];simp
     have:=HNM.out.2.1;omega)
    have HHD:Hid (head11 TL kk=L13):=hid (by
     rw[e13,e12,e7,e6,e4,e3,hds,hsy,HNM.out.1];unfold head11;rw[HTL.out.1,HTL.out.2.1];simp[headsW])
    have hIT:=fun W=>rdecN_any st (by omega) (by omega) W;rw[← hds] at hIT;have HIT:=hid hIT;have HSY:Hid (∀ (h:sym.toNat < symsB.length),symsB[sym.toNat]=⟨sy.toArray⟩):=hid (fun h=>by rw[hsy];exact syms_at (by omega));have E3:=hid e3;have E4:=hid e4;have E6:=hid e6;have E7:=hid e7;have E12:=hid e12;have E13:=hid e13;clear hst2 hst8 hsr hds hdl hsy hyl e3 e4 e6 e7 e12 e13 hIT;go_upto_region 11 with fail
    refine wp_region_J (by kernel_rfl) (fun listed act w'=>∃ b0 b1 b2 b3 b4 b5 b6 b7 b8 b9 b10 b11 b12 b13 b14 b15 v28 v29 v30 v31 v32 v33 v34 v35 v36 v37 v38 v39 v40 v41 v42 v5,listed=#[b0,b1,b2,b3,b4,b5,b6,b7,b8,b9,b10,b11,b12,b13,b14,b15]∧act=Act.mk #[.agg #[.int .i64 st,.int .i64 sym,.slice hA hood.length hc,.slice vA vs.length vc,.slice rA rs.length rc],.pointer (some ⟨P,0,none⟩),Value.string { data:=#[] },Value.string { data:=List.toArray nm },.int .i64 (-1),v5,undef,undef,undef,undef,.agg #[.int .i64 st,.int .i64 sym,.slice hA hood.length hc,.slice vA vs.length vc,.slice rA rs.length rc],.bool true,.bool false,.int .i64 (-1),.bool false,u15,u16,u17,u18,u19,u20,u21,u22,u23,u24,u25,Value.string { data:=List.toArray nm },.bool false,v28,v29,v30,v31,v32,v33,v34,v35,v36,v37,v38,v39,v40,v41,v42,undef,undef,undef,undef,undef,undef,undef,undef,undef,undef,undef,undef,undef,undef,undef,undef,undef,undef,undef,undef,undef,undef,undef,undef,undef,undef,undef,undef,undef,undef,undef,undef,undef,undef,undef,undef,undef,undef,undef,undef,undef,undef,undef,undef,undef,undef,undef,undef,undef,undef,undef,undef,undef,undef,undef,undef,undef,undef,undef,undef,undef,undef,undef,undef,undef,undef,undef,undef,undef,undef,undef,undef,undef,undef,undef] []∧RhJ wr P st sym ds nm sy L3 L4 L6 L7 L12 L13 b0 b1 b2 b3 b4 b5 b6 b7 b8 b9 b10 b11 b12 b13 b14 b15 v28 v29 v30 v31 v32 v33 v34 v35 v36 v37 v38 v39 v40 v41 v42 v5 w') ?_ ?_ ?_
    ·exact (e_8 (e_8 (e_8 (e_8 ⟨rfl,rfl,(by constructor;(case below=>exact (Below.refl _ wr).drew);all_goals simp)⟩))))
    ·rintro i listed act w' hi ⟨b0,b1,b2,b3,b4,b5,b6,b7,b8,b9,b10,b11,b12,b13,b14,b15,v28,v29,v30,v31,v32,v33,v34,v35,v36,v37,v38,v39,v40,v41,v42,v5,rfl,rfl,H⟩;have hi16:i < 16:=by
      obtain⟨-,o,ho,-⟩:=mem_ready.1 hi;exact (Array.getElem?_eq_some_iff.1 ho).1
     obtain rfl | rfl | rfl | rfl | rfl | rfl | rfl | rfl | rfl | rfl | rfl | rfl | rfl | rfl | rfl | rfl:i=0∨i=1∨i=2∨i=3∨i=4∨i=5∨i=6∨i=7∨i=8∨i=9∨i=10∨i=11∨i=12∨i=13∨i=14∨i=15:=by omega
     all_goals simp[mem_ready,Region.binds] at hi
     ·refine wpOp_hidden rfl fun K hK=>?_;go_wp2;refine OnlyN.mk (hK.out _ _ (e_8 (e_8 (e_8 (e_8 ⟨rfl,rfl,{ H with h0:=fun _=>rfl }⟩)))))
     ·obtain rfl:=H.h0 (by simp[hi]);have cc:=(HPA.out.below H.below HPA.out.lt).cell_ 0 (.int .i64 st) rfl;refine wpOp_hidden rfl fun K hK=>?_;go_wp2;refine OnlyN.mk (hK.out _ _ (e_8 (e_8 (e_8 (e_8 ⟨rfl,rfl,{ H with h1:=fun _=>rfl }⟩)))))
     ·obtain rfl:=H.h1 (by simp[hi]);refine wpOp_hidden rfl fun K hK=>?_;go_wp2_with (go_at_call 62;refine (HIT.out _).mono ?_;rintro e w9 ⟨rfl,hw9⟩;have hw8:=hw9.symm;clear hw9;subst hw8;refine Hid.out ?_);refine hid ?_;go_wp2;refine OnlyN.mk (hK.out _ _ (e_8 (e_8 (e_8 (e_8 ⟨rfl,rfl,{ H with h2:=fun _=>rfl }⟩)))))
     ·obtain rfl:=H.h2 (by simp[hi]);have hle:¬ 9223372036854775807 < 7+ds.length:=by have:=HLN.out;omega
      refine wpOp_hidden rfl fun K hK=>?_;go_wp2;refine OnlyN.mk (hK.out _ _ (e_8 (e_8 (e_8 (e_8 ⟨rfl,rfl,{ H with h3:=fun _=>by rw[E3.out,← bytes_app] }⟩)))))
     ·obtain rfl:=H.h3 (by simp[hi]);have hle:¬ 9223372036854775807 < L3.length+6:=by have:=HLN.out;omega
      refine wpOp_hidden rfl fun K hK=>?_;go_wp2;refine OnlyN.mk (hK.out _ _ (e_8 (e_8 (e_8 (e_8 ⟨rfl,rfl,{ H with h4:=fun _=>by rw[E4.out,← bytes_app] }⟩)))))
     ·refine wpOp_hidden rfl fun K hK=>?_;go_wp2;refine OnlyN.mk (hK.out _ _ (e_8 (e_8 (e_8 (e_8 ⟨rfl,rfl,{ H with h5:=fun _=>rfl }⟩)))))
     ·obtain rfl:=H.h4 (by simp[hi]);obtain rfl:=H.h5 (by simp[hi]);have hle:¬ 9223372036854775807 < L4.length+nm.length:=by have:=HLN.out;omega
      refine wpOp_hidden rfl fun K hK=>?_;go_wp2;refine OnlyN.mk (hK.out _ _ (e_8 (e_8 (e_8 (e_8 ⟨rfl,rfl,{ H with h6:=fun _=>by rw[E6.out,← bytes_app] }⟩)))))
     ·obtain rfl:=H.h6 (by simp[hi]);have hle:¬ 9223372036854775807 < L6.length+10:=by have:=HLN.out;omega
      refine wpOp_hidden rfl fun K hK=>?_;go_wp2;refine OnlyN.mk (hK.out _ _ (e_8 (e_8 (e_8 (e_8 ⟨rfl,rfl,{ H with h7:=fun _=>by rw[E7.out,← bytes_app] }⟩)))))
     ·have HC:=hid (rsymsl_any w');have HH:=hid H;clear H;refine wpOp_hidden rfl fun K hK=>?_;go_wp2_with (go_at_call 63;refine HC.out.mono ?_;rintro e w9 ⟨g,rfl,-,hs9,hb9⟩;refine Hid.out ?_);refine hid ?_;have HA:=hid (HH.out.world hb9);have HSS:=hid hs9;clear hb9 hs9;go_wp2;refine OnlyN.mk (hK.out _ _ (e_8 (e_8 (e_8 (e_8 ⟨rfl,rfl,⟨HA.out.below,HA.out.h0,HA.out.h1,HA.out.h2,HA.out.h3,HA.out.h4,HA.out.h5,HA.out.h6,HA.out.h7,fun _=>⟨g,rfl,HSS.out⟩,HA.out.h9,HA.out.h10,HA.out.h11,HA.out.h12,HA.out.h13,HA.out.h14,HA.out.h15⟩⟩)))))
     ·refine wpOp_hidden rfl fun K hK=>?_;go_wp2;refine OnlyN.mk (hK.out _ _ (e_8 (e_8 (e_8 (e_8 ⟨rfl,rfl,{ H with h9:=fun _=>rfl }⟩)))))
     ·obtain rfl:=H.h9 (by simp[hi]);have cc:=(HPA.out.below H.below HPA.out.lt).cell_ 1 (.int .i64 sym) rfl;refine wpOp_hidden rfl fun K hK=>?_;go_wp2;refine OnlyN.mk (hK.out _ _ (e_8 (e_8 (e_8 (e_8 ⟨rfl,rfl,{ H with h10:=fun _=>rfl }⟩)))))
     ·obtain rfl:=H.h10 (by simp[hi]);obtain⟨g,rfl,hsg⟩:=H.h8 (by simp[hi]);have s0:0≤sym:=HST.out.2.2.1;have s1:sym < 4:=HST.out.2.2.2;have hl4:sym.toNat < symsB.length:=by show sym.toNat < 4;omega
      obtain⟨gb,go,eg,-,hcell⟩:=hsg.at_ hl4;injection eg with eg
      injection eg with eg1 eg2
      subst eg1 eg2;rw[Nat.zero_add,HSY.out hl4] at hcell;have HCL:=hid hcell;clear hsg hcell hl4;refine wpOp_hidden rfl fun K hK=>?_;go_wp2;refine OnlyN.mk (hK.out _ _ (e_8 (e_8 (e_8 (e_8 ⟨rfl,rfl,{ H with h11:=fun _=>⟨g,rfl,HCL.out⟩ }⟩)))))
     ·obtain⟨g,rfl,cc⟩:=H.h11 (by simp[hi]);refine wpOp_hidden rfl fun K hK=>?_;go_wp2;refine OnlyN.mk (hK.out _ _ (e_8 (e_8 (e_8 (e_8 ⟨rfl,rfl,{ H with h12:=fun _=>rfl }⟩)))))
     ·obtain rfl:=H.h7 (by simp[hi]);obtain rfl:=H.h12 (by simp[hi]);have hle:¬ 9223372036854775807 < L7.length+sy.length:=by have:=HLN.out;omega
      refine wpOp_hidden rfl fun K hK=>?_;go_wp2;refine OnlyN.mk (hK.out _ _ (e_8 (e_8 (e_8 (e_8 ⟨rfl,rfl,{ H with h13:=fun _=>by rw[E12.out,← bytes_app] }⟩)))))
     ·obtain rfl:=H.h13 (by simp[hi]);have hle:¬ 9223372036854775807 < L12.length+1:=by have:=HLN.out;omega
      refine wpOp_hidden rfl fun K hK=>?_;go_wp2;refine OnlyN.mk (hK.out _ _ (e_8 (e_8 (e_8 (e_8 ⟨rfl,rfl,{ H with h14:=fun _=>by rw[E13.out,← bytes_app] }⟩)))))
     ·obtain rfl:=H.h14 (by simp[hi]);refine wpOp_hidden rfl fun K hK=>?_;go_wp2;refine OnlyN.mk (hK.out _ _ (e_8 (e_8 (e_8 (e_8 ⟨rfl,rfl,{ H with h15:=fun _=>rfl }⟩)))))
    ·rintro listed act w' hr ⟨b0,b1,b2,b3,b4,b5,b6,b7,b8,b9,b10,b11,b12,b13,b14,b15,v28,v29,v30,v31,v32,v33,v34,v35,v36,v37,v38,v39,v40,v41,v42,v5,rfl,rfl,H⟩;have hn:=List.eq_nil_iff_forall_not_mem.1 hr;have r0:=hn 0;simp[mem_ready,Region.binds] at r0;subst r0;have r1:=hn 1;simp[mem_ready,Region.binds] at r1;subst r1;have r2:=hn 2;simp[mem_ready,Region.binds] at r2;subst r2;have r3:=hn 3;simp[mem_ready,Region.binds] at r3;subst r3;have r4:=hn 4;simp[mem_ready,Region.binds] at r4;subst r4;have r5:=hn 5;simp[mem_ready,Region.binds] at r5;subst r5;have r6:=hn 6;simp[mem_ready,Region.binds] at r6;subst r6;have r7:=hn 7;simp[mem_ready,Region.binds] at r7;subst r7;have r8:=hn 8;simp[mem_ready,Region.binds] at r8;subst r8;have r9:=hn 9;simp[mem_ready,Region.binds] at r9;subst r9;have r10:=hn 10;simp[mem_ready,Region.binds] at r10;subst r10;have r11:=hn 11;simp[mem_ready,Region.binds] at r11;subst r11;have r12:=hn 12;simp[mem_ready,Region.binds] at r12;subst r12;have r13:=hn 13;simp[mem_ready,Region.binds] at r13;subst r13;have r14:=hn 14;simp[mem_ready,Region.binds] at r14;subst r14;have r15:=hn 15;simp[mem_ready,Region.binds] at r15;subst r15;obtain rfl:=H.h15 rfl;have HB5:=hid (HBA.out.trans (H.below.mono HBA.out.size));have HT5:=hid (HTRA.out.ext H.below);have HP5:=hid (HPA.out.below H.below HPA.out.lt);clear H hr hn;generalize w'=w5 at *;have HVL:=hid (varsTo_len HRT.out HFW.out.2.2.1);have HRL:=hid (rowsTo_len HRT.out (by rw[HTL.out.2.2.2.2,List.length_map];exact HFW.out.2.1));have HL13:Hid (L13.length≤40):=hid HLN.out.2.2.2.2.2.2.2.2;have HVS:Hid (TL.vars.length=vs.length∧∀ k (h:k < vs.length) (h':k < TL.vars.length),TL.vars[k]=(vs[k]'h).zs):=hid (by rw[HTL.out.2.2.2.1];exact⟨List.length_map _,fun k h h'=>List.getElem_map _⟩);have HRS:Hid (TL.rows.length=rs.length∧∀ k (h:k < rs.length) (h':k < TL.rows.length),TL.rows[k]=((rs[k]'h).zs,(rs[k]'h).out)):=hid (by rw[HTL.out.2.2.2.2];exact⟨List.length_map _,fun k h h'=>List.getElem_map _⟩);have x2:=HP5.out.cell_ 2 (.slice hA hood.length hc) rfl;have x3:=HP5.out.cell_ 3 (.slice vA vs.length vc) rfl;have x4:=HP5.out.cell_ 4 (.slice rA rs.length rc) rfl;go_wp2;go_loopw [5,6] (fun sv iv wr=>∃ v:Nat,v≤vs.length∧iv=.int .i64 v∧sv=.string ⟨(L13 ++ varsT11 0 (TL.vars.take v)).toArray⟩∧w5=wr) (fun _ iv _=>vs.length - (intOf iv).toNat)
     case atStart=>exact⟨0,Nat.zero_le _,rfl,(by rw[List.take_zero];unfold varsT11;rw[List.append_nil]),rfl⟩
     case round=>
      obtain⟨v,hv,rfl,rfl,rfl⟩:=hrel;by_cases hlt:v < vs.length
      ·skip
       have hlt':v < TL.vars.length:=by rw[HVS.out.1];exact hlt
       have hok:=(rightTab_parts HRT.out).2.2.2.2.2.1 _ (List.getElem_mem hlt');have hln:=HFW.out.2.2.1 _ (List.getElem_mem hlt');have hst8:=(rightTab_parts HRT.out).1.2;have htk:=varsT_take hlt';rw[HVS.out.2 v hlt hlt'] at hok hln htk;obtain⟨b,o,e1,-,k0,kz⟩:=HT5.out.vars.at_ hlt;subst e1;obtain⟨vh,hvh⟩:∃ h,h=vs[v]'hlt:=⟨_,rfl⟩
       rw[← hvh] at k0 kz hok hln htk;clear hvh;obtain⟨zA,zc,zs⟩:=vh;dsimp only at k0 kz hok hln htk;obtain⟨Lv,hLv⟩:∃ l,l=L13 ++ varsT11 0 (TL.vars.take v):=⟨_,rfl⟩
       have hLl:Lv.length≤2760:=by rw[hLv];exact len2 HL13.out (HVL.out v) (by decide)
       rw[← hLv];have HTK:Hid (L13 ++ varsT11 0 (TL.vars.take (v+1))=Lv ++ vpre v ++ zs.flatMap stT ++ [10]):=hid (by rw[htk,hLv,varT_eq];simp only[List.append_assoc]);have hv100:v < 100:=Nat.lt_of_lt_of_le hlt (Nat.le_trans HFW.out.1 (by decide));have HIV:=hid (rdec2_any v hv100);have HDL:Hid ((Lib.decDigits v).length≤2):=hid (d11_len (k:=1) v hv100);have HSL:Hid (∀ k,((zs.take k).flatMap stT).length≤60):=hid (statesTo_len hst8 hok hln);have HSR:=hid (var_els hst8 hok);have HLL:=hid hLl;have HZ9:Hid (zs.length≤30):=hid hln;have HKZ:=hid kz;have HLT:=hid hlt;have hwv:=wrap_n hlt (Nat.le_trans HFW.out.1 (by decide));have HWV:=hid hwv;have HVP:Hid (vpre v=[118,97,114,32,118] ++ Lib.decDigits v):=hid rfl;obtain⟨dv,hdv⟩:∃ d,d=Lib.decDigits v:=⟨_,rfl⟩
       rw[← hdv] at HIV HDL HVP;have hle1:¬ 9223372036854775807 < Lv.length+5:=not_big (Nat.le_trans (Nat.add_le_add_right hLl 5) (by decide));have hle2:¬ 9223372036854775807 < Lv.length+5+dv.length:=not_big (Nat.le_trans (Nat.add_le_add (Nat.add_le_add_right hLl 5) HDL.out) (by decide));have hltI:=lt_int hlt;have hz9:=kz.le;clear hok hln hst8 htk hLv hLl kz hdv hv hlt' hv100;go_wp2_with (go_at_call 62;refine (HIV.out _).mono ?_;rintro e w9 ⟨rfl,hw9⟩;have hw8:=hw9.symm;clear hw9;subst hw8;refine Hid.out ?_);refine hid ?_;go_wp2;clear hle1 hle2 hlt;go_loopw [5,7] (fun sv iv wr=>∃ i:Nat,i≤zs.length∧iv=.int .i64 i∧sv=.string ⟨(Lv ++ vpre v ++ (zs.take i).flatMap stT).toArray⟩∧w5=wr) (fun _ iv _=>zs.length - (intOf iv).toNat)
       case atStart=>exact⟨0,Nat.zero_le _,rfl,(by rw[List.take_zero,List.flatMap_nil,List.append_nil,HVP.out,← List.append_assoc];exact str2 _ _ _),rfl⟩
       case round=>
        obtain⟨i,hi,rfl,rfl,rfl⟩:=hrel;by_cases hil:i < zs.length
        ·obtain⟨b2,o2,e2,-,kc⟩:=HKZ.out.at_ hil;subst e2;have hfl:=flat_take (f:=stT) hil;have hzr:=HSR.out _ (List.getElem_mem hil);obtain⟨z,hz⟩:∃ z,z=zs[i]'hil:=⟨_,rfl⟩
         rw[← hz] at kc hfl hzr;have HFL:=hid hfl;have HST2:Hid (stT z=[32] ++ Lib.decDigits z.toNat):=hid rfl;have HIZ:=hid (rdecN_any z hzr.1 (Int.lt_trans hzr.2 (by decide)));have HDZ:Hid ((Lib.decDigits z.toNat).length≤2):=hid (dec1_len hzr.1 (Int.lt_trans hzr.2 (by decide)));obtain⟨dz,hdz⟩:∃ d,d=Lib.decDigits z.toNat:=⟨_,rfl⟩
         rw[← hdz] at HIZ HDZ HST2;obtain⟨Li,hLi⟩:∃ l,l=Lv ++ vpre v ++ (zs.take i).flatMap stT:=⟨_,rfl⟩
         have hll:Li.length≤2900:=by rw[hLi,HVP.out];exact len5 HLL.out HDL.out (HSL.out i)
         rw[← hLi];have HLI:=hid hLi;have hle1:¬ 9223372036854775807 < Li.length+1:=not_big (Nat.le_trans (Nat.add_le_add_right hll 1) (by decide));have hle2:¬ 9223372036854775807 < Li.length+1+dz.length:=not_big (Nat.le_trans (Nat.add_le_add (Nat.add_le_add_right hll 1) HDZ.out) (by decide));have hiI:=lt_int hil;have hwi:=wrap_n hil (Nat.le_trans HZ9.out (by decide));have HWI:=hid hwi;have HIL:=hid hil;clear hfl hzr hz hdz hLi hll hi;go_wp2_with (go_at_call 62;refine (HIZ.out _).mono ?_;rintro e w9 ⟨rfl,hw9⟩;have hw8:=hw9.symm;clear hw9;subst hw8;refine Hid.out ?_);refine hid ?_;go_wp2;go_roundw
         case rel=>exact⟨i+1,HIL.out,(by first | rfl | (rw[HWI.out];done) | (rw[HWI.out];rfl)),(by rw[HFL.out,← List.append_assoc,← HLI.out,HST2.out,← List.append_assoc];exact str2 _ _ _),(by first | rfl | trivial)⟩
         case measure=>(try rw[HWI.out]);exact meas_t11 HIL.out
        ·obtain rfl:i=zs.length:=Nat.le_antisymm hi (Nat.le_of_not_lt hil);have hge:¬ (zs.length:Int) < (zs.length:Int):=Int.lt_irrefl _;clear hi hil;rw[List.take_length];obtain⟨Li,hLi⟩:∃ l,l=Lv ++ vpre v ++ zs.flatMap stT:=⟨_,rfl⟩
         have hll:Li.length≤2900:=by have:=HSL.out zs.length;rw[List.take_length] at this;rw[hLi,HVP.out];exact len5 HLL.out HDL.out this
         rw[← hLi];have HLI:=hid hLi;have hle1:¬ 9223372036854775807 < Li.length+1:=not_big (Nat.le_trans (Nat.add_le_add_right hll 1) (by decide));have hwv:=HWV.out;clear hLi hll;go_wp2;go_roundw
         case rel=>exact⟨v+1,HLT.out,(by first | rfl | (rw[HWV.out];done) | (rw[HWV.out];rfl)),(by rw[HTK.out,← HLI.out];exact cat2 _ _),(by first | rfl | trivial)⟩
         case measure=>(try rw[HWV.out]);exact meas_t11 HLT.out
      ·obtain rfl:v=vs.length:=Nat.le_antisymm hv (Nat.le_of_not_lt hlt);clear hv;have hge:¬ (vs.length:Int) < (vs.length:Int):=Int.lt_irrefl _;clear hlt;obtain⟨L0,hL0⟩:∃ l,l=L13 ++ varsT11 0 TL.vars:=⟨_,rfl⟩
       rw[show TL.vars.take vs.length=TL.vars from by rw[← HVS.out.1];exact List.take_length,← hL0];have HL0:Hid (L0.length≤2760):=hid (by have:=HVL.out TL.vars.length;rw[List.take_length] at this;rw[hL0];exact len2 HL13.out this (by decide));have HRES:Hid (res=L0 ++ TL.rows.flatMap rowT11):=hid (by rw[HTX3.out,HHD.out,hL0]);clear hL0;go_wp2;clear hge x3;go_loopw [5,8] (fun sv iv wr=>∃ r:Nat,r≤rs.length∧iv=.int .i64 r∧sv=.string ⟨(L0 ++ (TL.rows.take r).flatMap rowT11).toArray⟩∧w5=wr) (fun _ iv _=>rs.length - (intOf iv).toNat)
       case atStart=>exact⟨0,Nat.zero_le _,rfl,(by rw[List.take_zero,List.flatMap_nil,List.append_nil]),rfl⟩
       case round=>
        obtain⟨r,hr,rfl,rfl,rfl⟩:=hrel;by_cases hlt:r < rs.length
        ·skip
         have hlt':r < TL.rows.length:=by rw[HRS.out.1];exact hlt
         have hok:=(rightTab_parts HRT.out).2.2.2.2.2.2 _ (List.getElem_mem hlt');have htk:=flat_take (f:=rowT11) hlt';have hst8:=(rightTab_parts HRT.out).1.2;have hnv:=(rightTab_parts HRT.out).2.2.2.1;have hh25:=hoodB_len (rightTab_parts HRT.out).2.1;rw[HRS.out.2 r hlt hlt'] at hok htk;obtain⟨b,o,e1,-,k0,k1,kz⟩:=HT5.out.rows.at_ hlt;subst e1;obtain⟨rh,hrh⟩:∃ h,h=rs[r]'hlt:=⟨_,rfl⟩
         rw[← hrh] at k0 k1 kz hok htk;clear hrh;obtain⟨zA,zc,zs,out⟩:=rh;dsimp only at k0 k1 kz hok htk;obtain⟨he1,he2,he3⟩:=row_els hnv hst8 hok;have HEL:Hid (∀ e ∈ zs,-100≤e∧e < 100∧(elT e).length≤3):=hid he1;have HOU:Hid (-100≤out∧out < 100∧(elT out).length≤3):=hid he2;have HIL:=hid (insTo_len hnv hst8 hh25.2 hok);have HZL:Hid (zs.length≤25):=hid (Nat.le_trans (Nat.le_of_eq he3) hh25.2);have HZH:Hid (zs.length=hood.length):=hid (by rw[← HTL.out.2.2.1];exact he3);obtain⟨Lr,hLr⟩:∃ l,l=L0 ++ (TL.rows.take r).flatMap rowT11:=⟨_,rfl⟩
         have HLr:Hid (Lr.length≤6000):=hid (by rw[hLr];exact len2 HL0.out (HRL.out r) (by decide));have HTK:Hid (L0 ++ (TL.rows.take (r+1)).flatMap rowT11=Lr ++ zs.flatMap enT ++ (([45,62,32] ++ elT out) ++ [10])):=hid (by rw[htk,← List.append_assoc,← hLr,rowT_eq,← List.append_assoc]);rw[← hLr];have HLT:=hid hlt;have hwr:=wrap_n hlt (Nat.le_trans HFW.out.2.1 (by decide));have HWR:=hid hwr;have hltI:=lt_int hlt;have HKZ:=hid kz;have hz9:=kz.le;clear hok htk hst8 hnv hh25 he1 he2 he3 hLr hlt' hr hwr kz;go_wp2;clear hlt;go_loopw [5,9] (fun sv iv wr=>∃ i:Nat,i≤zs.length∧iv=.int .i64 i∧sv=.string ⟨(Lr ++ (zs.take i).flatMap enT).toArray⟩∧w5=wr) (fun _ iv _=>zs.length - (intOf iv).toNat)
         case atStart=>exact⟨0,Nat.zero_le _,rfl,(by rw[List.take_zero,List.flatMap_nil,List.append_nil]),rfl⟩
         case round=>
          obtain⟨i,hi,rfl,rfl,rfl⟩:=hrel;by_cases hil:i < zs.length
          ·obtain⟨b2,o2,e2,-,kc⟩:=HKZ.out.at_ hil;subst e2;have hfl:=flat_take (f:=enT) hil;have hzr:=HEL.out _ (List.getElem_mem hil);obtain⟨z,hz⟩:∃ z,z=zs[i]'hil:=⟨_,rfl⟩
           rw[← hz] at kc hfl hzr;have HFL:=hid hfl;have HEN:Hid (enT z=elT z ++ [32]):=hid rfl;have HCL:=hid (fun W=>rword_any z hzr.1 hzr.2.1 W);have hzl:=hzr.2.2;obtain⟨dz,hdz⟩:∃ d,d=elT z:=⟨_,rfl⟩
           rw[← hdz] at HCL HEN hzl;obtain⟨Li,hLi⟩:∃ l,l=Lr ++ (zs.take i).flatMap enT:=⟨_,rfl⟩
           have hll:Li.length≤6100:=by rw[hLi];exact len2 HLr.out (HIL.out i) (by decide)
           rw[← hLi];have HLI:=hid hLi;have hle1:¬ 9223372036854775807 < Li.length+dz.length:=not_big (Nat.le_trans (Nat.add_le_add hll hzl) (by decide));have hle2:¬ 9223372036854775807 < Li.length+dz.length+1:=not_big (Nat.le_trans (Nat.add_le_add_right (Nat.add_le_add hll hzl) 1) (by decide));have hiI:=lt_int hil;have hiH:(i:Int) < (hood.length:Int):=by rw[← HZH.out];exact hiI
           have hwi:=wrap_n hil (Nat.le_trans HZL.out (by decide));have HWI:=hid hwi;have HIL2:=hid hil;clear hfl hzr hzl hz hdz hLi hll hi;go_wp2_with (go_at_call 64;refine (HCL.out _).mono ?_;rintro e w9 ⟨rfl,hw9⟩;have hw8:=hw9.symm;clear hw9;subst hw8;refine Hid.out ?_);refine hid ?_;go_wp2;go_roundw
           case rel=>exact⟨i+1,HIL2.out,(by first | rfl | (rw[HWI.out];done) | (rw[HWI.out];rfl)),(by rw[HFL.out,← List.append_assoc,← HLI.out,HEN.out,← List.append_assoc];exact str2 _ _ _),(by first | rfl | trivial)⟩
           case measure=>(try rw[HWI.out]);exact meas_t11 HIL2.out
          ·obtain rfl:i=zs.length:=Nat.le_antisymm hi (Nat.le_of_not_lt hil);have hge:¬ (zs.length:Int) < (hood.length:Int):=by rw[← HZH.out];exact Int.lt_irrefl _
           clear hi hil;rw[List.take_length];have HCL:=hid (fun W=>rword_any out HOU.out.1 HOU.out.2.1 W);have hol:=HOU.out.2.2;obtain⟨dz,hdz⟩:∃ d,d=elT out:=⟨_,rfl⟩
           rw[← hdz] at HCL HTK hol;obtain⟨Li,hLi⟩:∃ l,l=Lr ++ zs.flatMap enT:=⟨_,rfl⟩
           have hll:Li.length≤6100:=by have:=HIL.out zs.length;rw[List.take_length] at this;rw[hLi];exact len2 HLr.out this (by decide)
           rw[← hLi];rw[← hLi] at HTK;have hle1:¬ 9223372036854775807 < Li.length+3:=not_big (Nat.le_trans (Nat.add_le_add_right hll 3) (by decide));have hle2:¬ 9223372036854775807 < Li.length+3+dz.length:=not_big (Nat.le_trans (Nat.add_le_add (Nat.add_le_add_right hll 3) hol) (by decide));have hle3:¬ 9223372036854775807 < Li.length+3+dz.length+1:=not_big (Nat.le_trans (Nat.add_le_add_right (Nat.add_le_add (Nat.add_le_add_right hll 3) hol) 1) (by decide));have hwr:=HWR.out;clear hdz hol hLi hll;go_wp2_with (go_at_call 64;refine (HCL.out _).mono ?_;rintro e w9 ⟨rfl,hw9⟩;have hw8:=hw9.symm;clear hw9;subst hw8;refine Hid.out ?_);refine hid ?_;go_wp2;go_roundw
           case rel=>exact⟨r+1,HLT.out,(by first | rfl | (rw[HWR.out];done) | (rw[HWR.out];rfl)),(by rw[HTK.out,← List.append_assoc,← List.append_assoc];exact str3 _ _ _ _),(by first | rfl | trivial)⟩
           case measure=>(try rw[HWR.out]);exact meas_t11 HLT.out
        ·obtain rfl:r=rs.length:=Nat.le_antisymm hr (Nat.le_of_not_lt hlt);have hge:¬ (rs.length:Int) < (rs.length:Int):=Int.lt_irrefl _;clear hr hlt;rw[show TL.rows.take rs.length=TL.rows from by rw[← HRS.out.1];exact List.take_length,← HRES.out];go_wp2;go_ret;exact⟨rfl,HB5.out⟩
end Go.Proofs.YtcmbdhopmncmnaaGreatDoor
namespace Go.Proofs.YtcmbdhopmncmnaaGreatDoor
open Lib(hid)
open Go.RowKit Go.Maps
set_option maxRecDepth 100000
set_option linter.unusedVariables false
set_option linter.unusedSimpArgs false
structure LpJ (W:World)(agT:Value)(agA:Value)(agC:Value)(pn:Int)(pe:Int)(tx:List UInt8)(b0 b1 b2 b3 b4 b5 b6 b7 b8 b9 b10 b11 b12 b13 b14 b15 b16 b17 b18 b19 b20 b21 b22 b23:Bool)(v32 v33 v34 v35 v36 v37 v38 v39 v40 v41 v42 v43 v44 v45 v46 v47 v48 v49 v50 v51 v52 v53 v54 v4:Value)(w:World):Prop where
 h0:b0=true→v32=agA
 h1:b1=true→v33=agC
 h2:b2=true→v34=.bool true
 h3:b3=true→v35=.bool true
 h4:b4=true→v36=.int .i64 pn
 h5:b5=true→v37=.int .i64 pn
 h6:b6=true→v38=.bool true
 h7:b7=true→v39=.bool true
 h8:b8=true→v40=.bool true
 h9:b9=true→v41=.int .i64 pe
 h10:b10=true→v42=.int .i64 pe
 h11:b11=true→v43=.bool true
 h12:b12=true→v44=.bool true
 h13:b13=true→v45=.bool true
 h14:b14=true→v46=agT
 h15:b15=true→v47=.string ⟨tx.toArray⟩
 h16:b16=true→v48=agT
 h17:b17=true→v49=.string ⟨tx.toArray⟩
 h18:b18=true→v50=.bool true
 h19:b19=true→v51=.bool true
 h20:b20=true→v52=.bool true
 h21:b21=true→v53=.bool true
 h22:b22=true→v54=.bool true
 h23:b23=true→v4=.bool true
 below:Below W.heap.size W w
section
variable {W : World} {agT : Value} {agA : Value} {agC : Value} {pn : Int} {pe : Int} {tx : List UInt8} {b0 b1 b2 b3 b4 b5 b6 b7 b8 b9 b10 b11 b12 b13 b14 b15 b16 b17 b18 b19 b20 b21 b22 b23 : Bool} {v32 v33 v34 v35 v36 v37 v38 v39 v40 v41 v42 v43 v44 v45 v46 v47 v48 v49 v50 v51 v52 v53 v54 v4 : Value} {w w' : World}
theorem LpJ.world (H:LpJ W agT agA agC pn pe tx b0 b1 b2 b3 b4 b5 b6 b7 b8 b9 b10 b11 b12 b13 b14 b15 b16 b17 b18 b19 b20 b21 b22 b23 v32 v33 v34 v35 v36 v37 v38 v39 v40 v41 v42 v43 v44 v45 v46 v47 v48 v49 v50 v51 v52 v53 v54 v4 w)(hb:Below w.heap.size w w'):LpJ W agT agA agC pn pe tx b0 b1 b2 b3 b4 b5 b6 b7 b8 b9 b10 b11 b12 b13 b14 b15 b16 b17 b18 b19 b20 b21 b22 b23 v32 v33 v34 v35 v36 v37 v38 v39 v40 v41 v42 v43 v44 v45 v46 v47 v48 v49 v50 v51 v52 v53 v54 v4 w':=
 {H with below:=H.below.trans (hb.mono H.below.size) }
end
set_option maxHeartbeats 16000000 in
theorem lawParses_any (s:ByteArray)(hA1:Option Addr)(hc1:Nat)(vA1:Option Addr)(vc1:Nat)(rA1:Option Addr)(rc1:Nat)(t:TabH)(w:World)(hr:TabR w hA1 vA1 rA1 t)(he:Env w) :
  Calls Tryz.prog 5 #[.string s,.agg #[.int .i64 t.st,.int .i64 t.sym,.slice hA1 t.hood.length hc1,.slice vA1 t.vs.length vc1,.slice rA1 t.rs.length rc1]] w fun e w'=>e=.returned (.bool true)∧Below w.heap.size w w':=by
 have HENV:=hid he;have HB:Hid (Below w.heap.size w w):=hid (Below.refl _ _);clear he;obtain⟨pr,hpr⟩:∃ r,r=parse11 s.data.toList:=⟨_,rfl⟩
 have HPR:=hid hpr.symm;obtain⟨tx,htx⟩:∃ r,r=text11 t.tab:=⟨_,rfl⟩
 have HTX:=hid htx.symm;clear hpr htx;obtain⟨pt,pn,pe⟩:=pr;have go3:s.size≤3000→decide ((3000:Int) < s.size)=false:=fun h=>decide_eq_false (by omega);have no3:¬ s.size≤3000→decide ((3000:Int) < s.size)=true:=fun h=>decide_eq_true (by omega);by_cases hl:s.size≤3000
 ·
  have d3:=go3 hl;have HS:Hid (s.size≤65536):=hid (by omega);clear go3 no3 hl;cases hf:few11 t.tab with
  | false=>
   have HFT:=hid hf;clear hf;go_enter Tryz.func5,Tryz.ntmps5;obtain⟨zT,hw⟩:∃ W,W=w.alloc (.cells #[.int .i64 t.st,.int .i64 t.sym,.slice hA1 t.hood.length hc1,.slice vA1 t.vs.length vc1,.slice rA1 t.rs.length rc1] 26):=⟨_,rfl⟩
   obtain⟨pT,hp⟩:∃ p,p=w.heap.size:=⟨_,rfl⟩
   have hv:=TvB.new (hc:=hc1) (vc:=vc1) (rc:=rc1) hr;rw[← hw,← hp] at hv;have hb:Below w.heap.size w zT:=by rw[hw];exact below_new _ _
   replace HB:=hid (HB.out.trans (hb.mono HB.out.size));replace HENV:=hid (HENV.out.ext hb);have HT:=hid hv;clear hv hb hr;go_upto_region 1 with fail
   rw[← hw,← hp];clear hw hp;have cT0:zT.cell? ⟨pT,0,none⟩=some (.int .i64 t.st):=HT.out.cells.1;have cT1:zT.cell? ⟨pT,1,none⟩=some (.int .i64 t.sym):=HT.out.cells.2.1;have cT2:zT.cell? ⟨pT,2,none⟩=some (.slice hA1 t.hood.length hc1):=HT.out.cells.2.2.1;have cT3:zT.cell? ⟨pT,3,none⟩=some (.slice vA1 t.vs.length vc1):=HT.out.cells.2.2.2.1;have cT4:zT.cell? ⟨pT,4,none⟩=some (.slice rA1 t.rs.length rc1):=HT.out.cells.2.2.2.2;have hcall:=few11_any hA1 hc1 vA1 vc1 rA1 rc1 t zT HT.out.tb;rw[HFT.out] at hcall;unfold tabV at hcall;have HCALL:=hid hcall;clear hcall;go_wp2_with (go_at_call 8;refine HCALL.out.mono ?_;intro e x1 hx;obtain⟨rfl,hb⟩:=hx;refine Hid.out ?_);refine hid ?_;replace HB:=hid (HB.out.trans (hb.mono HB.out.size));replace HENV:=hid (HENV.out.ext hb);replace HT:=hid (HT.out.ext hb);clear hb HCALL;clear cT0 cT1 cT2 cT3 cT4;have hcall:=awake_any x1 HENV.out;have HCALL:=hid hcall;clear hcall;go_wp2_with (go_at_call 9;refine HCALL.out.mono ?_;intro e x2 hx;obtain⟨rfl,hb⟩:=hx;refine Hid.out ?_);refine hid ?_;replace HB:=hid (HB.out.trans (hb.mono HB.out.size));replace HENV:=hid (HENV.out.ext hb);replace HT:=hid (HT.out.ext hb);clear hb HCALL;go_wp2;go_ret;exact⟨rfl,HB.out⟩
  | true=>
   have HFT:=hid hf;clear hf;go_enter Tryz.func5,Tryz.ntmps5;obtain⟨zT,hw⟩:∃ W,W=w.alloc (.cells #[.int .i64 t.st,.int .i64 t.sym,.slice hA1 t.hood.length hc1,.slice vA1 t.vs.length vc1,.slice rA1 t.rs.length rc1] 26):=⟨_,rfl⟩
   obtain⟨pT,hp⟩:∃ p,p=w.heap.size:=⟨_,rfl⟩
   have hv:=TvB.new (hc:=hc1) (vc:=vc1) (rc:=rc1) hr;rw[← hw,← hp] at hv;have hb:Below w.heap.size w zT:=by rw[hw];exact below_new _ _
   replace HB:=hid (HB.out.trans (hb.mono HB.out.size));replace HENV:=hid (HENV.out.ext hb);have HT:=hid hv;clear hv hb hr;go_upto_region 1 with fail
   rw[← hw,← hp];clear hw hp;have cT0:zT.cell? ⟨pT,0,none⟩=some (.int .i64 t.st):=HT.out.cells.1;have cT1:zT.cell? ⟨pT,1,none⟩=some (.int .i64 t.sym):=HT.out.cells.2.1;have cT2:zT.cell? ⟨pT,2,none⟩=some (.slice hA1 t.hood.length hc1):=HT.out.cells.2.2.1;have cT3:zT.cell? ⟨pT,3,none⟩=some (.slice vA1 t.vs.length vc1):=HT.out.cells.2.2.2.1;have cT4:zT.cell? ⟨pT,4,none⟩=some (.slice rA1 t.rs.length rc1):=HT.out.cells.2.2.2.2;have hcall:=few11_any hA1 hc1 vA1 vc1 rA1 rc1 t zT HT.out.tb;rw[HFT.out] at hcall;unfold tabV at hcall;have HCALL:=hid hcall;clear hcall;go_wp2_with (go_at_call 8;refine HCALL.out.mono ?_;intro e x1 hx;obtain⟨rfl,hb⟩:=hx;refine Hid.out ?_);refine hid ?_;replace HB:=hid (HB.out.trans (hb.mono HB.out.size));replace HENV:=hid (HENV.out.ext hb);replace HT:=hid (HT.out.ext hb);clear hb HCALL;clear cT0 cT1 cT2 cT3 cT4;have hcall:=parse_any s x1 HENV.out.cell HENV.out.mat HENV.out.sym HENV.out.len HS.out;rw[HPR.out] at hcall;have HCALL:=hid hcall;clear hcall;go_wp2_with (go_at_call 18;refine HCALL.out.mono ?_;intro e x2 hx;obtain⟨hA2,hc2,vA2,vc2,rA2,rc2,t2,rfl,hr,he2,hb⟩:=hx;dsimp only [tabV];refine Hid.out ?_);refine hid ?_;replace HB:=hid (HB.out.trans (hb.mono HB.out.size));replace HENV:=hid (HENV.out.ext hb);replace HT:=hid (HT.out.ext hb);clear hb HCALL;have HE2:=hid he2;clear he2;obtain⟨zA,hw⟩:∃ W,W=x2.alloc (.cells #[.int .i64 t2.st,.int .i64 t2.sym,.slice hA2 t2.hood.length hc2,.slice vA2 t2.vs.length vc2,.slice rA2 t2.rs.length rc2] 26):=⟨_,rfl⟩
   obtain⟨pA,hp⟩:∃ p,p=x2.heap.size:=⟨_,rfl⟩
   have hv:=TvB.new (hc:=hc2) (vc:=vc2) (rc:=rc2) hr;rw[← hw,← hp] at hv;have hb:Below x2.heap.size x2 zA:=by rw[hw];exact below_new _ _
   replace HB:=hid (HB.out.trans (hb.mono HB.out.size));replace HENV:=hid (HENV.out.ext hb);replace HT:=hid (HT.out.ext hb);have HA:=hid hv;clear hv hb hr;go_upto_region 4 with fail
   rw[← hw,← hp];clear hw hp;have hcall:=rparse_any s zA HS.out;rw[HPR.out] at hcall;have HCALL:=hid hcall;clear hcall;go_wp2_with (go_at_call 19;refine HCALL.out.mono ?_;intro e x3 hx;obtain⟨hA3,hc3,vA3,vc3,rA3,rc3,t3,rfl,hr,he3,hb⟩:=hx;dsimp only [tabV];refine Hid.out ?_);refine hid ?_;replace HB:=hid (HB.out.trans (hb.mono HB.out.size));replace HENV:=hid (HENV.out.ext hb);replace HT:=hid (HT.out.ext hb);replace HA:=hid (HA.out.ext hb);clear hb HCALL;have HE3:=hid he3;clear he3;obtain⟨zC,hw⟩:∃ W,W=x3.alloc (.cells #[.int .i64 t3.st,.int .i64 t3.sym,.slice hA3 t3.hood.length hc3,.slice vA3 t3.vs.length vc3,.slice rA3 t3.rs.length rc3] 26):=⟨_,rfl⟩
   obtain⟨pC,hp⟩:∃ p,p=x3.heap.size:=⟨_,rfl⟩
   have hv:=TvB.new (hc:=hc3) (vc:=vc3) (rc:=rc3) hr;rw[← hw,← hp] at hv;have hb:Below x3.heap.size x3 zC:=by rw[hw];exact below_new _ _
   replace HB:=hid (HB.out.trans (hb.mono HB.out.size));replace HENV:=hid (HENV.out.ext hb);replace HT:=hid (HT.out.ext hb);replace HA:=hid (HA.out.ext hb);have HC:=hid hv;clear hv hb hr;go_upto_region 5 with fail
   rw[← hw,← hp];clear hw hp;refine wp_region_J (by kernel_rfl) (fun listed act w'=>∃ b0 b1 b2 b3 b4 b5 b6 b7 b8 b9 b10 b11 b12 b13 b14 b15 b16 b17 b18 b19 b20 b21 b22 b23 v32 v33 v34 v35 v36 v37 v38 v39 v40 v41 v42 v43 v44 v45 v46 v47 v48 v49 v50 v51 v52 v53 v54 v4,listed=#[b0,b1,b2,b3,b4,b5,b6,b7,b8,b9,b10,b11,b12,b13,b14,b15,b16,b17,b18,b19,b20,b21,b22,b23]∧act=Act.mk #[Value.string s,.agg #[.int .i64 t.st,.int .i64 t.sym,.slice hA1 t.hood.length hc1,.slice vA1 t.vs.length vc1,.slice rA1 t.rs.length rc1],undef,.pointer (some ⟨pT,0,none⟩),v4,.pointer (some ⟨pA,0,none⟩),.int .i64 pn,.int .i64 pe,.pointer (some ⟨pC,0,none⟩),.int .i64 pn,.int .i64 pe,Value.string s,.int .i64 ↑s.size,.bool false,.bool false,.agg #[.int .i64 t.st,.int .i64 t.sym,.slice hA1 t.hood.length hc1,.slice vA1 t.vs.length vc1,.slice rA1 t.rs.length rc1],.bool true,.bool false,.bool false,undef,Value.tuple #[.agg #[.int .i64 t2.st,.int .i64 t2.sym,.slice hA2 t2.hood.length hc2,.slice vA2 t2.vs.length vc2,.slice rA2 t2.rs.length rc2],.int .i64 pn,.int .i64 pe],Value.string s,Value.tuple #[.agg #[.int .i64 t2.st,.int .i64 t2.sym,.slice hA2 t2.hood.length hc2,.slice vA2 t2.vs.length vc2,.slice rA2 t2.rs.length rc2],.int .i64 pn,.int .i64 pe],.agg #[.int .i64 t2.st,.int .i64 t2.sym,.slice hA2 t2.hood.length hc2,.slice vA2 t2.vs.length vc2,.slice rA2 t2.rs.length rc2],.int .i64 pn,.int .i64 pe,Value.tuple #[.agg #[.int .i64 t3.st,.int .i64 t3.sym,.slice hA3 t3.hood.length hc3,.slice vA3 t3.vs.length vc3,.slice rA3 t3.rs.length rc3],.int .i64 pn,.int .i64 pe],Value.string s,Value.tuple #[.agg #[.int .i64 t3.st,.int .i64 t3.sym,.slice hA3 t3.hood.length hc3,.slice vA3 t3.vs.length vc3,.slice rA3 t3.rs.length rc3],.int .i64 pn,.int .i64 pe],.agg #[.int .i64 t3.st,.int .i64 t3.sym,.slice hA3 t3.hood.length hc3,.slice vA3 t3.vs.length vc3,.slice rA3 t3.rs.length rc3],.int .i64 pn,.int .i64 pe,v32,v33,v34,v35,v36,v37,v38,v39,v40,v41,v42,v43,v44,v45,v46,v47,v48,v49,v50,v51,v52,v53,v54] []∧LpJ zC (.agg #[.int .i64 t.st,.int .i64 t.sym,.slice hA1 t.hood.length hc1,.slice vA1 t.vs.length vc1,.slice rA1 t.rs.length rc1]) (.agg #[.int .i64 t2.st,.int .i64 t2.sym,.slice hA2 t2.hood.length hc2,.slice vA2 t2.vs.length vc2,.slice rA2 t2.rs.length rc2]) (.agg #[.int .i64 t3.st,.int .i64 t3.sym,.slice hA3 t3.hood.length hc3,.slice vA3 t3.vs.length vc3,.slice rA3 t3.rs.length rc3]) pn pe tx b0 b1 b2 b3 b4 b5 b6 b7 b8 b9 b10 b11 b12 b13 b14 b15 b16 b17 b18 b19 b20 b21 b22 b23 v32 v33 v34 v35 v36 v37 v38 v39 v40 v41 v42 v43 v44 v45 v46 v47 v48 v49 v50 v51 v52 v53 v54 v4 w') ?_ ?_ ?_
   ·exact (e_8 (e_8 (e_8 (e_8 (e_8 (e_8 ⟨rfl,rfl,(by constructor;(case below=>exact (Below.refl _ zC).drew);all_goals simp)⟩))))))
   ·rintro i listed act w' hi ⟨b0,b1,b2,b3,b4,b5,b6,b7,b8,b9,b10,b11,b12,b13,b14,b15,b16,b17,b18,b19,b20,b21,b22,b23,v32,v33,v34,v35,v36,v37,v38,v39,v40,v41,v42,v43,v44,v45,v46,v47,v48,v49,v50,v51,v52,v53,v54,v4,rfl,rfl,H⟩;have hi16:i < 24:=by
     obtain⟨-,o,ho,-⟩:=mem_ready.1 hi;exact (Array.getElem?_eq_some_iff.1 ho).1
    obtain rfl | rfl | rfl | rfl | rfl | rfl | rfl | rfl | rfl | rfl | rfl | rfl | rfl | rfl | rfl | rfl | rfl | rfl | rfl | rfl | rfl | rfl | rfl | rfl:i=0∨i=1∨i=2∨i=3∨i=4∨i=5∨i=6∨i=7∨i=8∨i=9∨i=10∨i=11∨i=12∨i=13∨i=14∨i=15∨i=16∨i=17∨i=18∨i=19∨i=20∨i=21∨i=22∨i=23:=by omega
    all_goals simp[mem_ready,Region.binds] at hi
    ·obtain⟨g0,g1,g2,g3,g4⟩:=(HA.out.ext H.below).cells;refine wpOp_hidden rfl fun K hK=>?_;go_wp2;refine OnlyN.mk (hK.out _ _ (e_8 (e_8 (e_8 (e_8 (e_8 (e_8 ⟨rfl,rfl,{ H with h0:=fun _=>rfl }⟩)))))))
    ·obtain⟨g0,g1,g2,g3,g4⟩:=(HC.out.ext H.below).cells;refine wpOp_hidden rfl fun K hK=>?_;go_wp2;refine OnlyN.mk (hK.out _ _ (e_8 (e_8 (e_8 (e_8 (e_8 (e_8 ⟨rfl,rfl,{ H with h1:=fun _=>rfl }⟩)))))))
    ·obtain rfl:=H.h0 (by simp[hi]);obtain rfl:=H.h1 (by simp[hi]);have HB0:=hid (H.below);have hcall:=rsame11_any t2 t3 hA2 vA2 rA2 hc2 vc2 rc2 hA3 vA3 rA3 hc3 vc3 rc3 w' (HA.out.ext HB0.out).tb (HC.out.ext HB0.out).tb;rw[HE2.out,HE3.out,(sameTB_iff _ _).2 rfl] at hcall;unfold tabV at hcall;have HCALL:=hid hcall;clear hcall;refine wpOp_hidden rfl fun K hK=>?_;go_wp2_with (go_at_call 13;refine HCALL.out.mono ?_;intro e w9 hx;obtain⟨rfl,hb9⟩:=hx;refine Hid.out ?_);refine hid ?_;have HB9:=hid hb9;clear hb9 HCALL;go_wp2;refine OnlyN.mk (hK.out _ _ (e_8 (e_8 (e_8 (e_8 (e_8 (e_8 ⟨rfl,rfl,{ H.world HB9.out with h2:=fun _=>rfl }⟩)))))))
    ·obtain rfl:=H.h2 (by simp[hi]);refine wpOp_hidden rfl fun K hK=>?_;go_wp2;refine OnlyN.mk (hK.out _ _ (e_8 (e_8 (e_8 (e_8 (e_8 (e_8 ⟨rfl,rfl,{ H with h3:=fun _=>rfl }⟩)))))))
    ·obtain rfl:=H.h3 (by simp[hi]);refine wpOp_hidden rfl fun K hK=>?_;go_wp2;refine OnlyN.mk (hK.out _ _ (e_8 (e_8 (e_8 (e_8 (e_8 (e_8 ⟨rfl,rfl,{ H with h4:=fun _=>rfl }⟩)))))))
    ·obtain rfl:=H.h3 (by simp[hi]);refine wpOp_hidden rfl fun K hK=>?_;go_wp2;refine OnlyN.mk (hK.out _ _ (e_8 (e_8 (e_8 (e_8 (e_8 (e_8 ⟨rfl,rfl,{ H with h5:=fun _=>rfl }⟩)))))))
    ·obtain rfl:=H.h3 (by simp[hi]);obtain rfl:=H.h4 (by simp[hi]);obtain rfl:=H.h5 (by simp[hi]);refine wpOp_hidden rfl fun K hK=>?_;go_wp2;refine OnlyN.mk (hK.out _ _ (e_8 (e_8 (e_8 (e_8 (e_8 (e_8 ⟨rfl,rfl,{ H with h6:=fun _=>rfl }⟩)))))))
    ·obtain rfl:=H.h3 (by simp[hi]);obtain rfl:=H.h6 (by simp[hi]);refine wpOp_hidden rfl fun K hK=>?_;go_wp2;refine OnlyN.mk (hK.out _ _ (e_8 (e_8 (e_8 (e_8 (e_8 (e_8 ⟨rfl,rfl,{ H with h7:=fun _=>rfl }⟩)))))))
    ·obtain rfl:=H.h7 (by simp[hi]);refine wpOp_hidden rfl fun K hK=>?_;go_wp2;refine OnlyN.mk (hK.out _ _ (e_8 (e_8 (e_8 (e_8 (e_8 (e_8 ⟨rfl,rfl,{ H with h8:=fun _=>rfl }⟩)))))))
    ·obtain rfl:=H.h8 (by simp[hi]);refine wpOp_hidden rfl fun K hK=>?_;go_wp2;refine OnlyN.mk (hK.out _ _ (e_8 (e_8 (e_8 (e_8 (e_8 (e_8 ⟨rfl,rfl,{ H with h9:=fun _=>rfl }⟩)))))))
    ·obtain rfl:=H.h8 (by simp[hi]);refine wpOp_hidden rfl fun K hK=>?_;go_wp2;refine OnlyN.mk (hK.out _ _ (e_8 (e_8 (e_8 (e_8 (e_8 (e_8 ⟨rfl,rfl,{ H with h10:=fun _=>rfl }⟩)))))))
    ·obtain rfl:=H.h8 (by simp[hi]);obtain rfl:=H.h9 (by simp[hi]);obtain rfl:=H.h10 (by simp[hi]);refine wpOp_hidden rfl fun K hK=>?_;go_wp2;refine OnlyN.mk (hK.out _ _ (e_8 (e_8 (e_8 (e_8 (e_8 (e_8 ⟨rfl,rfl,{ H with h11:=fun _=>rfl }⟩)))))))
    ·obtain rfl:=H.h8 (by simp[hi]);obtain rfl:=H.h11 (by simp[hi]);refine wpOp_hidden rfl fun K hK=>?_;go_wp2;refine OnlyN.mk (hK.out _ _ (e_8 (e_8 (e_8 (e_8 (e_8 (e_8 ⟨rfl,rfl,{ H with h12:=fun _=>rfl }⟩)))))))
    ·obtain rfl:=H.h12 (by simp[hi]);refine wpOp_hidden rfl fun K hK=>?_;go_wp2;refine OnlyN.mk (hK.out _ _ (e_8 (e_8 (e_8 (e_8 (e_8 (e_8 ⟨rfl,rfl,{ H with h13:=fun _=>rfl }⟩)))))))
    ·obtain rfl:=H.h13 (by simp[hi]);obtain⟨g0,g1,g2,g3,g4⟩:=(HT.out.ext H.below).cells;refine wpOp_hidden rfl fun K hK=>?_;go_wp2;refine OnlyN.mk (hK.out _ _ (e_8 (e_8 (e_8 (e_8 (e_8 (e_8 ⟨rfl,rfl,{ H with h14:=fun _=>rfl }⟩)))))))
    ·obtain rfl:=H.h13 (by simp[hi]);obtain rfl:=H.h14 (by simp[hi]);have HB0:=hid (H.below);have hcall:=text_any hA1 hc1 vA1 vc1 rA1 rc1 t w' (HT.out.ext HB0.out).tb (HENV.out.ext HB0.out).mat (HENV.out.ext HB0.out).sym HFT.out;rw[HTX.out] at hcall;unfold tabV at hcall;have HCALL:=hid hcall;clear hcall;refine wpOp_hidden rfl fun K hK=>?_;go_wp2_with (go_at_call 20;refine HCALL.out.mono ?_;intro e w9 hx;obtain⟨rfl,hb9⟩:=hx;refine Hid.out ?_);refine hid ?_;have HB9:=hid hb9;clear hb9 HCALL;go_wp2;refine OnlyN.mk (hK.out _ _ (e_8 (e_8 (e_8 (e_8 (e_8 (e_8 ⟨rfl,rfl,{ H.world HB9.out with h15:=fun _=>rfl }⟩)))))))
    ·obtain rfl:=H.h13 (by simp[hi]);obtain⟨g0,g1,g2,g3,g4⟩:=(HT.out.ext H.below).cells;refine wpOp_hidden rfl fun K hK=>?_;go_wp2;refine OnlyN.mk (hK.out _ _ (e_8 (e_8 (e_8 (e_8 (e_8 (e_8 ⟨rfl,rfl,{ H with h16:=fun _=>rfl }⟩)))))))
    ·obtain rfl:=H.h13 (by simp[hi]);obtain rfl:=H.h16 (by simp[hi]);have HB0:=hid (H.below);have hcall:=rtext_any hA1 hc1 vA1 vc1 rA1 rc1 t w' (HT.out.ext HB0.out).tb HFT.out;rw[HTX.out] at hcall;unfold tabV at hcall;have HCALL:=hid hcall;clear hcall;refine wpOp_hidden rfl fun K hK=>?_;go_wp2_with (go_at_call 21;refine HCALL.out.mono ?_;intro e w9 hx;obtain⟨rfl,hb9⟩:=hx;refine Hid.out ?_);refine hid ?_;have HB9:=hid hb9;clear hb9 HCALL;go_wp2;refine OnlyN.mk (hK.out _ _ (e_8 (e_8 (e_8 (e_8 (e_8 (e_8 ⟨rfl,rfl,{ H.world HB9.out with h17:=fun _=>rfl }⟩)))))))
    ·obtain rfl:=H.h13 (by simp[hi]);obtain rfl:=H.h15 (by simp[hi]);obtain rfl:=H.h17 (by simp[hi]);refine wpOp_hidden rfl fun K hK=>?_;go_wp2;refine OnlyN.mk (hK.out _ _ (e_8 (e_8 (e_8 (e_8 (e_8 (e_8 ⟨rfl,rfl,{ H with h18:=fun _=>rfl }⟩)))))))
    ·obtain rfl:=H.h13 (by simp[hi]);obtain rfl:=H.h18 (by simp[hi]);refine wpOp_hidden rfl fun K hK=>?_;go_wp2;refine OnlyN.mk (hK.out _ _ (e_8 (e_8 (e_8 (e_8 (e_8 (e_8 ⟨rfl,rfl,{ H with h19:=fun _=>rfl }⟩)))))))
    ·obtain rfl:=H.h19 (by simp[hi]);refine wpOp_hidden rfl fun K hK=>?_;go_wp2;refine OnlyN.mk (hK.out _ _ (e_8 (e_8 (e_8 (e_8 (e_8 (e_8 ⟨rfl,rfl,{ H with h20:=fun _=>rfl }⟩)))))))
    ·obtain rfl:=H.h20 (by simp[hi]);have HB0:=hid (H.below);have hcall:=awake_any w' (HENV.out.ext HB0.out);have HCALL:=hid hcall;clear hcall;refine wpOp_hidden rfl fun K hK=>?_;go_wp2_with (go_at_call 9;refine HCALL.out.mono ?_;intro e w9 hx;obtain⟨rfl,hb9⟩:=hx;refine Hid.out ?_);refine hid ?_;have HB9:=hid hb9;clear hb9 HCALL;go_wp2;refine OnlyN.mk (hK.out _ _ (e_8 (e_8 (e_8 (e_8 (e_8 (e_8 ⟨rfl,rfl,{ H.world HB9.out with h21:=fun _=>rfl }⟩)))))))
    ·obtain rfl:=H.h20 (by simp[hi]);obtain rfl:=H.h21 (by simp[hi]);refine wpOp_hidden rfl fun K hK=>?_;go_wp2;refine OnlyN.mk (hK.out _ _ (e_8 (e_8 (e_8 (e_8 (e_8 (e_8 ⟨rfl,rfl,{ H with h22:=fun _=>rfl }⟩)))))))
    ·obtain rfl:=H.h22 (by simp[hi]);refine wpOp_hidden rfl fun K hK=>?_;go_wp2;refine OnlyN.mk (hK.out _ _ (e_8 (e_8 (e_8 (e_8 (e_8 (e_8 ⟨rfl,rfl,{ H with h23:=fun _=>rfl }⟩)))))))
   ·rintro listed act w' hr ⟨b0,b1,b2,b3,b4,b5,b6,b7,b8,b9,b10,b11,b12,b13,b14,b15,b16,b17,b18,b19,b20,b21,b22,b23,v32,v33,v34,v35,v36,v37,v38,v39,v40,v41,v42,v43,v44,v45,v46,v47,v48,v49,v50,v51,v52,v53,v54,v4,rfl,rfl,H⟩;have hn:=List.eq_nil_iff_forall_not_mem.1 hr;have r0:=hn 0;simp[mem_ready,Region.binds] at r0;subst r0;have r1:=hn 1;simp[mem_ready,Region.binds] at r1;subst r1;have r2:=hn 2;simp[mem_ready,Region.binds] at r2;subst r2;have r3:=hn 3;simp[mem_ready,Region.binds] at r3;subst r3;have r4:=hn 4;simp[mem_ready,Region.binds] at r4;subst r4;have r5:=hn 5;simp[mem_ready,Region.binds] at r5;subst r5;have r6:=hn 6;simp[mem_ready,Region.binds] at r6;subst r6;have r7:=hn 7;simp[mem_ready,Region.binds] at r7;subst r7;have r8:=hn 8;simp[mem_ready,Region.binds] at r8;subst r8;have r9:=hn 9;simp[mem_ready,Region.binds] at r9;subst r9;have r10:=hn 10;simp[mem_ready,Region.binds] at r10;subst r10;have r11:=hn 11;simp[mem_ready,Region.binds] at r11;subst r11;have r12:=hn 12;simp[mem_ready,Region.binds] at r12;subst r12;have r13:=hn 13;simp[mem_ready,Region.binds] at r13;subst r13;have r14:=hn 14;simp[mem_ready,Region.binds] at r14;subst r14;have r15:=hn 15;simp[mem_ready,Region.binds] at r15;subst r15;have r16:=hn 16;simp[mem_ready,Region.binds] at r16;subst r16;have r17:=hn 17;simp[mem_ready,Region.binds] at r17;subst r17;have r18:=hn 18;simp[mem_ready,Region.binds] at r18;subst r18;have r19:=hn 19;simp[mem_ready,Region.binds] at r19;subst r19;have r20:=hn 20;simp[mem_ready,Region.binds] at r20;subst r20;have r21:=hn 21;simp[mem_ready,Region.binds] at r21;subst r21;have r22:=hn 22;simp[mem_ready,Region.binds] at r22;subst r22;have r23:=hn 23;simp[mem_ready,Region.binds] at r23;subst r23;try dsimp only
    obtain rfl:=H.h23 rfl;have HBF:=hid (HB.out.trans (H.below.mono HB.out.size));clear H hr hn;go_wp2;go_ret;exact⟨rfl,HBF.out⟩
 ·
  have d3:=no3 hl;clear go3 no3 hl;go_enter Tryz.func5,Tryz.ntmps5;obtain⟨zT,hw⟩:∃ W,W=w.alloc (.cells #[.int .i64 t.st,.int .i64 t.sym,.slice hA1 t.hood.length hc1,.slice vA1 t.vs.length vc1,.slice rA1 t.rs.length rc1] 26):=⟨_,rfl⟩
  obtain⟨pT,hp⟩:∃ p,p=w.heap.size:=⟨_,rfl⟩
  have hv:=TvB.new (hc:=hc1) (vc:=vc1) (rc:=rc1) hr;rw[← hw,← hp] at hv;have hb:Below w.heap.size w zT:=by rw[hw];exact below_new _ _
  replace HB:=hid (HB.out.trans (hb.mono HB.out.size));replace HENV:=hid (HENV.out.ext hb);have HT:=hid hv;clear hv hb hr;go_upto_region 1 with fail
  rw[← hw,← hp];clear hw hp;have hcall:=awake_any zT HENV.out;have HCALL:=hid hcall;clear hcall;go_wp2_with (go_at_call 9;refine HCALL.out.mono ?_;intro e x1 hx;obtain⟨rfl,hb⟩:=hx;refine Hid.out ?_);refine hid ?_;replace HB:=hid (HB.out.trans (hb.mono HB.out.size));replace HENV:=hid (HENV.out.ext hb);replace HT:=hid (HT.out.ext hb);clear hb HCALL;go_wp2;go_ret;exact⟨rfl,HB.out⟩
end Go.Proofs.YtcmbdhopmncmnaaGreatDoor
