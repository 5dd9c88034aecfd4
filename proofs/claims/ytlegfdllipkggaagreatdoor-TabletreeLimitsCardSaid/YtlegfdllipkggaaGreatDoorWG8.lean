/-
  texts Table App: parts of the proof; conditions stand with each theorem.
-/
import Derived.Test.YtlegfdllipkggaaGreatDoorWTWalk
import Derived.Test.YtlegfdllipkggaaGreatDoorWG5
namespace Go.Proofs.YtlegfdllipkggaaGreatDoor
open Lib(hid)
open Go.RowKit Go.Maps
set_option maxRecDepth 100000
set_option linter.unusedVariables false
set_option linter.unusedSimpArgs false

theorem Tryz.sizeTable:(Tryz.prog.info? 26).map (·.size)=some 5:=by kernel_rfl
def TabL.zero:TabL:=⟨0,0,[],[],[]⟩
def rowsOf (t:PT):List Rw:=rowsT (redT t).ns (ctrP t.ps) t.ps.length [] (((redT t).ns.length - 1:Nat):Int)
def tableP (t:PT):TabL × Int:=if t.right=false then (TabL.zero,11) else if 400 < (rowsOf t).length then (TabL.zero,6) else
 (⟨t.st,0,t.ps,List.replicate t.ps.length ((List.range t.st.toNat).map fun (s:Nat)=>(s:Int)),rowsOf t⟩,0)
def RetTab (te:TabL × Int)(w:World)(e:Ending)(w':World):Prop:=∃ hA hc vA vc rA rc h,e=.returned (.tuple #[tabV hA hc vA vc rA rc h,.int .i64 te.2])∧TabR w' hA vA rA h∧h.tab=te.1∧Below w.heap.size w w'
theorem blk_two' (w:World)(o:Obj)(cs:Array Value)(T:TypeId):Blk ((w.alloc o).alloc (.cells cs T)) (w.heap.size+1) T cs:=by
 have:=Blk.new (w.alloc o) T cs;simpa using this
theorem tab_zero (w:World):TabR w none none none ⟨0,0,[],[],[]⟩:=⟨Pts.nil,Vrs.nil,Rws.nil⟩
theorem red_canT {t:PT}(h:t.right=true):Can t.st.toNat t.ps.length (redT t).ns:=by
 obtain⟨a1,a2,a3,a4,a5,a6,a7,a8,a9⟩:=rightN_parts h;have e:redT t=⟨t.st,t.ps,redN chR t.ns⟩:=by unfold redT;rw[if_pos h]
 rw[e];exact red_can a8 (chR_chg _) (by omega) (by omega) a6
theorem idxF_lt {α:Type} [DecidableEq α] {p:α}:∀ (xs:List α)(k:Nat),idxF p k xs < 0∨(0≤idxF p k xs∧(idxF p k xs).toNat < k+xs.length)
 | [],k=>by simp[idxF]
 | x :: l,k=>by
  unfold idxF;by_cases h:x=p
  ·rw[if_pos h];right;constructor <;> simp
  ·rw[if_neg h];rcases idxF_lt l (k+1) with h1 | ⟨h1,h2⟩
   ·exact .inl h1
   ·refine .inr ⟨h1,?_⟩;rw[List.length_cons];omega
theorem ctr_lt (ps:List (Int × Int)):ctrP ps < 0∨(0≤ctrP ps∧(ctrP ps).toNat < ps.length):=by
 unfold ctrP
 split
 ·have:=idxF_lt (p:=((0,0):Int × Int)) ps 0;simpa using this
 ·exact .inl (by decide)
structure Tab3J (V:World)(q:Nat)(st:Int)(A:Option Addr)(n:Nat)(c:Nat)(D:Option Addr)(m:Nat)(d:Nat)(ps:List (Int × Int))(ns:List Nd)(cv:Int)(b0 b1 b2 b3 b4 b5 b6 b7:Bool)(v12 v13 v14 v15 v16 v17 v18 v4:Value)(w:World):Prop where
 h0:b0=true→v12=.agg #[.int .i64 st,.slice A n c,.slice D m d]
 h2:b2=true→v14=.pointer (some ⟨q,1,none⟩)
 h3:b3=true→v15=.slice A n c
 h4:b4=true→v16=.int .i64 cv
 below:Below V.heap.size V w
 x1:b1=true→∃ A1 c1 B1 d1 os1,v13=.agg #[.int .i64 st,.slice A1 n c1,.slice B1 (List.length os1) d1]∧Pts w A1 ps∧Nds w B1 os1∧os1.map Hd.nd=ns
 x5:b5=true→∃ A1 c1 B1 d1 os1,v17=.agg #[.int .i64 st,.slice A1 n c1,.slice B1 (List.length os1) d1,.int .i64 cv,.slice none 0 0,.slice none 0 0]∧Pts w A1 ps∧Nds w B1 os1∧os1.map Hd.nd=ns
 x6:b6=true→∃ WB A1 c1 B1 d1 os1 p,v18=.pointer (some ⟨p,0,none⟩)∧Nds WB B1 os1∧os1.map Hd.nd=ns∧Pts WB A1 ps∧Below V.heap.size V WB∧Below WB.heap.size WB w∧WB.heap.size≤p∧Blk w p 72 #[.int .i64 st,.slice A1 n c1,.slice B1 (List.length os1) d1,.int .i64 cv,.slice none 0 0,.slice none 0 0]
 h7:b7=true→v4=v18
 o7:b7=true→b6=true
section
variable {V : World} {q : Nat} {st : Int} {A : Option Addr} {n : Nat} {c : Nat} {D : Option Addr} {m : Nat} {d : Nat} {ps : List (Int × Int)} {ns : List Nd} {cv : Int} {b0 b1 b2 b3 b4 b5 b6 b7 : Bool} {v12 v13 v14 v15 v16 v17 v18 v4 : Value} {w w' : World}
theorem Tab3J.world (H:Tab3J V q st A n c D m d ps ns cv b0 b1 b2 b3 b4 b5 b6 b7 v12 v13 v14 v15 v16 v17 v18 v4 w)(hb:Below w.heap.size w w'):Tab3J V q st A n c D m d ps ns cv b0 b1 b2 b3 b4 b5 b6 b7 v12 v13 v14 v15 v16 v17 v18 v4 w':=
 ⟨H.h0,H.h2,H.h3,H.h4,H.below.trans (hb.mono H.below.size),fun h=>(H.x1 h).imp fun A1 h=>h.imp fun c1 h=>h.imp fun B1 h=>h.imp fun d1 h=>h.imp fun os1 h=>⟨h.1,h.2.1.ext hb,h.2.2.1.ext hb,h.2.2.2⟩,fun h=>(H.x5 h).imp fun A1 h=>h.imp fun c1 h=>h.imp fun B1 h=>h.imp fun d1 h=>h.imp fun os1 h=>⟨h.1,h.2.1.ext hb,h.2.2.1.ext hb,h.2.2.2⟩,fun h=>by
  obtain⟨WB,A1,c1,B1,d1,os1,p,e,h1,h2,h3,h4,h5,h6,h7⟩:=H.x6 h;exact⟨WB,A1,c1,B1,d1,os1,p,e,h1,h2,h3,h4,h5.trans (hb.mono h5.size),h6,h7.below hb h7.lt⟩,H.h7,H.o7⟩
end
structure Tab6J (V:World)(q:Nat)(p:Nat)(st:Int)(A:Option Addr)(n:Nat)(c:Nat)(R:Option Addr)(rn:Nat)(rc:Nat)(b0 b1 b2 b3 b4 b5 b6 b7 b8 b9 b10:Bool)(v30 v31 v32 v33 v34 v35 v36 v37 v38 v5:Value)(w:World):Prop where
 h0:b0=true→v30=.pointer (some ⟨q,0,none⟩)
 h1:b1=true→v31=.int .i64 st
 h2:b2=true→v32=.pointer (some ⟨q,1,none⟩)
 h3:b3=true→v33=.slice A n c
 h4:b4=true→v34=.pointer (some ⟨p,0,none⟩)
 h5:b5=true→v35=.pointer (some ⟨p,0,none⟩)
 h6:b6=true→v36=.pointer (some ⟨p,5,none⟩)
 h7:b7=true→v37=.slice R rn rc
 h8:b8=true→v38=.agg #[.int .i64 st,.int .i64 0,.slice A n c,.slice none 0 0,.slice R rn rc]
 h9:b9=true→v5=.pointer (some ⟨V.heap.size,0,none⟩)
 hk:b10=false→∀ p:Addr,p.block < V.heap.size→w.cell? p=V.cell? p
 wa:b9=false→w=V.drew
 wb:b9=true→b10=false→w=V.drew.alloc (.cells #[.int .i64 0,.int .i64 0,.slice none 0 0,.slice none 0 0,.slice none 0 0] 26)
 wd:b10=true→Blk w V.heap.size 26 #[.int .i64 st,.int .i64 0,.slice A n c,.slice none 0 0,.slice R rn rc]∧Below V.heap.size V w
 o8:b8=true→b1=true∧b3=true∧b7=true
 o10:b10=true→b8=true∧b9=true
def allS (n:Nat):List Int:=(List.range n).map fun (s:Nat)=>(s:Int)
theorem allS_len (n:Nat):(allS n).length=n:=by simp[allS]
theorem allS_succ (n:Nat):allS (n+1)=allS n ++ [(n:Int)]:=by simp[allS,List.range_succ]
structure TbW (B p:Nat)(st:Int)(A:Option Addr)(n c:Nat)(vv:Value)(vs:List Vh)(R:Option Addr)(rc:Nat)(rs:List Rh)(w:World):Prop where
 blk:Blk w p 26 #[.int .i64 st,.int .i64 0,.slice A n c,vv,.slice R rs.length rc]
 vr:OwnV 38 3 w B vv vs
 rr:OwnRA w B (.slice R rs.length rc) rs
 lo:B≤p
section
variable {B p : Nat} {st : Int} {A : Option Addr} {n c : Nat} {vv vv' : Value} {vs : List Vh} {R : Option Addr} {rc : Nat} {rs : List Rh} {w w1 : World}
theorem TbW.ext (h:TbW B p st A n c vv vs R rc rs w)(hb:Below w.heap.size w w1):TbW B p st A n c vv vs R rc rs w1:=⟨h.blk.below hb h.blk.lt,h.vr.ext hb,h.rr.ext hb,h.lo⟩
theorem TbW.push {x:Vh}(h:TbW B p st A n c vv vs R rc rs w)(ho:OwnV 38 3 w1 B vv' (vs ++ [x]))(hk:Kept (fun g=>vv.ownBlock=some g) w w1) :
  TbW B p st A n c vv' (vs ++ [x]) R rc rs (w1.setCell ⟨p,3,none⟩ vv')∧Below B w (w1.setCell ⟨p,3,none⟩ vv'):=by
 have b1:=hk.blk h.blk (own_blk_ne' h.vr.1 h.blk (by decide));have r1:OwnRA w1 B (.slice R rs.length rc) rs:=OwnR.kept h.rr hk (fun g e1 e2=>own_ne h.vr.1 h.rr.1 (by decide) e2 e1) (fun x hx g e1 e2=>own_ne h.vr.1 (h.rr.2 x hx) (by decide) e2 e1);have k7:Kept (fun g=>g=p) w1 (w1.setCell ⟨p,3,none⟩ vv'):=(Kept.refl (fun g=>g=p) w1).setCell (p:=⟨p,3,none⟩) (Or.inl rfl) vv';refine⟨⟨b1.set_ 3 vv',OwnV.kept ho k7 (fun g e1 e2=>by subst e2;exact own_blk_ne' ho.1 b1 (by decide) e1) (fun x hx g e1 e2=>by subst e2;exact own_blk_ne' (ho.2 x hx) b1 (by decide) e1),OwnR.kept r1 k7 (fun g e1 e2=>by subst e2;exact own_blk_ne' r1.1 b1 (by decide) e1) (fun x hx g e1 e2=>by subst e2;exact own_blk_ne' (r1.2 x hx) b1 (by decide) e1),h.lo⟩,?_⟩;have hs:=h.blk.lt;have hlo:=h.lo;have h1:Below B w w1:=hk.to_below (by omega) fun g hg e=>by have:=(own_lt' h.vr.1 e).2;omega
 exact h1.trans (k7.to_below (Nat.le_trans (by omega) h1.size) fun g hg e=>by have:=h.lo;omega)
end
set_option maxHeartbeats 16000000 in
theorem table_any (A:Option Addr)(c:Nat)(D:Option Addr)(d:Nat)(os:List Hd)(t:PT)(w:World)(hp:Pts w A t.ps)(hN:Nds w D os)(hns:os.map Hd.nd=t.ns)(hT:TabB w.heap.size w) :
  Calls Tryz.prog 22 #[.agg #[.int .i64 t.st,.slice A t.ps.length c,.slice D os.length d]] w (RetTab (tableP t) w):=by
 obtain⟨w0,hw0⟩:∃ w0,w0=(w.alloc (.cells #[.int .i64 t.st,.slice A t.ps.length c,.slice D os.length d] 31)).alloc (.cells #[.int .i64 0,.int .i64 0,.slice none 0 0,.slice none 0 0,.slice none 0 0] 26):=⟨_,rfl⟩
 have hb1:=below_new w (.cells #[.int .i64 t.st,.slice A t.ps.length c,.slice D os.length d] 31);have hb0:Below w.heap.size w w0:=by rw[hw0];exact hb1.alloc hb1.size _
 have p0:Blk w0 w.heap.size 31 #[.int .i64 t.st,.slice A t.ps.length c,.slice D os.length d]:=by rw[hw0];exact (Blk.new w _ _).alloc _
 have q0:Blk w0 (w.heap.size+1) 26 #[.int .i64 0,.int .i64 0,.slice none 0 0,.slice none 0 0,.slice none 0 0]:=by rw[hw0];exact blk_two' _ _ _ _
 have HTT:Hid (∀ W,Below w.heap.size w W→TreeAt W (.agg #[.int .i64 t.st,.slice A t.ps.length c,.slice D os.length d]) t):=hid (fun W hb=>⟨A,c,D,d,os,rfl,hp.ext hb,hN.ext hb,hns⟩);have HR:Hid (∀ W,Below w.heap.size w W→Calls Tryz.prog 40 #[.agg #[.int .i64 t.st,.slice A t.ps.length c,.slice D os.length d]] W fun e w'=>e=.returned (.bool t.right)∧Below W.heap.size W w'):=hid (fun W hb=>by
  have:=right_any t.st A c t.ps D d os W (hp.ext hb) (hN.ext hb);rw[hns] at this;exact this)
 have HTB:=hid hT;have HB0:=hid hb0;have HP0:=hid p0;have HQ0:=hid q0;have HW0:=hid hw0;have hRX:=HR.out w0 hb0;have c0:=p0.cell_ 0 (.int .i64 t.st) rfl;have c1:=p0.cell_ 1 (.slice A t.ps.length c) rfl;have c2:=p0.cell_ 2 (.slice D os.length d) rfl;have HPT:=hid hp;clear hb1 hb0 p0 q0 hw0 hp hN hns hT HR;cases hr:t.right with
 | false=>
  have HE:Hid (tableP t=(TabL.zero,11)):=hid (by unfold tableP;rw[if_pos hr]);rw[hr] at hRX;have HRX:=hid hRX;clear hr hRX;go_enter Tryz.func22,Tryz.ntmps22;go_upto_region 1 with fail
  rw[← HW0.out];go_wp2_with (go_at_call 40;refine HRX.out.mono ?_;rintro e w1 ⟨rfl,hb⟩;refine Hid.out ?_);refine hid ?_;have q1:=HQ0.out.below hb HQ0.out.lt;have HQ1:=hid q1;have d0:=q1.cell_ 0 (.int .i64 0) rfl;have d1:=q1.cell_ 1 (.int .i64 0) rfl;have d2:=q1.cell_ 2 (.slice none 0 0) rfl;have d3:=q1.cell_ 3 (.slice none 0 0) rfl;have d4:=q1.cell_ 4 (.slice none 0 0) rfl;have f0:=q1.frozen 0;have f1:=q1.frozen 1;have f2:=q1.frozen 2;have f3:=q1.frozen 3;have f4:=q1.frozen 4;have HB:=hid (HB0.out.trans (hb.mono HB0.out.size));clear q1 hb c0 c1 c2;go_wp2;have hq:Blk (((((w1.setCell ⟨w.heap.size+1,0,none⟩ (.int .i64 0)).setCell ⟨w.heap.size+1,1,none⟩ (.int .i64 0)).setCell ⟨w.heap.size+1,2,none⟩ (.slice none 0 0)).setCell ⟨w.heap.size+1,3,none⟩ (.slice none 0 0)).setCell ⟨w.heap.size+1,4,none⟩ (.slice none 0 0)) (w.heap.size+1) 26 #[.int .i64 0,.int .i64 0,.slice none 0 0,.slice none 0 0,.slice none 0 0]:=(((((HQ1.out.set_ 0 (.int .i64 0)).set_ 1 (.int .i64 0)).set_ 2 (.slice none 0 0)).set_ 3 (.slice none 0 0)).set_ 4 (.slice none 0 0))
  rw[HE.out];exact bodyPost_ret (results_ct Tryz.results22 _ _ (w.heap.size+1) 26 #[.int .i64 0,.int .i64 0,.slice none 0 0,.slice none 0 0,.slice none 0 0] (0,0) _ rfl hq Tryz.underlying26 rfl Tryz.sizeTable) rfl
   ⟨none,0,none,0,none,0,⟨0,0,[],[],[]⟩,rfl,tab_zero _,rfl,(((((HB.out.setCell (p:=⟨w.heap.size+1,0,none⟩) (by simp) _).setCell (p:=⟨w.heap.size+1,1,none⟩) (by simp) _).setCell (p:=⟨w.heap.size+1,2,none⟩) (by simp) _).setCell (p:=⟨w.heap.size+1,3,none⟩) (by simp) _).setCell (p:=⟨w.heap.size+1,4,none⟩) (by simp) _)⟩
 | true=>
  obtain⟨a1,a2,a3,a4,a5,a6,a7,a8,a9⟩:=rightN_parts hr;obtain⟨r1,r2,r3,r4,r5,r6,r7⟩:=redT_ok hr;have hcan:=red_canT hr;rw[hr] at hRX;have HRX:=hid hRX;have HPR:=hid (And.intro a1 (And.intro a2 (And.intro a3 a7)));have HRD:=hid (And.intro r1 (And.intro r3 (And.intro r6 r7)));have HCN:=hid hcan;have HRR:=hid hr;have hps1:1≤t.ps.length:=by
   unfold hoodB at a3;simp only[Bool.and_eq_true,decide_eq_true_eq] at a3;exact a3.1.1
  have HP1:=hid hps1;have HRED:Hid (∀ W,Below w.heap.size w W→Calls Tryz.prog 41 #[.agg #[.int .i64 t.st,.slice A t.ps.length c,.slice D os.length d]] W (RetA (redT t) W)):=hid (fun W hW=>red_tv (HTT.out W hW) ((HTB.out.on hW).up hW.size));have HCTR:Hid (∀ W,Below w.heap.size w W→Calls Tryz.prog 42 #[.slice A t.ps.length c] W fun e w'=>e=.returned (.int .i64 (ctrP t.ps))∧Below W.heap.size W w'):=hid (fun W hW=>centre_any A t.ps c W (HPT.out.ext hW));have HCT:Hid (ctrP t.ps < 0∨(0≤ctrP t.ps∧(ctrP t.ps).toNat < t.ps.length)):=hid (ctr_lt t.ps);obtain⟨cv,hcv⟩:∃ cv,cv=ctrP t.ps:=⟨_,rfl⟩
  rw[← hcv] at HCTR HCT;have HCV:=hid hcv;clear hr hRX a1 a2 a3 a4 a5 a6 a7 a8 a9 r1 r2 r3 r4 r5 r6 r7 hcan hps1 hcv;go_enter Tryz.func22,Tryz.ntmps22;go_upto_region 1 with fail
  rw[← HW0.out];go_wp2_with (go_at_call 40;refine HRX.out.mono ?_;rintro e w1 ⟨rfl,hb⟩;refine Hid.out ?_);refine hid ?_;have HB1:=hid (HB0.out.trans (hb.mono HB0.out.size));have HP1':=hid (HP0.out.below hb HP0.out.lt);have HQ1:=hid (HQ0.out.below hb HQ0.out.lt);clear hb c0 c1 c2 HP0 HQ0 HRX;go_upto_region 3 with fail
  refine wp_region_J (by kernel_rfl) (fun listed act w'=>∃ b0 b1 b2 b3 b4 b5 b6 b7 v12 v13 v14 v15 v16 v17 v18 v4,listed=#[b0,b1,b2,b3,b4,b5,b6,b7]∧act=Act.mk #[.agg #[.int .i64 t.st,.slice A t.ps.length c,.slice D os.length d],.pointer (some ⟨w.heap.size,0,none⟩),.pointer (some ⟨w.heap.size+1,0,none⟩),.int .i64 0,v4,undef,undef,undef,.agg #[.int .i64 t.st,.slice A t.ps.length c,.slice D os.length d],.bool true,.bool false,undef,v12,v13,v14,v15,v16,v17,v18,undef,undef,undef,undef,undef,undef,undef,undef,undef,undef,undef,undef,undef,undef,undef,undef,undef,undef,undef,undef,undef,undef,undef,undef,undef,undef,undef,undef,undef,undef,undef,undef,undef,undef,undef,undef,undef,undef,undef,undef,undef,undef,undef] []∧Tab3J w1 w.heap.size t.st A t.ps.length c D os.length d t.ps (redT t).ns cv b0 b1 b2 b3 b4 b5 b6 b7 v12 v13 v14 v15 v16 v17 v18 v4 w') ?_ ?_ ?_
  ·exact (e_8 (e_8 ⟨rfl,rfl,(by constructor;(case below=>exact (Below.refl _ w1).drew);all_goals simp)⟩))
  ·rintro i listed act w' hi ⟨b0,b1,b2,b3,b4,b5,b6,b7,v12,v13,v14,v15,v16,v17,v18,v4,rfl,rfl,H⟩;have hi16:i < 8:=by
    obtain⟨-,o,ho,-⟩:=mem_ready.1 hi;exact (Array.getElem?_eq_some_iff.1 ho).1
   obtain rfl | rfl | rfl | rfl | rfl | rfl | rfl | rfl:i=0∨i=1∨i=2∨i=3∨i=4∨i=5∨i=6∨i=7:=by omega
   all_goals simp[mem_ready,Region.binds] at hi
   ·have hcc:=HP1'.out.below H.below HP1'.out.lt;have c0:=hcc.cell_ 0 (.int .i64 t.st) rfl;have c1:=hcc.cell_ 1 (.slice A t.ps.length c) rfl;have c2:=hcc.cell_ 2 (.slice D os.length d) rfl;clear hcc;refine wpOp_hidden rfl fun K hK=>?_;go_wp2;refine OnlyN.mk (hK.out _ _ (e_8 (e_8 ⟨rfl,rfl,{ H with h0:=fun _=>rfl }⟩)))
   ·obtain rfl:=H.h0 (by simp[hi]);have hcall:=HRED.out w' (HB1.out.trans (H.below.mono HB1.out.size));have HCALL:=hid hcall;clear hcall;refine wpOp_hidden rfl fun K hK=>?_;go_wp2_with (go_at_call 41;refine HCALL.out.mono ?_;rintro e w2 ⟨st',A',n',c',B',m',d',rfl,hat,hb⟩;refine Hid.out ?_);refine hid ?_;have H2:=H.world hb;obtain⟨A1,c1,B1,d1,os1,e1,k1,k2,k3⟩:=hat;injection e1 with e1
    simp only[Array.mk.injEq,List.cons.injEq,Value.int.injEq,Value.slice.injEq,true_and,and_true] at e1;obtain⟨rfl,⟨rfl,rfl,rfl⟩,rfl,rfl,rfl⟩:=e1;rw[HRD.out.2.2.2] at k1;have HX:Hid (Pts w2 A' t.ps∧Nds w2 B' os1∧os1.map Hd.nd=(redT t).ns):=hid ⟨k1,k2,k3⟩;rw[HRD.out.2.2.1,HRD.out.2.2.2];clear k1 k2 k3 hb;go_wp2;refine OnlyN.mk (hK.out _ _ (e_8 (e_8 ⟨rfl,rfl,{ H2 with x1:=fun _=>⟨A',c',B',d',os1,rfl,HX.out⟩ }⟩)))
   ·refine wpOp_hidden rfl fun K hK=>?_;go_wp2;refine OnlyN.mk (hK.out _ _ (e_8 (e_8 ⟨rfl,rfl,{ H with h2:=fun _=>rfl }⟩)))
   ·obtain rfl:=H.h2 (by simp[hi]);have c1:=(HP1'.out.below H.below HP1'.out.lt).cell_ 1 (.slice A t.ps.length c) rfl;refine wpOp_hidden rfl fun K hK=>?_;go_wp2;refine OnlyN.mk (hK.out _ _ (e_8 (e_8 ⟨rfl,rfl,{ H with h3:=fun _=>rfl }⟩)))
   ·obtain rfl:=H.h3 (by simp[hi]);have hcall:=HCTR.out w' (HB1.out.trans (H.below.mono HB1.out.size));have HCALL:=hid hcall;clear hcall;refine wpOp_hidden rfl fun K hK=>?_;go_wp2_with (go_at_call 42;refine HCALL.out.mono ?_;rintro e w2 ⟨rfl,hb⟩;refine Hid.out ?_);refine hid ?_;have H2:=H.world hb;clear hb;go_wp2;refine OnlyN.mk (hK.out _ _ (e_8 (e_8 ⟨rfl,rfl,{ H2 with h4:=fun _=>rfl }⟩)))
   ·obtain rfl:=H.h4 (by simp[hi]);obtain⟨A1,c1,B1,d1,os1,e13,k1⟩:=H.x1 (by simp[hi]);subst e13;have HX:=hid k1;clear k1;refine wpOp_hidden rfl fun K hK=>?_;go_wp2;refine OnlyN.mk (hK.out _ _ (e_8 (e_8 ⟨rfl,rfl,{ H with x5:=fun _=>⟨A1,c1,B1,d1,os1,rfl,HX.out⟩ }⟩)))
   ·obtain⟨A1,c1,B1,d1,os1,e13,k1⟩:=H.x5 (by simp[hi]);subst e13;have HX:=hid k1;have H2:=H.world (below_new w' (.cells #[.int .i64 t.st,.slice A1 t.ps.length c1,.slice B1 os1.length d1,.int .i64 cv,.slice none 0 0,.slice none 0 0] 72));clear k1;refine wpOp_hidden rfl fun K hK=>?_;go_wp2;refine OnlyN.mk (hK.out _ _ (e_8 (e_8 ⟨rfl,rfl,{ H2 with x6:=fun _=>⟨_,A1,c1,B1,d1,os1,_,rfl,HX.out.2.1,HX.out.2.2,HX.out.1,H.below,below_new _ _,Nat.le_refl _,Blk.new _ _ _⟩,h7:=fun h=>absurd (H2.o7 h) (by simp[hi]),o7:=fun _=>rfl }⟩)))
   ·obtain⟨WB,A1,c1,B1,d1,os1,p,e,k1⟩:=H.x6 (by simp[hi]);subst e;have HX:=hid k1;clear k1;refine wpOp_hidden rfl fun K hK=>?_;go_wp2;refine OnlyN.mk (hK.out _ _ (e_8 (e_8 ⟨rfl,rfl,{ H with x6:=fun _=>⟨WB,A1,c1,B1,d1,os1,p,rfl,HX.out⟩,h7:=fun _=>rfl,o7:=fun _=>(by simp[hi]) }⟩)))
  ·rintro listed act w' hr ⟨b0,b1,b2,b3,b4,b5,b6,b7,v12,v13,v14,v15,v16,v17,v18,v4,rfl,rfl,H⟩;have hn:=List.eq_nil_iff_forall_not_mem.1 hr;have r0:=hn 0;simp[mem_ready,Region.binds] at r0;subst r0;have r1:=hn 1;simp[mem_ready,Region.binds] at r1;subst r1;have r2:=hn 2;simp[mem_ready,Region.binds] at r2;subst r2;have r3:=hn 3;simp[mem_ready,Region.binds] at r3;subst r3;have r4:=hn 4;simp[mem_ready,Region.binds] at r4;subst r4;have r5:=hn 5;simp[mem_ready,Region.binds] at r5;subst r5;have r6:=hn 6;simp[mem_ready,Region.binds] at r6;subst r6;have r7:=hn 7;simp[mem_ready,Region.binds] at r7;subst r7;try dsimp only
   obtain⟨WB,A1,c1,B1,d1,os1,p,e18,k1,k2,k3,k4,k5,k6,k7⟩:=H.x6 rfl;obtain⟨_,_,_,_,_,e13,-⟩:=H.x1 rfl;obtain⟨_,_,_,_,_,e17,-⟩:=H.x5 rfl;have e4:=H.h7 rfl;rw[e18] at e4;subst e4;have HBV:=hid H.below;obtain⟨v3,rfl⟩:∃ v3:World,v3=w':=⟨_,rfl⟩
   have HNB:=hid (And.intro k1 (And.intro k2 k3));have HWB:=hid (And.intro k4 (And.intro k5 k6));have HBW:=hid k7;clear H hr hn e13 e17 e18 k1 k2 k3 k4 k5 k6 k7;obtain⟨N1,hN1⟩:∃ N1,N1=(redT t).ns.length - 1:=⟨_,rfl⟩
   have hlo:os1.length=(redT t).ns.length:=by rw[← HNB.out.2.1,List.length_map]
   have hN9:=HNB.out.1.le;have hN0:=HRD.out.2.1;have hcall:=twalk_any WB.heap.size p t.ps.length t.st.toNat t.st A1 c1 B1 d1 cv os1 WB rfl HNB.out.1 (by rw[HNB.out.2.1];exact HRD.out.1) (by have:=HPR.out.1;omega) HP1.out HPR.out.2.2.2 HCT.out
    t.ps.length [] (N1:Int) (.slice none 0 0) (.slice none 0 0) [] v3 ⟨HBW.out,OwnI.nil _ _ _,OwnR.nil _ _ _ _,fun x hx=>absurd hx (by simp),HWB.out.2.2⟩ HWB.out.2.1 (by simp) (by simp)
    ⟨Int.natCast_nonneg _,fun _=>by rw[HNB.out.2.1,Int.toNat_natCast];exact⟨by omega,by rw[hN1];exact HCN.out.root⟩⟩
   rw[HNB.out.2.1,show (([]:List Rh).map Rh.rw_ ++ rowsT (redT t).ns cv t.ps.length [] (N1:Int))=rowsOf t from by unfold rowsOf;rw[HCV.out,hN1];rfl] at hcall;rw[show (N1:Int)=(os1.length:Int) - 1 from by omega] at hcall;have HCALL:=hid hcall;have n2:=HBW.out.cell_ 2 (.slice B1 os1.length d1) rfl;have hN7:0 < os1.length:=by omega
   clear hcall hlo hN0 hN1;go_wp2_with (go_at_call 43;refine HCALL.out.mono ?_;rintro e w4 ⟨b,iv4,rv4,rs4,rfl,hw4,ht4,hf4,hm4⟩;refine Hid.out ?_);refine hid ?_;have HBB:Hid (Below w1.heap.size w1 w4):=hid (HWB.out.1.trans ((HWB.out.2.1.trans (WkW.below ⟨HBW.out,OwnI.nil _ _ _,OwnR.nil _ _ _ _,fun x hx=>absurd hx (by simp),HWB.out.2.2⟩ hm4)).mono HWB.out.1.size));have HWK:=hid hw4;have HQ4:=hid (HQ1.out.below HBB.out HQ1.out.lt);have HP4:=hid (HP1'.out.below HBB.out HP1'.out.lt);have HB4:=hid (HB1.out.trans (HBB.out.mono HB1.out.size));clear hw4 hm4 n2 HCALL hN9 hN7 HBV HBW HNB;cases b with
   | false=>
    have HE:Hid (tableP t=(TabL.zero,6)):=hid (by unfold tableP;rw[if_neg (by rw[HRR.out];decide),if_pos (hf4 rfl)]);clear ht4 hf4;have q1:=HQ4.out;have d0:=q1.cell_ 0 (.int .i64 0) rfl;have d1:=q1.cell_ 1 (.int .i64 0) rfl;have d2:=q1.cell_ 2 (.slice none 0 0) rfl;have d3:=q1.cell_ 3 (.slice none 0 0) rfl;have d4:=q1.cell_ 4 (.slice none 0 0) rfl;have f0:=q1.frozen 0;have f1:=q1.frozen 1;have f2:=q1.frozen 2;have f3:=q1.frozen 3;have f4:=q1.frozen 4;clear q1;go_wp2;have hq:Blk (((((w4.setCell ⟨w.heap.size+1,0,none⟩ (.int .i64 0)).setCell ⟨w.heap.size+1,1,none⟩ (.int .i64 0)).setCell ⟨w.heap.size+1,2,none⟩ (.slice none 0 0)).setCell ⟨w.heap.size+1,3,none⟩ (.slice none 0 0)).setCell ⟨w.heap.size+1,4,none⟩ (.slice none 0 0)) (w.heap.size+1) 26 #[.int .i64 0,.int .i64 0,.slice none 0 0,.slice none 0 0,.slice none 0 0]:=(((((HQ4.out.set_ 0 (.int .i64 0)).set_ 1 (.int .i64 0)).set_ 2 (.slice none 0 0)).set_ 3 (.slice none 0 0)).set_ 4 (.slice none 0 0))
    rw[HE.out];exact bodyPost_ret (results_ct Tryz.results22 _ _ (w.heap.size+1) 26 #[.int .i64 0,.int .i64 0,.slice none 0 0,.slice none 0 0,.slice none 0 0] (0,0) _ rfl hq Tryz.underlying26 rfl Tryz.sizeTable) rfl
     ⟨none,0,none,0,none,0,⟨0,0,[],[],[]⟩,rfl,tab_zero _,rfl,(((((HB4.out.setCell (p:=⟨w.heap.size+1,0,none⟩) (by simp) _).setCell (p:=⟨w.heap.size+1,1,none⟩) (by simp) _).setCell (p:=⟨w.heap.size+1,2,none⟩) (by simp) _).setCell (p:=⟨w.heap.size+1,3,none⟩) (by simp) _).setCell (p:=⟨w.heap.size+1,4,none⟩) (by simp) _)⟩
   | true=>
    have HT4:=hid (ht4 rfl);clear ht4 hf4;go_upto_region 6 with fail
    obtain⟨rA,rc,erv,-,-⟩:=HWK.out.rr.rws;subst erv;have HLD:Hid ((w4.cell? ⟨w.heap.size,0,none⟩=some (.int .i64 t.st)∧w4.cell? ⟨w.heap.size,1,none⟩=some (.slice A t.ps.length c)∧w4.cell? ⟨p,5,none⟩=some (.slice rA rs4.length rc))∧w.heap.size < w4.heap.size∧p < w4.heap.size):=
     hid ⟨⟨HP4.out.cell_ 0 _ rfl,HP4.out.cell_ 1 _ rfl,HWK.out.blk.cell_ 5 _ rfl⟩,HP4.out.lt,HWK.out.blk.lt⟩
    refine wp_region_J (by kernel_rfl) (fun listed act w'=>∃ b0 b1 b2 b3 b4 b5 b6 b7 b8 b9 b10 v30 v31 v32 v33 v34 v35 v36 v37 v38 v5,listed=#[b0,b1,b2,b3,b4,b5,b6,b7,b8,b9,b10]∧act=Act.mk #[.agg #[.int .i64 t.st,.slice A t.ps.length c,.slice D os.length d],.pointer (some ⟨w.heap.size,0,none⟩),.pointer (some ⟨w.heap.size+1,0,none⟩),.int .i64 0,.pointer (some ⟨p,0,none⟩),v5,undef,undef,.agg #[.int .i64 t.st,.slice A t.ps.length c,.slice D os.length d],.bool true,.bool false,undef,v12,v13,v14,v15,v16,v17,v18,.pointer (some ⟨p,0,none⟩),.pointer (some ⟨p,0,none⟩),.pointer (some ⟨p,0,none⟩),.pointer (some ⟨p,0,none⟩),.pointer (some ⟨p,2,none⟩),.slice B1 os1.length d1,.int .i64 ↑os1.length,.int .i64 (↑os1.length - 1),.bool true,.bool false,undef,v30,v31,v32,v33,v34,v35,v36,v37,v38,undef,undef,undef,undef,undef,undef,undef,undef,undef,undef,undef,undef,undef,undef,undef,undef,undef,undef,undef,undef,undef,undef,undef] []∧Tab6J w4 w.heap.size p t.st A t.ps.length c rA rs4.length rc b0 b1 b2 b3 b4 b5 b6 b7 b8 b9 b10 v30 v31 v32 v33 v34 v35 v36 v37 v38 v5 w') ?_ ?_ ?_
    ·exact (e_8 (e_8 (e_4 (e_1 ⟨rfl,rfl,(by constructor;(case hk=>exact (fun _ _ _=>rfl));(case wa=>exact (fun _=>rfl));all_goals simp)⟩))))
    ·rintro i listed act w' hi ⟨b0,b1,b2,b3,b4,b5,b6,b7,b8,b9,b10,v30,v31,v32,v33,v34,v35,v36,v37,v38,v5,rfl,rfl,H⟩;have hi16:i < 11:=by
      obtain⟨-,o,ho,-⟩:=mem_ready.1 hi;exact (Array.getElem?_eq_some_iff.1 ho).1
     obtain rfl | rfl | rfl | rfl | rfl | rfl | rfl | rfl | rfl | rfl | rfl:i=0∨i=1∨i=2∨i=3∨i=4∨i=5∨i=6∨i=7∨i=8∨i=9∨i=10:=by omega
     all_goals simp[mem_ready,Region.binds] at hi
     ·refine wpOp_hidden rfl fun K hK=>?_;go_wp2;refine OnlyN.mk (hK.out _ _ (e_8 (e_8 (e_4 (e_1 ⟨rfl,rfl,{ H with h0:=fun _=>rfl }⟩)))))
     ·have b10f:b10=false:=by
       cases hb:b10 with
       | false=>rfl
       | true=>
        have hb8:=(H.o10 hb).1;exact absurd ((H.o8 hb8).1) (by simp[hi])
      obtain rfl:=H.h0 (by simp[hi]);have cc:=(H.hk b10f ⟨w.heap.size,0,none⟩ HLD.out.2.1).trans HLD.out.1.1;clear b10f;refine wpOp_hidden rfl fun K hK=>?_;go_wp2;refine OnlyN.mk (hK.out _ _ (e_8 (e_8 (e_4 (e_1 ⟨rfl,rfl,{ H with h1:=fun _=>rfl,o8:=fun h=>⟨rfl,(H.o8 h).2.1,(H.o8 h).2.2⟩ }⟩)))))
     ·refine wpOp_hidden rfl fun K hK=>?_;go_wp2;refine OnlyN.mk (hK.out _ _ (e_8 (e_8 (e_4 (e_1 ⟨rfl,rfl,{ H with h2:=fun _=>rfl }⟩)))))
     ·have b10f:b10=false:=by
       cases hb:b10 with
       | false=>rfl
       | true=>
        have hb8:=(H.o10 hb).1;exact absurd ((H.o8 hb8).2.1) (by simp[hi])
      obtain rfl:=H.h2 (by simp[hi]);have cc:=(H.hk b10f ⟨w.heap.size,1,none⟩ HLD.out.2.1).trans HLD.out.1.2.1;clear b10f;refine wpOp_hidden rfl fun K hK=>?_;go_wp2;refine OnlyN.mk (hK.out _ _ (e_8 (e_8 (e_4 (e_1 ⟨rfl,rfl,{ H with h3:=fun _=>rfl,o8:=fun h=>⟨(H.o8 h).1,rfl,(H.o8 h).2.2⟩ }⟩)))))
     ·refine wpOp_hidden rfl fun K hK=>?_;go_wp2;refine OnlyN.mk (hK.out _ _ (e_8 (e_8 (e_4 (e_1 ⟨rfl,rfl,{ H with h4:=fun _=>rfl }⟩)))))
     ·obtain rfl:=H.h4 (by simp[hi]);refine wpOp_hidden rfl fun K hK=>?_;go_wp2;refine OnlyN.mk (hK.out _ _ (e_8 (e_8 (e_4 (e_1 ⟨rfl,rfl,{ H with h5:=fun _=>rfl }⟩)))))
     ·obtain rfl:=H.h5 (by simp[hi]);refine wpOp_hidden rfl fun K hK=>?_;go_wp2;refine OnlyN.mk (hK.out _ _ (e_8 (e_8 (e_4 (e_1 ⟨rfl,rfl,{ H with h6:=fun _=>rfl }⟩)))))
     ·have b10f:b10=false:=by
       cases hb:b10 with
       | false=>rfl
       | true=>
        have hb8:=(H.o10 hb).1;exact absurd ((H.o8 hb8).2.2) (by simp[hi])
      obtain rfl:=H.h6 (by simp[hi]);have cc:=(H.hk b10f ⟨p,5,none⟩ HLD.out.2.2).trans HLD.out.1.2.2;clear b10f;refine wpOp_hidden rfl fun K hK=>?_;go_wp2;refine OnlyN.mk (hK.out _ _ (e_8 (e_8 (e_4 (e_1 ⟨rfl,rfl,{ H with h7:=fun _=>rfl,o8:=fun h=>⟨(H.o8 h).1,(H.o8 h).2.1,rfl⟩ }⟩)))))
     ·obtain rfl:=H.h1 (by simp[hi]);obtain rfl:=H.h3 (by simp[hi]);obtain rfl:=H.h7 (by simp[hi]);refine wpOp_hidden rfl fun K hK=>?_;go_wp2;refine OnlyN.mk (hK.out _ _ (e_8 (e_8 (e_4 (e_1 ⟨rfl,rfl,{ H with h8:=fun _=>rfl,o8:=fun _=>(by simp[hi]),o10:=fun h=>⟨rfl,(H.o10 h).2⟩ }⟩)))))
     ·have hw:=H.wa (by simp[hi]);subst hw;have b10f:b10=false:=by
       cases hb:b10 with
       | false=>rfl
       | true=>exact absurd (H.o10 hb).2 (by simp[hi])
      have HBF:=hid b10f;clear b10f;refine wpOp_hidden rfl fun K hK=>?_;go_wp2;refine OnlyN.mk (hK.out _ _ (e_8 (e_8 (e_4 (e_1 ⟨rfl,rfl,{ H with h9:=fun _=>rfl,hk:=fun _ p hp=>World.cell?_alloc_lt w4.drew _ p hp,wa:=fun h=>(by cases h),wb:=fun _ _=>rfl,wd:=fun h=>absurd h (by rw[HBF.out];decide),o10:=fun h=>⟨(H.o10 h).1,rfl⟩ }⟩)))))
     ·obtain rfl:=H.h8 (by simp[hi]);obtain rfl:=H.h9 (by simp[hi]);have hw:=H.wb (by simp[hi]) (by simp[hi]);subst hw;have q1:Blk (w4.drew.alloc (.cells #[.int .i64 0,.int .i64 0,.slice none 0 0,.slice none 0 0,.slice none 0 0] 26)) w4.heap.size 26 #[.int .i64 0,.int .i64 0,.slice none 0 0,.slice none 0 0,.slice none 0 0]:=Blk.new _ _ _;have d0:=q1.cell_ 0 (.int .i64 0) rfl;have d1:=q1.cell_ 1 (.int .i64 0) rfl;have d2:=q1.cell_ 2 (.slice none 0 0) rfl;have d3:=q1.cell_ 3 (.slice none 0 0) rfl;have d4:=q1.cell_ 4 (.slice none 0 0) rfl;have f0:=q1.frozen 0;have f1:=q1.frozen 1;have f2:=q1.frozen 2;have f3:=q1.frozen 3;have f4:=q1.frozen 4;have HBN:=hid q1;clear q1;refine wpOp_hidden rfl fun K hK=>?_;go_wp2;refine OnlyN.mk (hK.out _ _ (e_8 (e_8 (e_4 (e_1 ⟨rfl,rfl,{ H with hk:=fun h=>(by cases h),wa:=fun h=>absurd h (by simp[hi]),wb:=fun _ h=>(by cases h),wd:=fun _=>⟨Blk.new w4 _ _,(below_new w4 _).drew⟩,o10:=fun _=>(by simp[hi]) }⟩)))))
    ·rintro listed act w' hr ⟨b0,b1,b2,b3,b4,b5,b6,b7,b8,b9,b10,v30,v31,v32,v33,v34,v35,v36,v37,v38,v5,rfl,rfl,H⟩;have hn:=List.eq_nil_iff_forall_not_mem.1 hr;have r0:=hn 0;simp[mem_ready,Region.binds] at r0;subst r0;have r1:=hn 1;simp[mem_ready,Region.binds] at r1;subst r1;have r2:=hn 2;simp[mem_ready,Region.binds] at r2;subst r2;have r3:=hn 3;simp[mem_ready,Region.binds] at r3;subst r3;have r4:=hn 4;simp[mem_ready,Region.binds] at r4;subst r4;have r5:=hn 5;simp[mem_ready,Region.binds] at r5;subst r5;have r6:=hn 6;simp[mem_ready,Region.binds] at r6;subst r6;have r7:=hn 7;simp[mem_ready,Region.binds] at r7;subst r7;have r8:=hn 8;simp[mem_ready,Region.binds] at r8;subst r8;have r9:=hn 9;simp[mem_ready,Region.binds] at r9;subst r9;have r10:=hn 10;simp[mem_ready,Region.binds] at r10;subst r10;try dsimp only
     obtain⟨hbt,hbw⟩:=H.wd rfl;obtain rfl:=H.h9 rfl;obtain⟨v6,rfl⟩:∃ v6:World,v6=w':=⟨_,rfl⟩
     have HBT:=hid hbt;have HBV6:=hid hbw;clear H hr hn hbt hbw;have HHD:Hid (Below WB.heap.size w4 v6):=hid (HBV6.out.mono (Nat.le_trans (Nat.le_trans HWB.out.2.2 (Nat.le_of_lt HWK.out.blk.lt)) (Nat.le_refl _)));have HTB0:Hid (TbW WB.heap.size w4.heap.size t.st A t.ps.length c (.slice none 0 0) [] rA rc rs4 v6):=hid ⟨HBT.out,OwnV.nil _ _ _ _,HWK.out.rr.ext HBV6.out,Nat.le_trans HWB.out.2.2 (Nat.le_of_lt HWK.out.blk.lt)⟩;have hwl:w1.heap.size≤WB.heap.size:=HWB.out.1.size;have HWL2:Hid (w.heap.size+1 < WB.heap.size):=hid (Nat.lt_of_lt_of_le HQ1.out.lt hwl);have HPC:Hid (∀ W,Below WB.heap.size v6 W→Blk W w.heap.size 31 #[.int .i64 t.st,.slice A t.ps.length c,.slice D os.length d]):=hid (fun W hW=>(HP4.out.below HBV6.out HP4.out.lt).below hW (Nat.lt_of_lt_of_le HP1'.out.lt hwl));have HBD:Hid (Below w.heap.size w v6):=hid (HB4.out.trans (HBV6.out.mono HB4.out.size));have HWL:Hid (w.heap.size≤WB.heap.size):=hid (Nat.le_trans HB1.out.size hwl);have HQD:Hid (∀ W,Below WB.heap.size v6 W→Blk W (w.heap.size+1) 26 #[.int .i64 0,.int .i64 0,.slice none 0 0,.slice none 0 0,.slice none 0 0]):=hid (fun W hW=>(HQ4.out.below HBV6.out HQ4.out.lt).below hW (Nat.lt_of_lt_of_le HQ1.out.lt hwl));have x1:=(HPC.out v6 (Below.refl _ _)).cell_ 1 (.slice A t.ps.length c) rfl;have hn25:t.ps.length≤25:=HPR.out.2.2.2;obtain⟨sn,hsn⟩:∃ sn:Nat,t.st=(sn:Int):=⟨t.st.toNat,by have:=HPR.out.1;omega⟩
     have HSN:Hid (t.st=(sn:Int)∧sn≤8):=hid ⟨hsn,by have:=HPR.out.2.1;omega⟩;clear hwl hsn HBT HBV6;go_wp2;clear x1;obtain⟨pT,hpT⟩:∃ pT,pT=w4.heap.size:=⟨_,rfl⟩
     rw[← hpT] at HTB0 ⊢;clear hpT;go_loopw [42] (fun iv wr=>∃ (k:Nat) (vv:Value) (vs:List Vh),k≤t.ps.length∧iv=.int .i64 k∧Hid (TbW WB.heap.size pT t.st A t.ps.length c vv vs rA rc rs4 wr)∧Hid (Below WB.heap.size v6 wr)∧Hid (vs.map Vh.zs=List.replicate k (allS sn)∧vs.length=k)) (fun iv _=>t.ps.length - (intOf iv).toNat)
     case atStart=>exact⟨0,.slice none 0 0,[],Nat.zero_le _,rfl,HTB0,hid (Below.refl _ _),hid ⟨rfl,rfl⟩⟩
     case round=>
      obtain⟨k,vv,vs,hk,rfl,HTB,HBR,HVS⟩:=hrel;obtain⟨wo,rfl⟩:∃ wo:World,wo=wr:=⟨_,rfl⟩
      by_cases hkl:k < t.ps.length
      ·have HK:=hid hkl;have hwk:wrap64 ((k:Int)+1)=(k:Int)+1:=by unfold wrap64;omega
       have HWK1:=hid hwk;have HPCr:=hid (HPC.out wo HBR.out);have x0:wo.cell? ⟨w.heap.size,0,none⟩=some (.int .i64 (sn:Int)):=by rw[← HSN.out.1];exact HPCr.out.cell_ 0 (.int .i64 t.st) rfl
       clear hk hwk;go_wp2;clear x0;go_loopw [6,46] (fun lv iv wi=>∃ s:Nat,s≤sn∧iv=.int .i64 s∧Hid (OwnIA wi wo.heap.size lv (allS s))∧Hid (Below wo.heap.size wo wi)) (fun _ iv _=>sn - (intOf iv).toNat)
       case atStart=>exact⟨0,Nat.zero_le _,rfl,hid (OwnI.nil _ _ _),hid (Below.refl _ _)⟩
       case round=>
        obtain⟨s,hs,rfl,HO,HBI⟩:=hrel;by_cases hsl:s < sn
        ·have HS:=hid hsl;have hws:wrap64 ((s:Int)+1)=(s:Int)+1:=by have:=HSN.out.2;unfold wrap64;omega
         have hown:=HO.out;have hln:(allS s).length < 1000000000000:=by rw[allS_len];have:=HSN.out.2;omega
         have hbs:=HBI.out.size;clear hs;go_wp2_with (at_builtin;refine wpList_pushI rfl _ _ _ rfl wo.heap.size 3 Tryz.underlying38 Tryz.infoInt _ _ rfl hown _ rfl hln hbs ?_);intro v' w7 ho' hb';have HO7:Hid (OwnIA w7 wo.heap.size v' (allS (s+1))):=hid (by rw[allS_succ];exact ho');have HB7:=hid (HBI.out.trans hb');clear ho' hb' hown hln hbs;go_wp2;go_roundw
         case rel=>exact⟨s+1,HS.out,(by first | rfl | (rw[hws];rfl)),HO7,HB7⟩
         case measure=>(try rw[hws]);exact meas_step HS.out
        ·obtain rfl:sn=s:=Nat.le_antisymm (Nat.le_of_not_lt hsl) hs;obtain⟨A2,c2,ev,hi2,hn2⟩:=HO.out.ints;subst ev;clear hs hsl hi2 hn2;have HT2:=hid (HTB.out.ext HBI.out);obtain⟨A3,c3,ev,hi3,hn3⟩:=HT2.out.vr.vrs;subst ev;clear hi3 hn3;have x3:=HT2.out.blk.cell_ 3 (.slice A3 vs.length c3) rfl;have hownv:=HT2.out.vr;have hI:OwnIA wr WB.heap.size (.slice A2 (allS sn).length c2) (allS sn):=OwnI.down HO.out (Nat.le_trans HTB.out.lo (Nat.le_of_lt HTB.out.blk.lt));have hlv:vs.length < 1000000000000:=by have:=HVS.out.2;have:=HK.out;have:=HPR.out.2.2.2;omega
         have hbv:WB.heap.size≤wr.heap.size:=Nat.le_trans HT2.out.lo (Nat.le_of_lt HT2.out.blk.lt);go_wp2_with (at_builtin;refine wpList_pushV rfl _ _ _ rfl WB.heap.size 38 3 (by decide) Tryz.underlying23 Tryz.infoInts15 _ _ rfl hownv A2 c2 (allS sn) hI rfl hlv hbv ?_);intro v' w7 ho' hk' hn';obtain⟨A7,c7,ev7,hi7,hn7⟩:=ho'.vrs;subst ev7;clear hi7 hn7;obtain⟨ht7,hb7⟩:=HT2.out.push ho' hk';have b7:=hk'.blk HT2.out.blk (own_blk_ne' HT2.out.vr.1 HT2.out.blk (by decide));have x7:=b7.cell_ 3 (.slice A3 vs.length c3) rfl;have f7:=b7.frozen 3;rw[show (vs ++ [(⟨A2,c2,allS sn⟩:Vh)]).length=vs.length+1 from by rw[List.length_append];rfl] at ht7 hb7;have HT7:=hid ht7;have HB7:=hid (HBR.out.trans ((HBI.out.mono (Nat.le_trans HTB.out.lo (Nat.le_of_lt HTB.out.blk.lt))).trans hb7));clear ht7 hb7 b7 ho' hk' hn' hownv hI hlv hbv x3;go_wp2;go_roundw
         case rel=>exact⟨k+1,_,vs ++ [⟨A2,c2,allS sn⟩],HK.out,(by first | rfl | (rw[HWK1.out];rfl)),HT7,HB7,hid ⟨by rw[List.map_append,HVS.out.1,List.replicate_succ'];rfl,by rw[List.length_append,HVS.out.2];rfl⟩⟩
         case measure=>(try rw[HWK1.out]);exact meas_step HK.out
      ·obtain rfl:k=t.ps.length:=Nat.le_antisymm hk (Nat.le_of_not_lt hkl);clear hk hkl;obtain⟨A3,c3,ev,hi3,hn3⟩:=HTB.out.vr.vrs;subst ev;clear hi3 hn3;have HE:Hid (tableP t=(⟨t.st,0,t.ps,List.replicate t.ps.length (allS sn),rowsOf t⟩,0)):=hid (by
        unfold tableP;rw[if_neg (by rw[HRR.out];decide),if_neg (by have:=HT4.out.2;omega)];unfold allS;rw[show t.st.toNat=sn from by have:=HSN.out.1;omega])
       have hbb:=HTB.out.blk;have e0:=hbb.cell_ 0 (.int .i64 t.st) rfl;have e1:=hbb.cell_ 1 (.int .i64 0) rfl;have e2:=hbb.cell_ 2 (.slice A t.ps.length c) rfl;have e3:=hbb.cell_ 3 (.slice A3 vs.length c3) rfl;have e4:=hbb.cell_ 4 (.slice rA rs4.length rc) rfl;have HQ7:=hid (HQD.out wo HBR.out);have q1:=HQ7.out;have d0:=q1.cell_ 0 (.int .i64 0) rfl;have d1:=q1.cell_ 1 (.int .i64 0) rfl;have d2:=q1.cell_ 2 (.slice none 0 0) rfl;have d3:=q1.cell_ 3 (.slice none 0 0) rfl;have d4:=q1.cell_ 4 (.slice none 0 0) rfl;have f0:=q1.frozen 0;have f1:=q1.frozen 1;have f2:=q1.frozen 2;have f3:=q1.frozen 3;have f4:=q1.frozen 4;clear q1 hbb;go_wp2;have hq:Blk (((((wo.setCell ⟨w.heap.size+1,0,none⟩ (.int .i64 t.st)).setCell ⟨w.heap.size+1,1,none⟩ (.int .i64 0)).setCell ⟨w.heap.size+1,2,none⟩ (.slice A t.ps.length c)).setCell ⟨w.heap.size+1,3,none⟩ (.slice A3 vs.length c3)).setCell ⟨w.heap.size+1,4,none⟩ (.slice rA rs4.length rc)) (w.heap.size+1) 26 #[.int .i64 t.st,.int .i64 0,.slice A t.ps.length c,.slice A3 vs.length c3,.slice rA rs4.length rc]:=(((((HQ7.out.set_ 0 (.int .i64 t.st)).set_ 1 (.int .i64 0)).set_ 2 (.slice A t.ps.length c)).set_ 3 (.slice A3 vs.length c3)).set_ 4 (.slice rA rs4.length rc))
       have hk:Kept (fun g=>g=w.heap.size+1) wo (((((wo.setCell ⟨w.heap.size+1,0,none⟩ (.int .i64 t.st)).setCell ⟨w.heap.size+1,1,none⟩ (.int .i64 0)).setCell ⟨w.heap.size+1,2,none⟩ (.slice A t.ps.length c)).setCell ⟨w.heap.size+1,3,none⟩ (.slice A3 vs.length c3)).setCell ⟨w.heap.size+1,4,none⟩ (.slice rA rs4.length rc)):=((((((Kept.refl (fun g=>g=w.heap.size+1) wo).setCell (p:=⟨w.heap.size+1,0,none⟩) (Or.inl rfl) _).setCell (p:=⟨w.heap.size+1,1,none⟩) (Or.inl rfl) _).setCell (p:=⟨w.heap.size+1,2,none⟩) (Or.inl rfl) _).setCell (p:=⟨w.heap.size+1,3,none⟩) (Or.inl rfl) _).setCell (p:=⟨w.heap.size+1,4,none⟩) (Or.inl rfl) _)
       have hov:=OwnV.kept HTB.out.vr hk (fun g g1 g2=>by subst g2;have:=(own_lt' HTB.out.vr.1 g1).2;have:=HWL2.out;omega) (fun x hx g g1 g2=>by subst g2;have:=(own_lt' (HTB.out.vr.2 x hx) g1).2;have:=HWL2.out;omega);have hor:=OwnR.kept HTB.out.rr hk (fun g g1 g2=>by subst g2;have:=(own_lt' HTB.out.rr.1 g1).2;have:=HWL2.out;omega) (fun x hx g g1 g2=>by subst g2;have:=(own_lt' (HTB.out.rr.2 x hx) g1).2;have:=HWL2.out;omega);have hbe:Below w.heap.size w (((((wo.setCell ⟨w.heap.size+1,0,none⟩ (.int .i64 t.st)).setCell ⟨w.heap.size+1,1,none⟩ (.int .i64 0)).setCell ⟨w.heap.size+1,2,none⟩ (.slice A t.ps.length c)).setCell ⟨w.heap.size+1,3,none⟩ (.slice A3 vs.length c3)).setCell ⟨w.heap.size+1,4,none⟩ (.slice rA rs4.length rc)):=((((((HBD.out.trans (HBR.out.mono (Nat.le_of_lt (Nat.lt_of_succ_lt HWL2.out)))).setCell (p:=⟨w.heap.size+1,0,none⟩) (by simp) _).setCell (p:=⟨w.heap.size+1,1,none⟩) (by simp) _).setCell (p:=⟨w.heap.size+1,2,none⟩) (by simp) _).setCell (p:=⟨w.heap.size+1,3,none⟩) (by simp) _).setCell (p:=⟨w.heap.size+1,4,none⟩) (by simp) _)
       obtain⟨A5,c5,e5,hv5,-⟩:=hov.vrs;obtain⟨A6,c6,e6,hr6,-⟩:=hor.rws;injection e5 with e5 _ e5'
       injection e6 with e6 _ e6'
       subst e5 e6 e5' e6';rw[HE.out];exact bodyPost_ret (results_ct Tryz.results22 _ _ (w.heap.size+1) 26 #[.int .i64 t.st,.int .i64 0,.slice A t.ps.length c,.slice A3 vs.length c3,.slice rA rs4.length rc] (0,0) _ rfl hq Tryz.underlying26 rfl Tryz.sizeTable) rfl
        ⟨A,c,A3,c3,rA,rc,⟨t.st,0,t.ps,vs,rs4⟩,rfl,⟨HPT.out.ext hbe,hv5,hr6⟩,by show TabL.mk t.st 0 t.ps (vs.map Vh.zs) (rs4.map Rh.rw_)=_;rw[HVS.out.1,HT4.out.1],hbe⟩
end Go.Proofs.YtlegfdllipkggaaGreatDoor
namespace Go.Proofs.YtlegfdllipkggaaGreatDoor
open Lib(hid)
open Go.RowKit
set_option maxRecDepth 100000
set_option linter.unusedVariables false
set_option linter.unusedSimpArgs false

theorem Tryz.sizePoint:(Tryz.prog.info? 56).map (·.size)=some 2:=by kernel_rfl
def matL:List Int:=[1,0,0,1,0,-1,1,0,-1,0,0,-1,0,1,-1,0,-1,0,0,1,0,-1,-1,0,1,0,0,-1,0,1,1,0]
def GMat (w:World):Prop:=0 < w.heap.size∧∀ i,i < 32→w.cell? ⟨0,i,none⟩=some (.int .i64 (matL.getD i 0))
theorem GMat.ext {w w':World}(h:GMat w)(hb:Below w.heap.size w w'):GMat w':=⟨Nat.lt_of_lt_of_le h.1 hb.size,fun i hi=>(hb.cell (p:=⟨0,i,none⟩) h.1).trans (h.2 i hi)⟩
def symJ (k:Int):Nat:=(k % 8).toNat
theorem symJ_lt (k:Int):symJ k < 8:=by unfold symJ;omega
def symP (k:Int)(p:Int × Int):Int × Int:=(matL.getD (symJ k*4) 0*p.1+matL.getD (symJ k*4+1) 0*p.2,matL.getD (symJ k*4+2) 0*p.1+matL.getD (symJ k*4+3) 0*p.2)
theorem and_seven (k:Int):bits .and .i64 k 7=((symJ k:Nat):Int):=by
 show IntKind.i64.wrap ((BitVec.ofInt 64 k &&& BitVec.ofInt 64 7).toNat:Int)=_;have h7:(BitVec.ofInt 64 (7:Int)).toNat=2 ^ 3 - 1:=by decide
 rw[BitVec.toNat_and,h7,Nat.and_two_pow_sub_one_eq_mod,BitVec.toNat_ofInt];have hj:=symJ_lt k;have e:(k % (((2:Nat) ^ 64:Nat):Int)).toNat % 2 ^ 3=symJ k:=by
  unfold symJ;omega
 rw[e];exact IntWalk.i64_in _ (by omega)
theorem mat_cases {j:Nat}(h:j < 32):matL.getD j 0=0∨matL.getD j 0=1∨matL.getD j 0 = -1:=by
 have:∀ j:Fin 32,matL.getD j.1 0=0∨matL.getD j.1 0=1∨matL.getD j.1 0 = -1:=by decide
 exact this ⟨j,h⟩
theorem mul_in {a x:Int}(h:a=0∨a=1∨a = -1)(hx:-4611686018427387904 < x∧x < 4611686018427387904):-4611686018427387904 < a*x∧a*x < 4611686018427387904:=by
 rcases h with h | h | h <;> subst h <;> omega
set_option maxHeartbeats 4000000 in
theorem apply_any (k x y:Int)(w:World)(hg:GMat w)(hx:-4611686018427387904 < x∧x < 4611686018427387904)(hy:-4611686018427387904 < y∧y < 4611686018427387904) :
  Calls Tryz.prog 88 #[.int .i64 k,.agg #[.int .i64 x,.int .i64 y]] w fun e w'=>e=.returned (.agg #[.int .i64 (symP k (x,y)).1,.int .i64 (symP k (x,y)).2])∧Below w.heap.size w w':=by
 have hj:=symJ_lt k;obtain⟨j,hje⟩:∃ j,j=symJ k:=⟨_,rfl⟩
 have hand:=and_seven k;have hsp:symP k (x,y)=(matL.getD (j*4) 0*x+matL.getD (j*4+1) 0*y,matL.getD (j*4+2) 0*x+matL.getD (j*4+3) 0*y):=by rw[hje];rfl
 rw[← hje] at hj hand;rw[hsp];have g0:=hg.2 (j*4) (by omega);have g1:=hg.2 (j*4+1) (by omega);have g2:=hg.2 (j*4+2) (by omega);have g3:=hg.2 (j*4+3) (by omega);have m0:=mat_cases (j:=j*4) (by omega);have m1:=mat_cases (j:=j*4+1) (by omega);have m2:=mat_cases (j:=j*4+2) (by omega);have m3:=mat_cases (j:=j*4+3) (by omega);generalize matL.getD (j*4) 0=a at *;generalize matL.getD (j*4+1) 0=b at *;generalize matL.getD (j*4+2) 0=c at *;generalize matL.getD (j*4+3) 0=d at *;have i0:=mul_in m0 hx;have i1:=mul_in m1 hy;have i2:=mul_in m2 hx;have i3:=mul_in m3 hy;have w0':wrap64 (a*x)=a*x:=by generalize a*x=t at *;unfold wrap64;omega
 have w1':wrap64 (b*y)=b*y:=by generalize b*y=t at *;unfold wrap64;omega
 have w2':wrap64 (c*x)=c*x:=by generalize c*x=t at *;unfold wrap64;omega
 have w3':wrap64 (d*y)=d*y:=by generalize d*y=t at *;unfold wrap64;omega
 have w4':wrap64 (a*x+b*y)=a*x+b*y:=by generalize a*x=t at *;generalize b*y=u at *;unfold wrap64;omega
 have w5':wrap64 (c*x+d*y)=c*x+d*y:=by generalize c*x=t at *;generalize d*y=u at *;unfold wrap64;omega
 obtain⟨v1,hv1⟩:∃ v1,v1=w.alloc (.cells #[.int .i64 x,.int .i64 y] 56):=⟨_,rfl⟩
 obtain⟨v2,hv2⟩:∃ v2,v2=v1.alloc (.cells #[.int .i64 0,.int .i64 0] 56):=⟨_,rfl⟩
 have b1:Below w.heap.size w v1:=by rw[hv1];exact below_new _ _
 have b2:Below v1.heap.size v1 v2:=by rw[hv2];exact below_new _ _
 have b12:Below w.heap.size w v2:=b1.trans (b2.mono b1.size);have z1:v1.heap.size=w.heap.size+1:=by rw[hv1];simp
 have p1:Blk v2 w.heap.size 56 #[.int .i64 x,.int .i64 y]:=by
  have:Blk v1 w.heap.size 56 #[.int .i64 x,.int .i64 y]:=by rw[hv1];exact Blk.new _ _ _
  exact this.below b2 this.lt
 have p2:Blk v2 (w.heap.size+1) 56 #[.int .i64 0,.int .i64 0]:=by rw[← z1,hv2];exact Blk.new _ _ _
 rw[hv1] at hv2;have h0:=(b12.cell (p:=⟨0,j*4,none⟩) hg.1).trans g0;have h1:=(b12.cell (p:=⟨0,j*4+1,none⟩) hg.1).trans g1;have h2:=(b12.cell (p:=⟨0,j*4+2,none⟩) hg.1).trans g2;have h3:=(b12.cell (p:=⟨0,j*4+3,none⟩) hg.1).trans g3;have HV:=hid hv2;have HB:=hid b12;have HP1:=hid p1;have HP2:=hid p2;clear hv1 hv2 b1 b2 b12 z1 p1 p2 g0 g1 g2 g3 m0 m1 m2 m3 i0 i1 i2 i3 hx hy hje hsp hg;go_enter Tryz.func88,Tryz.ntmps88;go_upto_region 1 with fail
 rw[← HV.out];go_upto_region 2 with fail
 obtain⟨v3,hv3⟩:∃ v3,v3=v2.alloc (.cells #[.int .i64 a,.int .i64 b,.int .i64 c,.int .i64 d] 127):=⟨_,rfl⟩
 have b3:Below v2.heap.size v2 v3:=by rw[hv3];exact below_new _ _
 have p3:Blk v3 v2.heap.size 127 #[.int .i64 a,.int .i64 b,.int .i64 c,.int .i64 d]:=by rw[hv3];exact Blk.new _ _ _
 have q1:=HP1.out.below b3 HP1.out.lt;have q2:=HP2.out.below b3 HP2.out.lt;have x0:=p3.cell_ 0 (.int .i64 a) rfl;have x1:=p3.cell_ 1 (.int .i64 b) rfl;have x2:=p3.cell_ 2 (.int .i64 c) rfl;have x3:=p3.cell_ 3 (.int .i64 d) rfl;have y0:=q1.cell_ 0 (.int .i64 x) rfl;have y1:=q1.cell_ 1 (.int .i64 y) rfl;have r0:=q2.cell_ 0 (.int .i64 0) rfl;have r1:=q2.cell_ 1 (.int .i64 0) rfl;have f0:=q2.frozen 0;have f1:=q2.frozen 1;have HQ2:=hid q2;have HB3:Hid (Below w.heap.size w v3):=hid (HB.out.trans (b3.mono HB.out.size));obtain⟨g3,hg3⟩:∃ g3,g3=v2.heap.size:=⟨_,rfl⟩
 rw[← hv3,← hg3];rw[← hg3] at x0 x1 x2 x3;clear hv3 b3 p3 q1 q2 h0 h1 h2 h3 hg3;go_wp2;have hq:Blk ((v3.setCell ⟨w.heap.size+1,0,none⟩ (.int .i64 (a*x+b*y))).setCell ⟨w.heap.size+1,1,none⟩ (.int .i64 (c*x+d*y))) (w.heap.size+1) 56 #[.int .i64 (a*x+b*y),.int .i64 (c*x+d*y)]:=(HQ2.out.set_ 0 (.int .i64 (a*x+b*y))).set_ 1 (.int .i64 (c*x+d*y));exact bodyPost_ret (results_cell_row Tryz.results88 _ _ (w.heap.size+1) 56 #[.int .i64 (a*x+b*y),.int .i64 (c*x+d*y)] (0,0) _ rfl hq Tryz.underlying56 rfl Tryz.sizePoint) rfl
  ⟨rfl,(HB3.out.setCell (p:=⟨w.heap.size+1,0,none⟩) (Nat.le_succ _) _).setCell (p:=⟨w.heap.size+1,1,none⟩) (Nat.le_succ _) _⟩
end Go.Proofs.YtlegfdllipkggaaGreatDoor
