/-
  texts AwkM15 Awake15 TvB Few11 HoodN: parts of the proof; conditions stand with each theorem.
-/
import Derived.Test.YtlegfdllipkggaaGreatDoorWG18
import Derived.Test.YtlegfdllipkggaaGreatDoorWG5
import Derived.Test.YtlegfdllipkggaaGreatDoorWDecide
import Derived.Test.YtlegfdllipkggaaGreatDoorWG4
import Derived.Test.YtlegfdllipkggaaGreatDoorWG6
namespace Go.Proofs.YtlegfdllipkggaaGreatDoor
open Go.RowKit Go.Maps
set_option maxRecDepth 100000
set_option linter.unusedVariables false
set_option linter.unusedSimpArgs false
theorem Blk.ext {w w':World}{g:Nat}{t:TypeId}{cs:Array Value}(h:Blk w g t cs)(hb:Below w.heap.size w w'):Blk w' g t cs:=h.below hb h.lt
theorem size_new15 (w:World)(o:Obj):(w.alloc o).heap.size=w.heap.size+1:=by simp
theorem lit3 (w:World)(base:Nat)(hb:base≤w.heap.size)(a b c:Int):OwnIA (w.alloc (.cells #[.int .i64 a,.int .i64 b,.int .i64 c] 3)) base (.slice (some ⟨w.heap.size,0,none⟩) 3 3) [a,b,c]:=
 World.ownsRow_lit (base:=base) (e:=3) (size:=1) w #[.int .i64 a,.int .i64 b,.int .i64 c] 3 hb (by decide) rfl
theorem lit1 (w:World)(base:Nat)(hb:base≤w.heap.size)(a:Int):OwnIA (w.alloc (.cells #[.int .i64 a] 3)) base (.slice (some ⟨w.heap.size,0,none⟩) 1 1) [a]:=
 World.ownsRow_lit (base:=base) (e:=3) (size:=1) w #[.int .i64 a] 1 hb (by decide) rfl
structure ExV (w:World)(p:Nat)(A:Option Addr)(c:Nat)(R:Option Addr)(e:Nat):Prop where
 blk:Blk w p 26 #[.int .i64 2,.int .i64 0,.slice A 3 c,.slice none 0 0,.slice R 2 e]
 tb:∃ t,TabR w A none R t∧t.tab=exT
structure RdZ (w:World)(b o:Nat)(zA:Option Addr)(zc:Nat):Prop where
 lt:b < w.heap.size
 c0:w.cell? ⟨b,o,none⟩=some (.slice zA 3 zc)
 c1:w.cell? ⟨b,o+1,none⟩=some (.int .i64 0)
 zs:Ints w zA [-1,-2,-3]
section
variable {w w' : World} {p c e : Nat} {A R : Option Addr}
theorem RdZ.ext {b o:Nat}{zA:Option Addr}{zc:Nat}(h:RdZ w b o zA zc)(hb:Below w.heap.size w w'):RdZ w' b o zA zc:=
 ⟨Nat.lt_of_lt_of_le h.lt hb.size,(hb.cell (p:=⟨b,o,none⟩) h.lt).trans h.c0,(hb.cell (p:=⟨b,o+1,none⟩) h.lt).trans h.c1,h.zs.ext hb⟩
theorem ExV.ext (h:ExV w p A c R e)(hb:Below w.heap.size w w'):ExV w' p A c R e:=by
 obtain⟨h1,t,h2,h3⟩:=h;exact⟨h1.ext hb,t,h2.ext hb,h3⟩
theorem ExV.cells (h:ExV w p A c R e):w.cell? ⟨p,0,none⟩=some (.int .i64 2)∧w.cell? ⟨p,1,none⟩=some (.int .i64 0)∧w.cell? ⟨p,2,none⟩=some (.slice A 3 c)∧w.cell? ⟨p,3,none⟩=some (.slice none 0 0)∧w.cell? ⟨p,4,none⟩=some (.slice R 2 e):=
 ⟨h.blk.cell_ 0 _ rfl,h.blk.cell_ 1 _ rfl,h.blk.cell_ 2 _ rfl,h.blk.cell_ 3 _ rfl,h.blk.cell_ 4 _ rfl⟩
theorem exV_val (h:ExV w p A c R e):∃ t,TabR w A none R t∧t.tab=exT∧t.sym=0∧tabV A c none 0 R e t=.agg #[.int .i64 2,.int .i64 0,.slice A 3 c,.slice none 0 0,.slice R 2 e]:=by
 obtain⟨-,t,h2,h3⟩:=h;refine⟨t,h2,h3,congrArg TabL.sym h3,?_⟩;have e1:t.st=2:=congrArg TabL.st h3;have e2:t.sym=0:=congrArg TabL.sym h3;have e3:t.hood=lineL:=congrArg TabL.hood h3;have e4:t.vs.length=0:=by have:=congrArg (fun x=>x.vars.length) h3;simpa [TabH.tab,exT] using this
 have e5:t.rs.length=2:=by have:=congrArg (fun x=>x.rows.length) h3;simpa [TabH.tab,exT] using this
 unfold tabV;rw[e1,e2,e3,e4,e5];rfl
theorem ex_tree_any (h:ExV w p A c R e)(hG:GMat w)(hT:TabB w.heap.size w):Calls Tryz.prog 8 #[.agg #[.int .i64 2,.int .i64 0,.slice A 3 c,.slice none 0 0,.slice R 2 e]] w (RetAE (⟨2,lineL,exN⟩,0) w):=by
 obtain⟨t,h2,h3,h4,h5⟩:=exV_val h;have:=tree15_any A c none 0 R e t w h2 hG hT (.inl (by rw[h4];decide));rw[h3,ex_tree,h5] at this;exact this
theorem ex_row_any (h:ExV w p A c R e)(hG:GMat w)(hT:TabB w.heap.size w):Calls Tryz.prog 10 #[.agg #[.int .i64 2,.int .i64 0,.slice A 3 c,.slice none 0 0,.slice R 2 e],.int .i64 0] w (RetAE (⟨2,lineL,exR⟩,0) w):=by
 obtain⟨t,h2,h3,h4,h5⟩:=exV_val h;have:=row15_any A c none 0 R e t 0 w h2 hG hT (.inl (by rw[h4];decide));rw[h3,ex_row,h5] at this;exact this
theorem ex_dead_any (h:ExV w p A c R e)(hG:GMat w):Calls Tryz.prog 16 #[.agg #[.int .i64 2,.int .i64 0,.slice A 3 c,.slice none 0 0,.slice R 2 e]] w fun en w'=>∃ lA lc,en=.returned (.tuple #[.slice lA 1 lc,.int .i64 0])∧Ints w' lA [1]∧Below w.heap.size w w':=by
 obtain⟨t,h2,h3,h4,h5⟩:=exV_val h;have:=dead_any A c none 0 R e t w h2 hG (.inl (by rw[h4];decide));rw[h3,ex_dead,h5] at this;refine this.mono ?_;rintro en w' ⟨v,e1,e2,e3⟩;obtain⟨lA,lc,hv,hi,-⟩:=OwnI.ints e2;subst hv;exact⟨lA,lc,e1,hi,e3⟩
theorem table_tv {v:Value}{t:PT}(h:TreeAt w v t)(hT:TabB w.heap.size w):Calls Tryz.prog 22 #[v] w (RetTab (tableP t) w):=by
 obtain⟨A,c,B,d,os,rfl,h1,h2,h3⟩:=h;exact table_any A c B d os t w h1 h2 h3 hT
theorem read_tab_any {v:Value}(h:TreeAt w v readT)(hT:TabB w.heap.size w):Calls Tryz.prog 22 #[v] w fun en w'=>∃ hA hc vA vc rA rc,en=.returned (.tuple #[.agg #[.int .i64 2,.int .i64 0,.slice hA 3 hc,.slice vA 3 vc,.slice rA 0 rc],.int .i64 0])∧Below w.heap.size w w':=by
 refine (table_tv h hT).mono ?_;rintro en w' ⟨hA,hc,vA,vc,rA,rc,t,e1,e2,e3,e4⟩;rw[read_tab] at e1 e3;refine⟨hA,hc,vA,vc,rA,rc,?_,e4⟩;have g1:t.st=2:=congrArg TabL.st e3;have g2:t.sym=0:=congrArg TabL.sym e3;have g3:t.hood=lineL:=congrArg TabL.hood e3;have g4:t.vs.length=3:=by have:=congrArg (fun x=>x.vars.length) e3;simpa [TabH.tab] using this
 have g5:t.rs.length=0:=by have:=congrArg (fun x=>x.rows.length) e3;simpa [TabH.tab] using this
 rw[e1];unfold tabV;rw[g1,g2,g3,g4,g5];rfl
theorem zero_tab_any {v:Value}(h:TreeAt w v zeroT)(hT:TabB w.heap.size w):Calls Tryz.prog 22 #[v] w fun en w'=>∃ hA hc vA vc rc b o zA zc,en=.returned (.tuple #[.agg #[.int .i64 2,.int .i64 0,.slice hA 3 hc,.slice vA 3 vc,.slice (some ⟨b,o,none⟩) 1 rc],.int .i64 0])∧RdZ w' b o zA zc∧Below w.heap.size w w':=by
 refine (table_tv h hT).mono ?_;rintro en w' ⟨hA,hc,vA,vc,rA,rc,t,e1,e2,e3,e4⟩;rw[zero_tab] at e1 e3;have g1:t.st=2:=congrArg TabL.st e3;have g2:t.sym=0:=congrArg TabL.sym e3;have g3:t.hood=lineL:=congrArg TabL.hood e3;have g4:t.vs.length=3:=by have:=congrArg (fun x=>x.vars.length) e3;simpa [TabH.tab] using this
 have g5:t.rs.length=1:=by have:=congrArg (fun x=>x.rows.length) e3;simpa [TabH.tab] using this
 have g6:t.rs.map Rh.rw_=[([-1,-2,-3],0)]:=congrArg TabL.rows e3;obtain⟨b,o,hb,hlt,k0,k1,k2⟩:=e2.rows.at_ (k:=0) (by omega);have g7:t.rs[0].rw_=([-1,-2,-3],0):=by
  have:(t.rs.map Rh.rw_)[0]?=some ([-1,-2,-3],0):=by rw[g6];rfl
  rw[List.getElem?_map,List.getElem?_eq_getElem (by omega)] at this;injection this
 have g8:t.rs[0].zs=[-1,-2,-3]:=congrArg Prod.fst g7;have g9:t.rs[0].out=0:=congrArg Prod.snd g7;rw[g8] at k0 k2;rw[g9] at k1;rw[Nat.zero_mul,Nat.add_zero] at k0 k1;refine⟨hA,hc,vA,vc,rc,b,o,_,_,?_,⟨hlt,k0,k1,k2⟩,e4⟩;rw[e1,hb];unfold tabV;rw[g1,g2,g3,g4,g5];rfl
theorem ints12_b (A:Option Addr)(c:Nat)(l:List Int)(B:Option Addr)(d:Nat)(m:List Int)(w:World)(ha:Ints w A l)(hb:Ints w B m) :
  Calls Tryz.prog 18 #[.slice A l.length c,.slice B m.length d] w fun e w'=>e=.returned (.bool (decide (l=m)))∧Below w.heap.size w w':=by
 refine (ints12_any A c l B d m w ha hb).mono ?_;rintro e w' ⟨h1,k,rfl⟩;exact⟨h1,below_drewN (Below.refl _ _) _⟩
end
theorem lit_ex (w wz:World)(A:Option Addr)(c:Nat)(hp:Pts w A lineL)(hz:wz=(((w.alloc (.cells #[.int .i64 1,.int .i64 0,.int .i64 0] 3)).alloc (.cells #[.int .i64 1,.int .i64 0,.int .i64 0] 3)).alloc (.cells #[.slice (some ⟨w.heap.size,0,none⟩) 3 3,.int .i64 1,.slice (some ⟨w.heap.size+1,0,none⟩) 3 3,.int .i64 0] 43)).alloc (.cells #[.int .i64 2,.int .i64 0,.slice A 3 c,.slice none 0 0,.slice (some ⟨w.heap.size+1+1,0,none⟩) 2 2] 26)) :
  Below w.heap.size w wz∧ExV wz (w.heap.size+1+1+1) A c (some ⟨w.heap.size+1+1,0,none⟩) 2:=by
 obtain⟨w1,h1⟩:∃ w1,w1=w.alloc (.cells #[.int .i64 1,.int .i64 0,.int .i64 0] 3):=⟨_,rfl⟩
 obtain⟨w2,h2⟩:∃ w2,w2=w1.alloc (.cells #[.int .i64 1,.int .i64 0,.int .i64 0] 3):=⟨_,rfl⟩
 obtain⟨w3,h3⟩:∃ w3,w3=w2.alloc (.cells #[.slice (some ⟨w.heap.size,0,none⟩) 3 3,.int .i64 1,.slice (some ⟨w.heap.size+1,0,none⟩) 3 3,.int .i64 0] 43):=⟨_,rfl⟩
 rw[← h1,← h2,← h3] at hz;have z1:w1.heap.size=w.heap.size+1:=by rw[h1];exact size_new15 _ _
 have z2:w2.heap.size=w.heap.size+1+1:=by rw[h2,size_new15,z1]
 have z3:w3.heap.size=w.heap.size+1+1+1:=by rw[h3,size_new15,z2]
 have b1:Below w.heap.size w w1:=by rw[h1];exact below_new _ _
 have b2:Below w1.heap.size w1 w2:=by rw[h2];exact below_new _ _
 have b3:Below w2.heap.size w2 w3:=by rw[h3];exact below_new _ _
 have b4:Below w3.heap.size w3 wz:=by rw[hz];exact below_new _ _
 have b34:=b3.trans (b4.mono b3.size);have b24:=b2.trans (b34.mono b2.size);have b14:=b1.trans (b24.mono b1.size);have i1:OwnIA w1 w.heap.size (.slice (some ⟨w.heap.size,0,none⟩) 3 3) [1,0,0]:=by rw[h1];exact lit3 w _ (Nat.le_refl _) 1 0 0
 have i2:OwnIA w2 w.heap.size (.slice (some ⟨w.heap.size+1,0,none⟩) 3 3) [1,0,0]:=by
  have:OwnIA w2 w.heap.size (.slice (some ⟨w1.heap.size,0,none⟩) 3 3) [1,0,0]:=by rw[h2];exact lit3 w1 _ b1.size 1 0 0
  rw[z1] at this;exact this
 have i3:w3.ownsRow w.heap.size 43 2 (.slice (some ⟨w.heap.size+1+1,0,none⟩) 2 2) 2 [.slice (some ⟨w.heap.size,0,none⟩) 3 3,.int .i64 1,.slice (some ⟨w.heap.size+1,0,none⟩) 3 3,.int .i64 0]:=by
  have:w3.ownsRow w.heap.size 43 2 (.slice (some ⟨w2.heap.size,0,none⟩) 2 2) 2 [.slice (some ⟨w.heap.size,0,none⟩) 3 3,.int .i64 1,.slice (some ⟨w.heap.size+1,0,none⟩) 3 3,.int .i64 0]:=by
   rw[h3];exact World.ownsRow_lit (base:=w.heap.size) (e:=43) (size:=2) w2 #[.slice (some ⟨w.heap.size,0,none⟩) 3 3,.int .i64 1,.slice (some ⟨w.heap.size+1,0,none⟩) 3 3,.int .i64 0] 2 (by rw[z2];omega) (by decide) rfl
  rw[z2] at this;exact this
 obtain⟨X9,c9,e9,h9,-⟩:=own_form i3;injection e9 with e9 _ _
 subst e9;have i1':=(OwnI.reads i1).ext b24;have i2':=(OwnI.reads i2).ext b34;refine⟨b14,?_,⟨2,0,lineL,[],[⟨some ⟨w.heap.size,0,none⟩,3,[1,0,0],1⟩,⟨some ⟨w.heap.size+1,0,none⟩,3,[1,0,0],0⟩]⟩,⟨hp.ext b14,Vrs.nil,⟨(Reads.below h9.1 b4).more b4.size,h9.2,?_⟩⟩,rfl⟩
 ·rw[hz,← z3];exact Blk.new _ _ _
 ·intro x hx;rcases List.mem_cons.1 hx with rfl | hx
  ·exact i1'
  ·rw[List.mem_singleton.1 hx];exact i2'
end Go.Proofs.YtlegfdllipkggaaGreatDoor
namespace Go.Proofs.YtlegfdllipkggaaGreatDoor
open Lib(hid)
open Go.RowKit Go.Maps
set_option maxRecDepth 100000
set_option linter.unusedVariables false
set_option linter.unusedSimpArgs false
theorem ex_v1:valueP ⟨2,lineL,exN⟩ [1,0,0]=1:=by unfold valueP;rw[ex_e1];rfl
theorem ex_v2:valueP ⟨2,lineL,exN⟩ [0,1,0]=1:=by unfold valueP;rw[ex_e2];rfl
theorem ex_v3:valueP ⟨2,lineL,exN⟩ [0,0,0]=0:=by unfold valueP;rw[ex_e3];rfl
theorem ex_v4:valueP ⟨2,lineL,exR⟩ [1,0,0]=1:=by unfold valueP;rw[ex_e4];rfl
theorem ex_v5:valueP ⟨2,lineL,exR⟩ [0,1,0]=0:=by unfold valueP;rw[ex_e5];rfl
set_option maxHeartbeats 16000000 in
theorem awake_any (w:World)(ht:TabB w.heap.size w)(hG:GMat w):Calls Tryz.prog 7 #[] w fun e w'=>e=.returned (.bool true)∧Below w.heap.size w w':=by
 have HTAB:=hid ht;have HGM:=hid hG;have HB:Hid (Below w.heap.size w w):=hid (Below.refl _ _);have HL1:=hid (line_any w);clear ht hG;go_enter Tryz.func7,Tryz.ntmps7;go_wp2_with (go_at_call 19;refine HL1.out.mono ?_;rintro e x0 ⟨A0,c0,rfl,hp0,hb⟩;refine Hid.out ?_);refine hid ?_;clear HL1;replace HB:=hid (HB.out.trans (hb.mono HB.out.size));obtain⟨y0,hw⟩:∃ W,W=(((x0.alloc (.cells #[.int .i64 1,.int .i64 0,.int .i64 0] 3)).alloc (.cells #[.int .i64 1,.int .i64 0,.int .i64 0] 3)).alloc (.cells #[.slice (some ⟨x0.heap.size,0,none⟩) 3 3,.int .i64 1,.slice (some ⟨x0.heap.size+1,0,none⟩) 3 3,.int .i64 0] 43)).alloc (.cells #[.int .i64 2,.int .i64 0,.slice A0 3 c0,.slice none 0 0,.slice (some ⟨x0.heap.size+1+1,0,none⟩) 2 2] 26):=⟨_,rfl⟩
 obtain⟨pX,hpX⟩:∃ p,p=x0.heap.size+1+1+1:=⟨_,rfl⟩
 obtain⟨RX,hRX⟩:∃ b:Option Addr,b=some ⟨x0.heap.size+1+1,0,none⟩:=⟨_,rfl⟩
 obtain⟨hb1,hX⟩:=lit_ex x0 y0 A0 c0 hp0 hw;rw[← hRX,← hpX] at hX;rw[← hRX] at hw;clear hb hp0;replace HB:=hid (HB.out.trans (hb1.mono HB.out.size));have HX:=hid hX;clear hb1 hX;have HW:=hid (And.intro hw (And.intro hpX hRX));clear hw hpX hRX;go_upto_region 2 with fail
 rw[← HW.out.2.1,← HW.out.2.2,← HW.out.1];clear HW;obtain⟨cX0,cX1,cX2,cX3,cX4⟩:=HX.out.cells;have hcall:=ex_tree_any HX.out (HGM.out.ext HB.out) ((HTAB.out.on HB.out).up HB.out.size);have HCALL:=hid hcall;clear hcall;go_wp2_with (go_at_call 8;refine HCALL.out.mono ?_;intro e x1 hx;obtain⟨s1,A1,n1,c1,B1,m1,d1,rfl,hat,hb⟩:=hx;refine Hid.out ?_);refine hid ?_;replace HB:=hid (HB.out.trans (hb.mono HB.out.size));replace HX:=hid (HX.out.ext hb);clear hb HCALL;clear cX0 cX1 cX2 cX3 cX4;obtain⟨y1,hw⟩:∃ W,W=x1.alloc (.cells #[.int .i64 s1,.slice A1 n1 c1,.slice B1 m1 d1] 31):=⟨_,rfl⟩
 obtain⟨pT,hp⟩:∃ p,p=x1.heap.size:=⟨_,rfl⟩
 have hv:=TrV.new hat;rw[← hw,← hp] at hv;have hb:Below x1.heap.size x1 y1:=by rw[hw];exact below_new _ _
 replace HB:=hid (HB.out.trans (hb.mono HB.out.size));replace HX:=hid (HX.out.ext hb);have HT:=hid hv;clear hv hb hat;go_upto_region 3 with fail
 rw[← hw,← hp];clear hw hp;obtain⟨cX0,cX1,cX2,cX3,cX4⟩:=HX.out.cells;have hcall:=ex_dead_any HX.out (HGM.out.ext HB.out);have HCALL:=hid hcall;clear hcall;go_wp2_with (go_at_call 16;refine HCALL.out.mono ?_;intro e x2 hx;obtain⟨lA,lc,rfl,hI,hb⟩:=hx;refine Hid.out ?_);refine hid ?_;replace HB:=hid (HB.out.trans (hb.mono HB.out.size));replace HT:=hid (HT.out.ext hb);replace HX:=hid (HX.out.ext hb);clear hb HCALL;clear cX0 cX1 cX2 cX3 cX4;have HI:=hid hI;clear hI;go_upto_region 4 with fail
 obtain⟨cX0,cX1,cX2,cX3,cX4⟩:=HX.out.cells;have hcall:=ex_row_any HX.out (HGM.out.ext HB.out) ((HTAB.out.on HB.out).up HB.out.size);have HCALL:=hid hcall;clear hcall;go_wp2_with (go_at_call 10;refine HCALL.out.mono ?_;intro e x3 hx;obtain⟨s3,A3,n3,c3,B3,m3,d3,rfl,hat,hb⟩:=hx;refine Hid.out ?_);refine hid ?_;replace HB:=hid (HB.out.trans (hb.mono HB.out.size));replace HT:=hid (HT.out.ext hb);replace HX:=hid (HX.out.ext hb);replace HI:=hid (HI.out.ext hb);clear hb HCALL;clear cX0 cX1 cX2 cX3 cX4;obtain⟨y3,hw⟩:∃ W,W=x3.alloc (.cells #[.int .i64 s3,.slice A3 n3 c3,.slice B3 m3 d3] 31):=⟨_,rfl⟩
 obtain⟨pR,hp⟩:∃ p,p=x3.heap.size:=⟨_,rfl⟩
 have hv:=TrV.new hat;rw[← hw,← hp] at hv;have hb:Below x3.heap.size x3 y3:=by rw[hw];exact below_new _ _
 replace HB:=hid (HB.out.trans (hb.mono HB.out.size));replace HT:=hid (HT.out.ext hb);replace HX:=hid (HX.out.ext hb);replace HI:=hid (HI.out.ext hb);have HR:=hid hv;clear hv hb hat;go_upto_region 5 with fail
 rw[← hw,← hp];clear hw hp;have hcall:=line_any y3;have HCALL:=hid hcall;clear hcall;go_wp2_with (go_at_call 19;refine HCALL.out.mono ?_;intro e x4 hx;obtain⟨A5,c5,rfl,hp5,hb⟩:=hx;refine Hid.out ?_);refine hid ?_;replace HB:=hid (HB.out.trans (hb.mono HB.out.size));replace HT:=hid (HT.out.ext hb);replace HR:=hid (HR.out.ext hb);replace HX:=hid (HX.out.ext hb);replace HI:=hid (HI.out.ext hb);clear hb HCALL;have hcall:=read_line A5 c5 x4 hp5;have HCALL:=hid hcall;clear hcall;go_wp2_with (go_at_call 20;refine HCALL.out.mono ?_;intro e x5 hx;obtain⟨s5,A5,n5,c5,B5,m5,d5,rfl,hat,hb⟩:=hx;refine Hid.out ?_);refine hid ?_;replace HB:=hid (HB.out.trans (hb.mono HB.out.size));replace HT:=hid (HT.out.ext hb);replace HR:=hid (HR.out.ext hb);replace HX:=hid (HX.out.ext hb);replace HI:=hid (HI.out.ext hb);clear hb HCALL;clear hp5;obtain⟨y5,hw⟩:∃ W,W=x5.alloc (.cells #[.int .i64 s5,.slice A5 n5 c5,.slice B5 m5 d5] 31):=⟨_,rfl⟩
 obtain⟨pV,hp⟩:∃ p,p=x5.heap.size:=⟨_,rfl⟩
 have hv:=TrV.new hat;rw[← hw,← hp] at hv;have hb:Below x5.heap.size x5 y5:=by rw[hw];exact below_new _ _
 replace HB:=hid (HB.out.trans (hb.mono HB.out.size));replace HT:=hid (HT.out.ext hb);replace HR:=hid (HR.out.ext hb);replace HX:=hid (HX.out.ext hb);replace HI:=hid (HI.out.ext hb);have HV:=hid hv;clear hv hb hat;go_upto_region 6 with fail
 rw[← hw,← hp];clear hw hp;have hcall:=line_any y5;have HCALL:=hid hcall;clear hcall;go_wp2_with (go_at_call 19;refine HCALL.out.mono ?_;intro e x6 hx;obtain⟨A6,c6,rfl,hp6,hb⟩:=hx;refine Hid.out ?_);refine hid ?_;replace HB:=hid (HB.out.trans (hb.mono HB.out.size));replace HT:=hid (HT.out.ext hb);replace HR:=hid (HR.out.ext hb);replace HV:=hid (HV.out.ext hb);replace HX:=hid (HX.out.ext hb);replace HI:=hid (HI.out.ext hb);clear hb HCALL;have hcall:=const_line A6 c6 x6 hp6;have HCALL:=hid hcall;clear hcall;go_wp2_with (go_at_call 21;refine HCALL.out.mono ?_;intro e x7 hx;obtain⟨s7,A7,n7,c7,B7,m7,d7,rfl,hat,hb⟩:=hx;refine Hid.out ?_);refine hid ?_;replace HB:=hid (HB.out.trans (hb.mono HB.out.size));replace HT:=hid (HT.out.ext hb);replace HR:=hid (HR.out.ext hb);replace HV:=hid (HV.out.ext hb);replace HX:=hid (HX.out.ext hb);replace HI:=hid (HI.out.ext hb);clear hb HCALL;clear hp6;obtain⟨y7,hw⟩:∃ W,W=x7.alloc (.cells #[.int .i64 s7,.slice A7 n7 c7,.slice B7 m7 d7] 31):=⟨_,rfl⟩
 obtain⟨pZ,hp⟩:∃ p,p=x7.heap.size:=⟨_,rfl⟩
 have hv:=TrV.new hat;rw[← hw,← hp] at hv;have hb:Below x7.heap.size x7 y7:=by rw[hw];exact below_new _ _
 replace HB:=hid (HB.out.trans (hb.mono HB.out.size));replace HT:=hid (HT.out.ext hb);replace HR:=hid (HR.out.ext hb);replace HV:=hid (HV.out.ext hb);replace HX:=hid (HX.out.ext hb);replace HI:=hid (HI.out.ext hb);have HZ:=hid hv;clear hv hb hat;go_upto_region 7 with fail
 rw[← hw,← hp];clear hw hp;obtain⟨cV0,cV1,cV2⟩:=HV.out.cells;have hcall:=read_tab_any HV.out.at_ ((HTAB.out.on HB.out).up HB.out.size);have HCALL:=hid hcall;clear hcall;go_wp2_with (go_at_call 22;refine HCALL.out.mono ?_;intro e x8 hx;obtain⟨hA7,hc7,vA7,vc7,rA7,rc7,rfl,hb⟩:=hx;refine Hid.out ?_);refine hid ?_;replace HB:=hid (HB.out.trans (hb.mono HB.out.size));replace HT:=hid (HT.out.ext hb);replace HR:=hid (HR.out.ext hb);replace HV:=hid (HV.out.ext hb);replace HZ:=hid (HZ.out.ext hb);replace HX:=hid (HX.out.ext hb);replace HI:=hid (HI.out.ext hb);clear hb HCALL;clear cV0 cV1 cV2;obtain⟨zC,hw⟩:∃ W,W=x8.alloc (.cells #[.int .i64 2,.int .i64 0,.slice hA7 3 hc7,.slice vA7 3 vc7,.slice rA7 0 rc7] 26):=⟨_,rfl⟩
 obtain⟨pC,hp⟩:∃ p,p=x8.heap.size:=⟨_,rfl⟩
 have hv:Blk zC pC 26 #[.int .i64 2,.int .i64 0,.slice hA7 3 hc7,.slice vA7 3 vc7,.slice rA7 0 rc7]:=by rw[hw,hp];exact Blk.new _ _ _
 have hb:Below x8.heap.size x8 zC:=by rw[hw];exact below_new _ _
 replace HB:=hid (HB.out.trans (hb.mono HB.out.size));replace HT:=hid (HT.out.ext hb);replace HR:=hid (HR.out.ext hb);replace HV:=hid (HV.out.ext hb);replace HZ:=hid (HZ.out.ext hb);replace HX:=hid (HX.out.ext hb);replace HI:=hid (HI.out.ext hb);have HC:=hid hv;clear hv hb;go_upto_region 8 with fail
 rw[← hw,← hp];clear hw hp;obtain⟨cZ0,cZ1,cZ2⟩:=HZ.out.cells;have hcall:=zero_tab_any HZ.out.at_ ((HTAB.out.on HB.out).up HB.out.size);have HCALL:=hid hcall;clear hcall;go_wp2_with (go_at_call 22;refine HCALL.out.mono ?_;intro e x9 hx;obtain⟨hA8,hc8,vA8,vc8,rc8,b8,o8,zA8,zc8,rfl,hz,hb⟩:=hx;refine Hid.out ?_);refine hid ?_;replace HB:=hid (HB.out.trans (hb.mono HB.out.size));replace HT:=hid (HT.out.ext hb);replace HR:=hid (HR.out.ext hb);replace HV:=hid (HV.out.ext hb);replace HZ:=hid (HZ.out.ext hb);replace HX:=hid (HX.out.ext hb);replace HI:=hid (HI.out.ext hb);replace HC:=hid (HC.out.ext hb);clear hb HCALL;clear cZ0 cZ1 cZ2;have HQ:=hid hz;clear hz;obtain⟨zD,hw⟩:∃ W,W=x9.alloc (.cells #[.int .i64 2,.int .i64 0,.slice hA8 3 hc8,.slice vA8 3 vc8,.slice (some ⟨b8,o8,none⟩) 1 rc8] 26):=⟨_,rfl⟩
 obtain⟨pD,hp⟩:∃ p,p=x9.heap.size:=⟨_,rfl⟩
 have hv:Blk zD pD 26 #[.int .i64 2,.int .i64 0,.slice hA8 3 hc8,.slice vA8 3 vc8,.slice (some ⟨b8,o8,none⟩) 1 rc8]:=by rw[hw,hp];exact Blk.new _ _ _
 have hb:Below x9.heap.size x9 zD:=by rw[hw];exact below_new _ _
 replace HB:=hid (HB.out.trans (hb.mono HB.out.size));replace HT:=hid (HT.out.ext hb);replace HR:=hid (HR.out.ext hb);replace HV:=hid (HV.out.ext hb);replace HZ:=hid (HZ.out.ext hb);replace HX:=hid (HX.out.ext hb);replace HI:=hid (HI.out.ext hb);replace HC:=hid (HC.out.ext hb);replace HQ:=hid (HQ.out.ext hb);have HD:=hid hv;clear hv hb;go_upto_region 11 with fail
 rw[← hw,← hp];clear hw hp;obtain⟨cT0,cT1,cT2⟩:=HT.out.cells;obtain⟨wi1,hwi⟩:∃ W,W=zD.alloc (.cells #[.int .i64 1,.int .i64 0,.int .i64 0] 3):=⟨_,rfl⟩
 have hri:Ints wi1 (some ⟨zD.heap.size,0,none⟩) [1,0,0]:=by rw[hwi];exact OwnI.reads (lit3 zD 0 (Nat.zero_le _) (1) (0) (0))
 have hbi:Below zD.heap.size zD wi1:=by rw[hwi];exact below_new _ _
 have HWI:=hid hwi;clear hwi;replace HB:=hid (HB.out.trans (hbi.mono HB.out.size));replace HT:=hid (HT.out.ext hbi);replace HR:=hid (HR.out.ext hbi);replace HV:=hid (HV.out.ext hbi);replace HZ:=hid (HZ.out.ext hbi);replace HX:=hid (HX.out.ext hbi);replace HI:=hid (HI.out.ext hbi);replace HC:=hid (HC.out.ext hbi);replace HQ:=hid (HQ.out.ext hbi);replace HD:=hid (HD.out.ext hbi);have hcall:=value_tv (cv:=3) HT.out.at_ hri;rw[ex_v1] at hcall;have HCALL:=hid hcall;clear hcall;go_wp2_with (go_at_call 23;rw[← HWI.out];refine HCALL.out.mono ?_;intro e x10 hx;obtain⟨rfl,hb⟩:=hx;refine Hid.out ?_);refine hid ?_;replace HB:=hid (HB.out.trans (hb.mono HB.out.size));replace HT:=hid (HT.out.ext hb);replace HR:=hid (HR.out.ext hb);replace HV:=hid (HV.out.ext hb);replace HZ:=hid (HZ.out.ext hb);replace HX:=hid (HX.out.ext hb);replace HI:=hid (HI.out.ext hb);replace HC:=hid (HC.out.ext hb);replace HQ:=hid (HQ.out.ext hb);replace HD:=hid (HD.out.ext hb);clear hb HCALL;clear cT0 cT1 cT2;clear HWI hri hbi;obtain⟨cT0,cT1,cT2⟩:=HT.out.cells;obtain⟨wi2,hwi⟩:∃ W,W=x10.alloc (.cells #[.int .i64 0,.int .i64 1,.int .i64 0] 3):=⟨_,rfl⟩
 have hri:Ints wi2 (some ⟨x10.heap.size,0,none⟩) [0,1,0]:=by rw[hwi];exact OwnI.reads (lit3 x10 0 (Nat.zero_le _) (0) (1) (0))
 have hbi:Below x10.heap.size x10 wi2:=by rw[hwi];exact below_new _ _
 have HWI:=hid hwi;clear hwi;replace HB:=hid (HB.out.trans (hbi.mono HB.out.size));replace HT:=hid (HT.out.ext hbi);replace HR:=hid (HR.out.ext hbi);replace HV:=hid (HV.out.ext hbi);replace HZ:=hid (HZ.out.ext hbi);replace HX:=hid (HX.out.ext hbi);replace HI:=hid (HI.out.ext hbi);replace HC:=hid (HC.out.ext hbi);replace HQ:=hid (HQ.out.ext hbi);replace HD:=hid (HD.out.ext hbi);have hcall:=value_tv (cv:=3) HT.out.at_ hri;rw[ex_v2] at hcall;have HCALL:=hid hcall;clear hcall;go_wp2_with (go_at_call 23;rw[← HWI.out];refine HCALL.out.mono ?_;intro e x11 hx;obtain⟨rfl,hb⟩:=hx;refine Hid.out ?_);refine hid ?_;replace HB:=hid (HB.out.trans (hb.mono HB.out.size));replace HT:=hid (HT.out.ext hb);replace HR:=hid (HR.out.ext hb);replace HV:=hid (HV.out.ext hb);replace HZ:=hid (HZ.out.ext hb);replace HX:=hid (HX.out.ext hb);replace HI:=hid (HI.out.ext hb);replace HC:=hid (HC.out.ext hb);replace HQ:=hid (HQ.out.ext hb);replace HD:=hid (HD.out.ext hb);clear hb HCALL;clear cT0 cT1 cT2;clear HWI hri hbi;obtain⟨cT0,cT1,cT2⟩:=HT.out.cells;obtain⟨wi3,hwi⟩:∃ W,W=x11.alloc (.cells #[.int .i64 0,.int .i64 0,.int .i64 0] 3):=⟨_,rfl⟩
 have hri:Ints wi3 (some ⟨x11.heap.size,0,none⟩) [0,0,0]:=by rw[hwi];exact OwnI.reads (lit3 x11 0 (Nat.zero_le _) (0) (0) (0))
 have hbi:Below x11.heap.size x11 wi3:=by rw[hwi];exact below_new _ _
 have HWI:=hid hwi;clear hwi;replace HB:=hid (HB.out.trans (hbi.mono HB.out.size));replace HT:=hid (HT.out.ext hbi);replace HR:=hid (HR.out.ext hbi);replace HV:=hid (HV.out.ext hbi);replace HZ:=hid (HZ.out.ext hbi);replace HX:=hid (HX.out.ext hbi);replace HI:=hid (HI.out.ext hbi);replace HC:=hid (HC.out.ext hbi);replace HQ:=hid (HQ.out.ext hbi);replace HD:=hid (HD.out.ext hbi);have hcall:=value_tv (cv:=3) HT.out.at_ hri;rw[ex_v3] at hcall;have HCALL:=hid hcall;clear hcall;go_wp2_with (go_at_call 23;rw[← HWI.out];refine HCALL.out.mono ?_;intro e x12 hx;obtain⟨rfl,hb⟩:=hx;refine Hid.out ?_);refine hid ?_;replace HB:=hid (HB.out.trans (hb.mono HB.out.size));replace HT:=hid (HT.out.ext hb);replace HR:=hid (HR.out.ext hb);replace HV:=hid (HV.out.ext hb);replace HZ:=hid (HZ.out.ext hb);replace HX:=hid (HX.out.ext hb);replace HI:=hid (HI.out.ext hb);replace HC:=hid (HC.out.ext hb);replace HQ:=hid (HQ.out.ext hb);replace HD:=hid (HD.out.ext hb);clear hb HCALL;clear cT0 cT1 cT2;clear HWI hri hbi;obtain⟨wi4,hwi⟩:∃ W,W=x12.alloc (.cells #[.int .i64 1] 3):=⟨_,rfl⟩
 have hri:Ints wi4 (some ⟨x12.heap.size,0,none⟩) [1]:=by rw[hwi];exact OwnI.reads (lit1 x12 0 (Nat.zero_le _) (1))
 have hbi:Below x12.heap.size x12 wi4:=by rw[hwi];exact below_new _ _
 have HWI:=hid hwi;clear hwi;replace HB:=hid (HB.out.trans (hbi.mono HB.out.size));replace HT:=hid (HT.out.ext hbi);replace HR:=hid (HR.out.ext hbi);replace HV:=hid (HV.out.ext hbi);replace HZ:=hid (HZ.out.ext hbi);replace HX:=hid (HX.out.ext hbi);replace HI:=hid (HI.out.ext hbi);replace HC:=hid (HC.out.ext hbi);replace HQ:=hid (HQ.out.ext hbi);replace HD:=hid (HD.out.ext hbi);have hcall:=ints12_b lA lc [1] _ 1 [1] wi4 HI.out hri;rw[decide_eq_true (rfl:([1]:List Int)=[1])] at hcall;have HCALL:=hid hcall;clear hcall;go_wp2_with (go_at_call 18;rw[← HWI.out];refine HCALL.out.mono ?_;intro e x13 hx;obtain⟨rfl,hb⟩:=hx;refine Hid.out ?_);refine hid ?_;replace HB:=hid (HB.out.trans (hb.mono HB.out.size));replace HT:=hid (HT.out.ext hb);replace HR:=hid (HR.out.ext hb);replace HV:=hid (HV.out.ext hb);replace HZ:=hid (HZ.out.ext hb);replace HX:=hid (HX.out.ext hb);replace HI:=hid (HI.out.ext hb);replace HC:=hid (HC.out.ext hb);replace HQ:=hid (HQ.out.ext hb);replace HD:=hid (HD.out.ext hb);clear hb HCALL;clear HWI hri hbi;obtain⟨cR0,cR1,cR2⟩:=HR.out.cells;obtain⟨wi5,hwi⟩:∃ W,W=x13.alloc (.cells #[.int .i64 1,.int .i64 0,.int .i64 0] 3):=⟨_,rfl⟩
 have hri:Ints wi5 (some ⟨x13.heap.size,0,none⟩) [1,0,0]:=by rw[hwi];exact OwnI.reads (lit3 x13 0 (Nat.zero_le _) (1) (0) (0))
 have hbi:Below x13.heap.size x13 wi5:=by rw[hwi];exact below_new _ _
 have HWI:=hid hwi;clear hwi;replace HB:=hid (HB.out.trans (hbi.mono HB.out.size));replace HT:=hid (HT.out.ext hbi);replace HR:=hid (HR.out.ext hbi);replace HV:=hid (HV.out.ext hbi);replace HZ:=hid (HZ.out.ext hbi);replace HX:=hid (HX.out.ext hbi);replace HI:=hid (HI.out.ext hbi);replace HC:=hid (HC.out.ext hbi);replace HQ:=hid (HQ.out.ext hbi);replace HD:=hid (HD.out.ext hbi);have hcall:=value_tv (cv:=3) HR.out.at_ hri;rw[ex_v4] at hcall;have HCALL:=hid hcall;clear hcall;go_wp2_with (go_at_call 23;rw[← HWI.out];refine HCALL.out.mono ?_;intro e x14 hx;obtain⟨rfl,hb⟩:=hx;refine Hid.out ?_);refine hid ?_;replace HB:=hid (HB.out.trans (hb.mono HB.out.size));replace HT:=hid (HT.out.ext hb);replace HR:=hid (HR.out.ext hb);replace HV:=hid (HV.out.ext hb);replace HZ:=hid (HZ.out.ext hb);replace HX:=hid (HX.out.ext hb);replace HI:=hid (HI.out.ext hb);replace HC:=hid (HC.out.ext hb);replace HQ:=hid (HQ.out.ext hb);replace HD:=hid (HD.out.ext hb);clear hb HCALL;clear cR0 cR1 cR2;clear HWI hri hbi;obtain⟨cR0,cR1,cR2⟩:=HR.out.cells;obtain⟨wi6,hwi⟩:∃ W,W=x14.alloc (.cells #[.int .i64 0,.int .i64 1,.int .i64 0] 3):=⟨_,rfl⟩
 have hri:Ints wi6 (some ⟨x14.heap.size,0,none⟩) [0,1,0]:=by rw[hwi];exact OwnI.reads (lit3 x14 0 (Nat.zero_le _) (0) (1) (0))
 have hbi:Below x14.heap.size x14 wi6:=by rw[hwi];exact below_new _ _
 have HWI:=hid hwi;clear hwi;replace HB:=hid (HB.out.trans (hbi.mono HB.out.size));replace HT:=hid (HT.out.ext hbi);replace HR:=hid (HR.out.ext hbi);replace HV:=hid (HV.out.ext hbi);replace HZ:=hid (HZ.out.ext hbi);replace HX:=hid (HX.out.ext hbi);replace HI:=hid (HI.out.ext hbi);replace HC:=hid (HC.out.ext hbi);replace HQ:=hid (HQ.out.ext hbi);replace HD:=hid (HD.out.ext hbi);have hcall:=value_tv (cv:=3) HR.out.at_ hri;rw[ex_v5] at hcall;have HCALL:=hid hcall;clear hcall;go_wp2_with (go_at_call 23;rw[← HWI.out];refine HCALL.out.mono ?_;intro e x15 hx;obtain⟨rfl,hb⟩:=hx;refine Hid.out ?_);refine hid ?_;replace HB:=hid (HB.out.trans (hb.mono HB.out.size));replace HT:=hid (HT.out.ext hb);replace HR:=hid (HR.out.ext hb);replace HV:=hid (HV.out.ext hb);replace HZ:=hid (HZ.out.ext hb);replace HX:=hid (HX.out.ext hb);replace HI:=hid (HI.out.ext hb);replace HC:=hid (HC.out.ext hb);replace HQ:=hid (HQ.out.ext hb);replace HD:=hid (HD.out.ext hb);clear hb HCALL;clear cR0 cR1 cR2;clear HWI hri hbi;have cc4:=HC.out.cell_ 4 (.slice rA7 0 rc7) rfl;have cc3:=HC.out.cell_ 3 (.slice vA7 3 vc7) rfl;have dd4:=HD.out.cell_ 4 (.slice (some ⟨b8,o8,none⟩) 1 rc8) rfl;obtain⟨-,q0,q1,-⟩:=HQ.out;obtain⟨wi7,hwi⟩:∃ W,W=x15.alloc (.cells #[.int .i64 (-1),.int .i64 (-2),.int .i64 (-3)] 3):=⟨_,rfl⟩
 have hri:Ints wi7 (some ⟨x15.heap.size,0,none⟩) [-1,-2,-3]:=by rw[hwi];exact OwnI.reads (lit3 x15 0 (Nat.zero_le _) (-1) (-2) (-3))
 have hbi:Below x15.heap.size x15 wi7:=by rw[hwi];exact below_new _ _
 have HWI:=hid hwi;clear hwi;replace HB:=hid (HB.out.trans (hbi.mono HB.out.size));replace HT:=hid (HT.out.ext hbi);replace HR:=hid (HR.out.ext hbi);replace HV:=hid (HV.out.ext hbi);replace HZ:=hid (HZ.out.ext hbi);replace HX:=hid (HX.out.ext hbi);replace HI:=hid (HI.out.ext hbi);replace HC:=hid (HC.out.ext hbi);replace HQ:=hid (HQ.out.ext hbi);replace HD:=hid (HD.out.ext hbi);have hcall:=ints12_b zA8 zc8 [-1,-2,-3] _ 3 [-1,-2,-3] wi7 HQ.out.zs hri;rw[decide_eq_true (rfl:([-1,-2,-3]:List Int)=[-1,-2,-3])] at hcall;have HCALL:=hid hcall;clear hcall;go_wp2_with (go_at_call 18;rw[← HWI.out];refine HCALL.out.mono ?_;intro e x16 hx;obtain⟨rfl,hb⟩:=hx;refine Hid.out ?_);refine hid ?_;replace HB:=hid (HB.out.trans (hb.mono HB.out.size));replace HT:=hid (HT.out.ext hb);replace HR:=hid (HR.out.ext hb);replace HV:=hid (HV.out.ext hb);replace HZ:=hid (HZ.out.ext hb);replace HX:=hid (HX.out.ext hb);replace HI:=hid (HI.out.ext hb);replace HC:=hid (HC.out.ext hb);replace HQ:=hid (HQ.out.ext hb);replace HD:=hid (HD.out.ext hb);clear hb HCALL;clear HWI hri hbi cc4 cc3 dd4 q0 q1;have dd4:=HD.out.cell_ 4 (.slice (some ⟨b8,o8,none⟩) 1 rc8) rfl;obtain⟨-,q0,q1,-⟩:=HQ.out;go_wp2;go_ret;exact⟨rfl,HB.out⟩
end Go.Proofs.YtlegfdllipkggaaGreatDoor
namespace Go.Proofs.YtlegfdllipkggaaGreatDoor
open Go.RowKit Go.Maps
set_option maxRecDepth 100000
set_option linter.unusedVariables false
set_option linter.unusedSimpArgs false
structure TvB (w:World)(p:Nat)(hA:Option Addr)(hc:Nat)(vA:Option Addr)(vc:Nat)(rA:Option Addr)(rc:Nat)(y:TabH):Prop where
 blk:Blk w p 26 #[.int .i64 y.st,.int .i64 y.sym,.slice hA y.hood.length hc,.slice vA y.vs.length vc,.slice rA y.rs.length rc]
 tb:TabR w hA vA rA y
section
variable {w w' : World} {p : Nat} {hA : Option Addr} {hc : Nat} {vA : Option Addr} {vc : Nat} {rA : Option Addr} {rc : Nat} {y : TabH}
theorem TvB.ext (h:TvB w p hA hc vA vc rA rc y)(hb:Below w.heap.size w w'):TvB w' p hA hc vA vc rA rc y:=⟨h.blk.ext hb,h.tb.ext hb⟩
theorem TvB.new (h:TabR w hA vA rA y):TvB (w.alloc (.cells #[.int .i64 y.st,.int .i64 y.sym,.slice hA y.hood.length hc,.slice vA y.vs.length vc,.slice rA y.rs.length rc] 26)) w.heap.size hA hc vA vc rA rc y:=⟨Blk.new _ _ _,h.ext (below_new _ _)⟩
theorem TvB.cells (h:TvB w p hA hc vA vc rA rc y):w.cell? ⟨p,0,none⟩=some (.int .i64 y.st)∧w.cell? ⟨p,1,none⟩=some (.int .i64 y.sym)∧w.cell? ⟨p,2,none⟩=some (.slice hA y.hood.length hc)∧w.cell? ⟨p,3,none⟩=some (.slice vA y.vs.length vc)∧w.cell? ⟨p,4,none⟩=some (.slice rA y.rs.length rc):=
 ⟨h.blk.cell_ 0 _ rfl,h.blk.cell_ 1 _ rfl,h.blk.cell_ 2 _ rfl,h.blk.cell_ 3 _ rfl,h.blk.cell_ 4 _ rfl⟩
end
end Go.Proofs.YtlegfdllipkggaaGreatDoor
namespace Go.Proofs.YtlegfdllipkggaaGreatDoor
open Lib(hid)
open Go.RowKit
set_option maxRecDepth 100000
set_option linter.unusedVariables false
set_option linter.unusedSimpArgs false
theorem any_take15 {α:Type}{p:α→Bool}{l:List α}{i:Nat}(hi:i < l.length)(h:(l.take i).any p=false)(h2:p l[i]=false):(l.take (i+1)).any p=false:=by
 rw[List.take_succ_eq_append_getElem hi,List.any_append,h];simp[h2]
def few11 (t:TabL):Bool:=!(decide (30 < t.hood.length) || decide (50 < t.vars.length) || decide (30 < t.rows.length)) && !(t.vars.any fun l=>decide (30 < l.length)) && !(t.rows.any fun r=>decide (30 < r.1.length))
set_option maxHeartbeats 8000000 in
theorem few11_any (hA:Option Addr)(hc:Nat)(vA:Option Addr)(vc:Nat)(rA:Option Addr)(rc:Nat)(t:TabH)(w:World)(hT:TabR w hA vA rA t) :
  Calls Tryz.prog 13 #[tabV hA hc vA vc rA rc t] w fun e w'=>e=.returned (.bool (few11 t.tab))∧Below w.heap.size w w':=by
 obtain⟨w0,hw0⟩:∃ w0,w0=w.alloc (.cells #[.int .i64 t.st,.int .i64 t.sym,.slice hA t.hood.length hc,.slice vA t.vs.length vc,.slice rA t.rs.length rc] 26):=⟨_,rfl⟩
 have hb0:Below w.heap.size w w0:=by rw[hw0];exact below_new _ _
 have p0:Blk w0 w.heap.size 26 #[.int .i64 t.st,.int .i64 t.sym,.slice hA t.hood.length hc,.slice vA t.vs.length vc,.slice rA t.rs.length rc]:=by rw[hw0];exact Blk.new _ _ _
 have HTR:=hid (hT.ext hb0);have HB0:=hid hb0;have HP:=hid p0;have HW0:=hid hw0;have hh9:t.hood.length≤9223372036854775807:=hT.hood.le;have hv9:t.vs.length≤9223372036854775807:=hT.vars.le;have hr9:t.rs.length≤9223372036854775807:=hT.rows.le;obtain⟨res,hres⟩:∃ res,res=few11 t.tab:=⟨_,rfl⟩
 rw[← hres];unfold few11 TabH.tab at hres;dsimp only at hres;rw[List.length_map,List.length_map,List.any_map,List.any_map] at hres;have HRES:=hid hres;have x2:=p0.cell_ 2 (.slice hA t.hood.length hc) rfl;have x3:=p0.cell_ 3 (.slice vA t.vs.length vc) rfl;have x4:=p0.cell_ 4 (.slice rA t.rs.length rc) rfl;unfold tabV;clear hb0 p0 hw0 hT hres;cases k1:decide (30 < t.hood.length) with
 | true=>
  have q1:decide ((30:Int) < (t.hood.length:Int))=true:=by have:=of_decide_eq_true k1;exact decide_eq_true (by omega)
  have HE:Hid (res=false):=hid (by rw[HRES.out,k1];simp);clear k1;go_enter Tryz.func13,Tryz.ntmps13;go_upto_region 1 with fail
  rw[← HW0.out];go_wp2;go_ret;exact⟨by first | (rw[HE.out];done) | (rw[HE.out];rfl),HB0.out⟩
 | false=>
  have q1:decide ((30:Int) < (t.hood.length:Int))=false:=by have:=of_decide_eq_false k1;exact decide_eq_false (by omega)
  cases k2:decide (50 < t.vs.length) with
  | true=>
   have q2:decide ((50:Int) < (t.vs.length:Int))=true:=by have:=of_decide_eq_true k2;exact decide_eq_true (by omega)
   have HE:Hid (res=false):=hid (by rw[HRES.out,k2];simp);clear k1 k2;go_enter Tryz.func13,Tryz.ntmps13;go_upto_region 1 with fail
   rw[← HW0.out];go_wp2;go_ret;exact⟨by first | (rw[HE.out];done) | (rw[HE.out];rfl),HB0.out⟩
  | false=>
   have q2:decide ((50:Int) < (t.vs.length:Int))=false:=by have:=of_decide_eq_false k2;exact decide_eq_false (by omega)
   cases k3:decide (30 < t.rs.length) with
   | true=>
    have q3:decide ((30:Int) < (t.rs.length:Int))=true:=by have:=of_decide_eq_true k3;exact decide_eq_true (by omega)
    have HE:Hid (res=false):=hid (by rw[HRES.out,k3];simp);clear k1 k2 k3;go_enter Tryz.func13,Tryz.ntmps13;go_upto_region 1 with fail
    rw[← HW0.out];go_wp2;go_ret;exact⟨by first | (rw[HE.out];done) | (rw[HE.out];rfl),HB0.out⟩
   | false=>
    have q3:decide ((30:Int) < (t.rs.length:Int))=false:=by have:=of_decide_eq_false k3;exact decide_eq_false (by omega)
    have HRES2:Hid (res=(!(t.vs.any ((fun l=>decide (30 < l.length)) ∘ Vh.zs)) && !(t.rs.any ((fun r=>decide (30 < r.1.length)) ∘ Rh.rw_)))):=hid (by rw[HRES.out,k1,k2,k3];simp);clear k1 k2 k3;go_enter Tryz.func13,Tryz.ntmps13;go_upto_region 1 with fail
    rw[← HW0.out];go_wp2;clear q1 q2 q3;go_loopw [24] (fun iv wr=>∃ i:Nat,i≤t.vs.length∧iv=.int .i64 i∧w0=wr∧Hid ((t.vs.take i).any ((fun l=>decide (30 < l.length)) ∘ Vh.zs)=false)) (fun iv _=>t.vs.length - (intOf iv).toNat)
    case atStart=>exact⟨0,Nat.zero_le _,rfl,rfl,hid rfl⟩
    case round=>
     obtain⟨i,hi,rfl,rfl,HN⟩:=hrel;by_cases hil:i < t.vs.length
     ·obtain⟨b,o,rfl,-,k0,kz⟩:=HTR.out.vars.at_ hil;obtain⟨vh,hvh⟩:∃ v,v=t.vs[i]:=⟨_,rfl⟩
      rw[← hvh] at k0;have hany:decide (30 < vh.zs.length)=true→t.vs.any ((fun l=>decide (30 < l.length)) ∘ Vh.zs)=true:=fun h=>List.any_eq_true.2 ⟨t.vs[i],List.getElem_mem hil,by rw[← hvh];exact h⟩;have hnon:decide (30 < vh.zs.length)=false→(t.vs.take (i+1)).any ((fun l=>decide (30 < l.length)) ∘ Vh.zs)=false:=fun h=>any_take15 hil HN.out (by rw[← hvh];exact h);have HANY:=hid hany;have HNON:=hid hnon;clear hvh kz hany hnon;have hwi:wrap64 ((i:Int)+1)=(i:Int)+1:=by unfold wrap64;omega
      have HI:=hid hil;have HWI:=hid hwi;cases hb:decide (30 < vh.zs.length) with
      | true=>
       have q4:decide ((30:Int) < (vh.zs.length:Int))=true:=by have:=of_decide_eq_true hb;exact decide_eq_true (by omega)
       have HE:Hid (res=false):=hid (by
        have:=HANY.out hb;rw[HRES2.out,this];rfl)
       clear hi hb;go_wp2;go_ret;exact⟨by first | (rw[HE.out];done) | (rw[HE.out];rfl),HB0.out⟩
      | false=>
       have q4:decide ((30:Int) < (vh.zs.length:Int))=false:=by have:=of_decide_eq_false hb;exact decide_eq_false (by omega)
       have HN2:Hid ((t.vs.take (i+1)).any ((fun l=>decide (30 < l.length)) ∘ Vh.zs)=false):=hid (HNON.out hb);clear hi hb;go_wp2;go_roundw
       case rel=>exact⟨i+1,HI.out,(by first | rfl | (rw[HWI.out];rfl)),(by first | trivial | rfl),HN2⟩
       case measure=>(try rw[HWI.out]);exact meas_step HI.out
     ·obtain rfl:i=t.vs.length:=Nat.le_antisymm hi (Nat.le_of_not_lt hil);have HRES3:Hid (res = !(t.rs.any ((fun r=>decide (30 < r.1.length)) ∘ Rh.rw_))):=hid (by
       have h:=HN.out;rw[List.take_length] at h;rw[HRES2.out,h];rfl)
      clear hi hil HN;go_wp2;go_loopw [38] (fun iv wr=>∃ i:Nat,i≤t.rs.length∧iv=.int .i64 i∧w0=wr∧Hid ((t.rs.take i).any ((fun r=>decide (30 < r.1.length)) ∘ Rh.rw_)=false)) (fun iv _=>t.rs.length - (intOf iv).toNat)
      case atStart=>exact⟨0,Nat.zero_le _,rfl,rfl,hid rfl⟩
      case round=>
       obtain⟨i,hi,rfl,rfl,HN⟩:=hrel;by_cases hil:i < t.rs.length
       ·obtain⟨b,o,rfl,-,k0,-,kz⟩:=HTR.out.rows.at_ hil;obtain⟨vh,hvh⟩:∃ v,v=t.rs[i]:=⟨_,rfl⟩
        rw[← hvh] at k0;have hany:decide (30 < vh.zs.length)=true→t.rs.any ((fun r=>decide (30 < r.1.length)) ∘ Rh.rw_)=true:=fun h=>List.any_eq_true.2 ⟨t.rs[i],List.getElem_mem hil,by rw[← hvh];exact h⟩;have hnon:decide (30 < vh.zs.length)=false→(t.rs.take (i+1)).any ((fun r=>decide (30 < r.1.length)) ∘ Rh.rw_)=false:=fun h=>any_take15 hil HN.out (by rw[← hvh];exact h);have HANY:=hid hany;have HNON:=hid hnon;clear hvh kz hany hnon;have hwi:wrap64 ((i:Int)+1)=(i:Int)+1:=by unfold wrap64;omega
        have HI:=hid hil;have HWI:=hid hwi;cases hb:decide (30 < vh.zs.length) with
        | true=>
         have q4:decide ((30:Int) < (vh.zs.length:Int))=true:=by have:=of_decide_eq_true hb;exact decide_eq_true (by omega)
         have HE:Hid (res=false):=hid (by
          have:=HANY.out hb;rw[HRES3.out,this];rfl)
         clear hi hb;go_wp2;go_ret;exact⟨by first | (rw[HE.out];done) | (rw[HE.out];rfl),HB0.out⟩
        | false=>
         have q4:decide ((30:Int) < (vh.zs.length:Int))=false:=by have:=of_decide_eq_false hb;exact decide_eq_false (by omega)
         have HN2:Hid ((t.rs.take (i+1)).any ((fun r=>decide (30 < r.1.length)) ∘ Rh.rw_)=false):=hid (HNON.out hb);clear hi hb;go_wp2;go_roundw
         case rel=>exact⟨i+1,HI.out,(by first | rfl | (rw[HWI.out];rfl)),(by first | trivial | rfl),HN2⟩
         case measure=>(try rw[HWI.out]);exact meas_step HI.out
       ·obtain rfl:i=t.rs.length:=Nat.le_antisymm hi (Nat.le_of_not_lt hil);have HE:Hid (res=true):=hid (by
         have h:=HN.out;rw[List.take_length] at h;rw[HRES3.out,h];rfl)
        clear hi hil HN;go_wp2;go_ret;exact⟨by first | (rw[HE.out];done) | (rw[HE.out];rfl),HB0.out⟩
end Go.Proofs.YtlegfdllipkggaaGreatDoor
namespace Go.Proofs.YtlegfdllipkggaaGreatDoor
open Go.RowKit
set_option linter.unusedVariables false
set_option linter.unusedSimpArgs false
set_option maxRecDepth 100000
def gtB (a b:Int × Int):Bool:=decide (0 < ordP a.1 a.2 b.1 b.2)
theorem gtB_iff (a b:Int × Int):gtB a b=true ↔ b.2 < a.2∨(b.2=a.2∧b.1 < a.1):=by
 unfold gtB ordP Lib.compareInt;rw[decide_eq_true_iff];by_cases h1:a.2 < b.2
 ·simp[h1];omega
 ·by_cases h2:b.2 < a.2
  ·simp[h1,h2]
  ·have h3:b.2=a.2:=by omega
   by_cases h4:a.1 < b.1
   ·simp[h3,h4];omega
   ·by_cases h5:b.1 < a.1
    ·simp[h3,h4,h5]
    ·simp[h3,h4,h5]
theorem chainH_pw:∀ (l:List (Int × Int))(q:Option (Int × Int)),chainH q l=true→l.Pairwise (fun a b=>gtB b a=true)∧∀ a,q=some a→∀ b ∈ l,gtB b a=true
 | [],_,_=>⟨.nil,fun _ _ _ h=>absurd h (by simp)⟩
 | p :: l,q,h=>by
  simp only[chainH,Bool.and_eq_true] at h;obtain⟨h1,h2⟩:=chainH_pw l (some p) h.2;have h3:=h2 p rfl;refine⟨List.pairwise_cons.2 ⟨h3,h1⟩,fun a e b hb=>?_⟩;subst e;have h4:gtB p a=true:=by
   have:=h.1;simp only[okH,Bool.and_eq_true,decide_eq_true_eq] at this;have:=this.2;rw[gtB_iff];unfold ordP Lib.compareInt at this;by_cases c1:a.2 < p.2
   ·exact .inl c1
   ·by_cases c2:p.2 < a.2
    ·simp[c1,c2] at this
    ·have c3:a.2=p.2:=by omega
     by_cases c4:a.1 < p.1
     ·exact .inr ⟨c3,c4⟩
     ·exfalso;by_cases c5:p.1 < a.1
      ·simp[c3,c4,c5] at this
      ·simp[c3,c4,c5] at this
  rcases List.mem_cons.1 hb with e | hb
  ·subst e;exact h4
  ·have:=h3 b hb;rw[gtB_iff] at *;omega
theorem hood_nodup {ps:List (Int × Int)}(h:hoodB ps=true):ps.Nodup:=by
 unfold hoodB at h;rw[Bool.and_eq_true] at h;have:=(chainH_pw ps none h.2).1;refine this.imp fun {a b} h e=>?_;subst e;rw[gtB_iff] at h;omega
theorem idxF_at {ps:List (Int × Int)}(hn:ps.Nodup){i:Nat}(hi:i < ps.length):idxF ps[i] 0 ps=(i:Int):=by
 have key:∀ (n k:Nat),n+k=i→k≤i→idxF ps[i] k (ps.drop k)=(i:Int):=by
  intro n;induction n with
  | zero=>
   intro k hk _;obtain rfl:k=i:=by omega
   rw[idxF_step hi,if_pos rfl]
  | succ n ih=>
   intro k hk hki;have hkl:k < ps.length:=by omega
   rw[idxF_step hkl,if_neg (fun e=>by
    have:=(List.getElem_inj hn).1 e;omega)]
   exact ih (k+1) (by omega) (by omega)
 have:=key i 0 (by omega) (Nat.zero_le _);rwa [List.drop_zero] at this
theorem turned0 {ps:List (Int × Int)}(h:hoodB ps=true){inn:List Int}(hl:inn.length=ps.length):turnedP ps 0 inn=inn:=by
 unfold turnedP;refine List.ext_getElem (by rw[List.length_map,hl]) fun i h1 h2=>?_;rw[List.length_map] at h1;rw[List.getElem_map,symP_0,idxF_at (hood_nodup h) h1,Int.toNat_natCast,List.getD_eq_getElem?_getD,List.getElem?_eq_getElem h2];rfl
end Go.Proofs.YtlegfdllipkggaaGreatDoor
