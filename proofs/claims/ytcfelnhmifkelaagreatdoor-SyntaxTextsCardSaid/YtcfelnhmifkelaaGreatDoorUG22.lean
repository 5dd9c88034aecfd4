/-
  texts Home56 RHome56 CmdR56 Rcd56: parts of the proof; conditions stand with each theorem.
-/
import Derived.Test.YtcfelnhmifkelaaGreatDoorUG20
import Derived.Test.YtcfelnhmifkelaaGreatDoorUG2
import Derived.Test.YtcfelnhmifkelaaGreatDoorUG19
import Derived.Test.YtcfelnhmifkelaaGreatDoorUG14
import Derived.BigQuiet
import Derived.Test.YtcfelnhmifkelaaGreatDoorUG21
import Derived.Test.YtcfelnhmifkelaaGreatDoorUG18
import Derived.Test.YtcfelnhmifkelaaGreatDoorUG8
import Derived.Test.YtcfelnhmifkelaaGreatDoorUG9
namespace Go.Proofs.YtcfelnhmifkelaaGreatDoor
open Lib(hid)
open Go.RowKit
set_option maxRecDepth 100000
set_option linter.unusedVariables false
set_option linter.unusedSimpArgs false
theorem Cls.drewN {w:World}{A:Option Addr}{ps:List Cel}(h:Cls w A ps)(n:Nat):Cls (w.drewN n) A ps:=h
theorem Tryz.infoCel6:(Tryz.prog.info? 114).map (fun i=>(i.zero,i.size,i.bytes))=some (some (.agg #[.int .i64 0,.int .i64 0,.int .i64 0]),3,24):=by kernel_rfl
def RetHm (A:Option Addr)(ps:List Cel)(w:World)(e:Ending)(w':World):Prop:=∃ A' c,e=.returned (.slice A' (homeC ps).length c)∧Cls w' A' (homeC ps)∧(A'=A∨NewA w.heap.size A')∧Below w.heap.size w w'
theorem home_snoc {ps:List Cel}(x y:Int){k:Nat}(h:k < ps.length):(ps.take (k+1)).map (mvC x y)=(ps.take k).map (mvC x y) ++ [⟨ps[k].x - x,ps[k].y - y,ps[k].s⟩]:=by
 rw[List.take_succ_eq_append_getElem h,List.map_append];rfl
theorem OwnC.low56 {e:TypeId}{w:World}{b b':Nat}{v:Value}{ps:List Cel}(h:OwnC e w b v ps)(hb:b'≤b):OwnC e w b' v ps:=by
 refine⟨h.1,?_⟩;rcases h.2 with h2 | ⟨g,cap,cur,h3,h4,h5⟩
 ·exact .inl h2
 ·exact .inr ⟨g,cap,cur,h3,Nat.le_trans hb h4,h5⟩
set_option maxHeartbeats 8000000 in
theorem home_any (A:Option Addr)(c:Nat)(ps:List Cel)(w:World)(ha:Cls w A ps) :
  Calls Tryz.prog 68 #[.slice A ps.length c] w (RetHm A ps w):=by
 have hB:=hid (box_any A c ps w ha);have HR:=hid (fun W (hW:Below w.heap.size w W)=>right_any A c ps W (ha.ext hW));have h2:=box_two ps;cases k2:(boxC ps).2 with
 | false=>
  have E:Hid (homeC ps=ps):=hid (by unfold homeC;rw[k2,if_neg Bool.false_ne_true]);have HA:=hid ha;rw[k2] at hB;clear ha h2 k2 HR;go_enter Tryz.func68,Tryz.ntmps68;go_wp2_with (go_at_call 44;refine hB.out.mono ?_;rintro e w1 ⟨rfl,hb1⟩;refine Hid.out ?_);refine hid ?_;have HB1:=hid hb1;clear hb1 hB;unfold bxV;go_wp2;go_ret;unfold RetHm;rw[E.out];have hb:Below w.heap.size w (w1.alloc (.cells #[.int .i64 (boxC ps).1.x,.int .i64 (boxC ps).1.y,.int .i64 (boxC ps).1.w,.int .i64 (boxC ps).1.h] 73)):=HB1.out.alloc HB1.out.size _;exact⟨A,c,rfl,HA.out.ext hb,.inl rfl,hb⟩
 | true=>
  have hr:ps≠[]∧rightC ps=true:=by
   rw[k2] at h2;have:=h2.symm;rw[Bool.and_eq_true,decide_eq_true_eq] at this;exact this
  have hbd:=right_bd hr.2;have hxy:=box_xy k2;have hlx:=lo_bd (·.x) hr.1 (fun c hc=>(hbd c hc).1) ps.length;have hly:=lo_bd (·.y) hr.1 (fun c hc=>(hbd c hc).2.1) ps.length;have E:Hid (homeC ps=ps.map (mvC (boxC ps).1.x (boxC ps).1.y)):=hid (by unfold homeC;rw[k2,if_pos rfl]);have hL:ps.length≤5000:=by
   have:=hr.2;unfold rightC at this;rw[Bool.and_eq_true,decide_eq_true_eq] at this;exact this.1
  rw[hr.2] at HR;rw[k2] at hB;rw[← hxy.1] at hlx;rw[← hxy.2] at hly;obtain⟨b,hb⟩:∃ b,b=(boxC ps).1:=⟨_,rfl⟩
  rw[← hb] at hB E hlx hly;have HBD:=hid hbd;have HLX:=hid hlx;have HLY:=hid hly;have HL:=hid hL;have HA:=hid ha;clear ha h2 k2 hr hbd hxy hlx hly hL hb;obtain⟨bx,bY,bw,bh⟩:=b;unfold bxV at hB;dsimp only at hB E HLX HLY;go_enter Tryz.func68,Tryz.ntmps68;go_wp2_with (go_at_call 44;refine hB.out.mono ?_;rintro e w1 ⟨rfl,hb1⟩;refine Hid.out ?_);refine hid ?_;obtain⟨w2,hw2⟩:∃ W,W=w1.alloc (.cells #[.int .i64 bx,.int .i64 bY,.int .i64 bw,.int .i64 bh] 73):=⟨_,rfl⟩
  obtain⟨p2,hp2⟩:∃ p,p=w1.heap.size:=⟨_,rfl⟩
  have hk2:Blk w2 p2 73 #[.int .i64 bx,.int .i64 bY,.int .i64 bw,.int .i64 bh]:=by rw[hw2,hp2];exact Blk.new _ _ _
  have HK2:=hid hk2;have HB2:Hid (Below w.heap.size w w2):=hid (by rw[hw2];exact hb1.alloc hb1.size _);have HW2:=hid hw2;have HP2:=hid hp2;have hR2:=HR.out w2 HB2.out;clear hb1 hB hw2 hp2 hk2 HR;go_upto_region 2 with fail
  rw[← HW2.out,← HP2.out];clear HW2 HP2;go_wp2_with (go_at_call 45;refine hR2.mono ?_;rintro e w3 ⟨rfl,hb3⟩;refine Hid.out ?_);refine hid ?_;have HB3:=hid (HB2.out.trans (hb3.mono HB2.out.size));have HK3:=hid (HK2.out.below hb3 HK2.out.lt);clear hR2 hb3 HK2 HB2;obtain⟨i0,hi0,hz0,hz1,hz2⟩:=info_parts Tryz.infoCel6;go_wp2_with (at_make;refine wpList_make_own _ rfl _ _ 30 rfl w3.heap.size 114 i0 _ 3 Tryz.underlying30 hi0 hz0 hz1 .i64 .i64 ps.length ps.length rfl rfl rfl (by rw[hz2];have:=HL.out;omega) (by unfold maxLen;have:=HL.out;omega) (Nat.le_refl _) ?_);intro w4 ho4 hg4;have HB34:Hid (Below w3.heap.size w3 w4):=hid ⟨hg4.os,hg4.tape,hg4.output,hg4.size,fun k hk=>hg4.block k hk (by simp)⟩;have HO4:Hid (OwnC 114 w4 w3.heap.size (.slice (some ⟨w3.heap.size,0,none⟩) 0 ps.length) []):=hid ho4;clear ho4 hg4 hi0 hz0 hz1 hz2 i0;go_wp2;go_loopw [5,26] (fun v i wr=>∃ (k:Nat),k≤ps.length∧i=.int .i64 k∧Hid (Below w3.heap.size w3 wr)∧Hid (OwnC 114 wr w3.heap.size v ((ps.take k).map (mvC bx bY)))) (fun _ i _=>ps.length - (intOf i).toNat)
  case atStart=>exact⟨0,Nat.zero_le _,rfl,HB34,HO4⟩
  case round=>
   clear HO4 HB34;obtain⟨k,hk,rfl,HB,HO⟩:=hrel;by_cases hlt:k < ps.length
   ·have HBw:=hid (HB3.out.trans (HB.out.mono HB3.out.size));obtain⟨b1,o1,e1,hbl,hc0,hc1,hc2⟩:=(HA.out.ext HBw.out).at_ hlt;subst e1;have HSN:=hid (home_snoc bx bY hlt);have hq:=HBD.out _ (List.getElem_mem hlt);obtain⟨q,hqe⟩:∃ q,q=ps[k]:=⟨_,rfl⟩
    rw[← hqe] at hc0 hc1 hc2 HSN hq;obtain⟨qx,qy,qs⟩:=q;dsimp only at hc0 hc1 hc2 HSN hq;clear hqe;have hcn:((ps.take k).map (mvC bx bY)).length < 4294967296:=by have:=HL.out;rw[List.length_map];have h2:=List.length_take_le k ps;omega
    obtain⟨acc,hacc⟩:∃ l,l=(ps.take k).map (mvC bx bY):=⟨_,rfl⟩
    rw[← hacc] at HSN HO hcn;clear hacc;have q0:=Blk.new wr 114 #[.int .i64 qx,.int .i64 qy,.int .i64 qs];have hnb:=below_new wr (.cells #[.int .i64 qx,.int .i64 qy,.int .i64 qs] 114);have hp1:=(HK3.out.below HB.out HK3.out.lt)
    have hp1:=hp1.below hnb hp1.lt;obtain⟨wa,hwa⟩:∃ wa,wa=wr.alloc (.cells #[.int .i64 qx,.int .i64 qy,.int .i64 qs] 114):=⟨_,rfl⟩
    obtain⟨pa,hpa⟩:∃ pa,pa=wr.heap.size:=⟨_,rfl⟩
    rw[← hwa] at q0 hnb hp1;rw[← hpa] at q0;have HBa:=hid (HB.out.trans (hnb.mono HB.out.size));have HOa:=hid (HO.out.ext hnb);have HWA:=hid hwa;have HPA:=hid hpa;have hw1:wrap64 ((k:Int)+1)=(k:Int)+1:=by have:=HL.out;unfold wrap64;omega
    have hw2:wrap64 (qx - bx)=qx - bx:=by have:=HLX.out;unfold wrap64;omega
    have hw3:wrap64 (qy - bY)=qy - bY:=by have:=HLY.out;unfold wrap64;omega
    have hbs:w3.heap.size≤wa.heap.size:=HBa.out.size;have x0:=q0.cell 0;have x1:=q0.cell 1;have x2:=q0.cell 2;have y0:=hp1.cell 0;have y1:=hp1.cell 1;have hown2:=HOa.out;clear hwa hpa hnb hp1 q0 HO HB hq HBw;go_upto_region 8 with fail
    rw[← HWA.out,← HPA.out];go_wp2_with (at_builtin;refine wpList_pushC rfl _ _ _ rfl w3.heap.size 114 Tryz.underlying30 Tryz.infoCel6 _ _ rfl hown2 _ _ _ rfl hcn hbs ?_);intro v' w9 ho9 hb9;have HO9:=hid ho9;clear hown2 ho9;rw[← HSN.out] at HO9;have HB9:=hid (HBa.out.trans hb9);clear hb9;go_wp2;go_roundw
    case rel=>exact⟨k+1,hlt,(by rw[hw1];rfl),HB9,HO9⟩
    case measure=>rw[hw1];exact meas_step5b hlt
   ·have dk:decide ((k:Int) < ps.length)=false:=decide_eq_false (by omega);have ek:k=ps.length:=by omega
    have HO1:=HO.out;rw[ek,List.take_length,← E.out] at HO1;obtain⟨A',c',hv,hcl,hnw⟩:=(HO1.low56 HB3.out.size).cls;have HCL:=hid hcl;have HNW:=hid hnw;subst hv;clear HO1 HO hcl hnw;go_wp2;go_ret;exact⟨A',c',rfl,HCL.out,.inr HNW.out,HB3.out.trans (HB.out.mono HB3.out.size)⟩
theorem wpList_pushCb {P:Program}{wr:World}{ops:Array Oper}{rest:List Oper}{o:Oper}{a:Act}{Q:Exit→Act→World→Prop}(hgd:o.guard=none)(s x:Operand)(t:TypeId)
  (ho:o.op=.call { callee:=.builtin .append,args:=#[s,x],argTypes:=#[t,t] })
  (base:Nat) (e:TypeId) (ht:P.underlying t=some (.slice e)) (hi:(P.info? e).map (fun i=>(i.zero,i.size,i.bytes))=some (some (.agg #[.int .i64 0,.int .i64 0,.int .i64 0]),3,24))
  (v:Value) (ps:List Cel) (hs:a.eval s=v) (hown:OwnC e wr base v ps)
  (p q r:Int) {g:Nat} (hb:Blk wr g e #[.int .i64 p,.int .i64 q,.int .i64 r]) (hx:a.eval x=.slice (some ⟨g,0,none⟩) 1 1)
  (hn:ps.length < 4294967296) (hbase:base≤wr.heap.size)
  (h:∀ v' w',OwnC e w' base v' (ps ++ [⟨p,q,r⟩])→Below base wr w'→wpList P ops Q rest (a.put o.dst v') w') :
  wpList P ops Q (o :: rest) a wr:=by
 obtain⟨i0,hi0,hz0,hz1,hz2⟩:=info_parts hi;have hrd:Reads wr (g+1) 3 (some ⟨g,0,none⟩) 1 [.int .i64 p,.int .i64 q,.int .i64 r]:=by
  refine⟨rfl,fun _=>⟨_,rfl,by simp,fun j u hu=>?_⟩⟩;rw[addr_add,Nat.zero_add,hb.cell j,← hu]
  simp
 refine wpList_append_any _ hgd s x t ho base e i0 _ 3 24 ht hi0 hz0 hz1 hz2 rfl (by decide) v ps.length _ hs hown _ _ 1 1 _ hx hrd (by simp[Value.oneCell']) (by unfold maxLen;omega) (by omega) hbase ?_;intro v' w' h3 hg hv;refine h v' w' (by unfold OwnC;rw[List.length_append,List.flatMap_append];exact h3) ?_;have hbr:∀ g,v.ownBlock=some g→base≤g:=by
  intro g hg2;rcases hown.2 with ⟨rfl,_⟩ | ⟨g',cap,cur,rfl,h4,h5,_⟩
  ·simp[Value.ownBlock] at hg2
  ·simp[Value.ownBlock] at hg2;omega
 exact⟨hg.os,hg.tape,hg.output,hg.size,fun j hj=>hg.block j (by omega) (fun e=>by have:=hbr j e.symm;omega)⟩
structure RhAS where
 b0:Bool
 b1:Bool
 b2:Bool
 b3:Bool
 b4:Bool
 b5:Bool
 b6:Bool
 b7:Bool
 b8:Bool
 b9:Bool
 b10:Bool
 b11:Bool
 b12:Bool
 b13:Bool
 b14:Bool
 b15:Bool
 b16:Bool
 b17:Bool
 b18:Bool
 b19:Bool
 b20:Bool
 b21:Bool
 b22:Bool
 b23:Bool
 v51:Value
 v52:Value
 v53:Value
 v54:Value
 v55:Value
 v56:Value
 v57:Value
 v58:Value
 v59:Value
 v60:Value
 v61:Value
 v62:Value
 v63:Value
 v64:Value
 v65:Value
 v66:Value
 v67:Value
 v68:Value
 v69:Value
 v70:Value
 v71:Value
 v72:Value
 v73:Value
 v6:Value
structure RhA (V:World)(bs:Nat)(acc:List Cel)(xv:Value)(gb:Nat)(go0:Nat)(pl:Nat)(pc:Nat)(i:Nat)(qx:Int)(qy:Int)(qs:Int)(bx:Int)(bY:Int)(s:RhAS)(w:World):Prop where
 h0:s.b0=true→s.v51=xv
 h1:s.b1=true→s.v52=.slice (some ⟨gb,go0,none⟩) pl pc
 h2:s.b2=true→s.v53=.int .i64 (i:Int)
 h3:s.b3=true→s.v54=.pointer (some ⟨gb,go0+i*3,none⟩)
 h4:s.b4=true→s.v55=.pointer (some ⟨gb,go0+i*3,none⟩)
 h5:s.b5=true→s.v56=.int .i64 qx
 h6:s.b6=true→s.v57=.int .i64 bx
 h7:s.b7=true→s.v58=.int .i64 (qx - bx)
 h8:s.b8=true→s.v59=.slice (some ⟨gb,go0,none⟩) pl pc
 h9:s.b9=true→s.v60=.int .i64 (i:Int)
 h10:s.b10=true→s.v61=.pointer (some ⟨gb,go0+i*3,none⟩)
 h11:s.b11=true→s.v62=.pointer (some ⟨gb,go0+i*3+1,none⟩)
 h12:s.b12=true→s.v63=.int .i64 qy
 h13:s.b13=true→s.v64=.int .i64 bY
 h14:s.b14=true→s.v65=.int .i64 (qy - bY)
 h15:s.b15=true→s.v66=.slice (some ⟨gb,go0,none⟩) pl pc
 h16:s.b16=true→s.v67=.int .i64 (i:Int)
 h17:s.b17=true→s.v68=.pointer (some ⟨gb,go0+i*3,none⟩)
 h18:s.b18=true→s.v69=.pointer (some ⟨gb,go0+i*3+2,none⟩)
 h19:s.b19=true→s.v70=.int .i64 qs
 h20:s.b20=true→s.v71=.agg #[.int .i64 (qx - bx),.int .i64 (qy - bY),.int .i64 qs]
 below:Below bs V w
 low:bs≤w.heap.size
 row:s.b22=false→OwnC 114 w bs xv acc
 sb:s.b21=true→s.b22=false→∃ g,s.v72=.slice (some ⟨g,0,none⟩) 1 1∧g < w.heap.size∧Blk w g 114 #[.int .i64 (qx - bx),.int .i64 (qy - bY),.int .i64 qs]
 wc:s.b22=true→∃ X c,s.v73=.slice X (acc.length+1) c∧OwnC 114 w bs (.slice X (acc.length+1) c) (acc ++ [⟨qx - bx,qy - bY,qs⟩])
 hx:s.b23=false→s.v6=xv
 he:s.b23=true→s.v6=s.v73
 oe:s.b23=true→s.b22=true
 oa:s.b22=true→s.b0=true∧s.b21=true
theorem run_min2i {P:Program}{w:World}(ts:Array TypeId)(t:TypeId)(x y:Int):(Builtin.min_ ts t #[.int .i64 x,.int .i64 y]).run P w=.ok (.int .i64 (min x y)) w:=by
 simp[Builtin.min_,Builtin.min2];omega
set_option maxHeartbeats 8000000 in
theorem rhome_any (A:Option Addr)(c:Nat)(ps:List Cel)(w:World)(ha:Cls w A ps) :
  Calls Tryz.prog 52 #[.slice A ps.length c] w (RetHm A ps w):=by
 have h2:=box_two ps;have hR:=hid (rright_any A c ps w ha);cases k2:(boxC ps).2 with
 | false=>
  have E:Hid (homeC ps=ps):=hid (by unfold homeC;rw[k2,if_neg Bool.false_ne_true]);have HA:=hid ha;rw[k2] at h2;cases hr:rightC ps with
  | false=>
   rw[hr] at hR;clear ha h2 k2 hr;go_enter Tryz.func52,Tryz.ntmps52;go_wp2_with (go_at_call 50;refine hR.out.mono ?_;rintro e w1 ⟨rfl,hb1⟩;refine Hid.out ?_);refine hid ?_;have HB1:=hid hb1;clear hb1 hR;go_wp2;go_ret;unfold RetHm;rw[E.out];exact⟨A,c,rfl,HA.out.ext HB1.out,.inl rfl,HB1.out⟩
  | true=>
   rw[hr] at hR h2;have hn:ps=[]:=by
    have:=h2.symm;rw[Bool.and_true,decide_eq_false_iff_not] at this;exact Classical.not_not.1 this
   have hl0:((ps.length:Int) == 0)=true:=by rw[hn];rfl
   have HL0:=hid hl0;clear ha h2 k2 hr hn hl0;go_enter Tryz.func52,Tryz.ntmps52;go_wp2_with (go_at_call 50;refine hR.out.mono ?_;rintro e w1 ⟨rfl,hb1⟩;refine Hid.out ?_);refine hid ?_;have HB1:=hid hb1;clear hb1 hR;have hl0:=HL0.out;go_wp2;go_ret;unfold RetHm;rw[E.out];exact⟨A,c,rfl,HA.out.ext HB1.out,.inl rfl,HB1.out⟩
 | true=>
  have hr:ps≠[]∧rightC ps=true:=by
   rw[k2] at h2;have:=h2.symm;rw[Bool.and_eq_true,decide_eq_true_eq] at this;exact this
  have hbd:=right_bd hr.2;have hxy:=box_xy k2;have hlx:=lo_bd (·.x) hr.1 (fun c hc=>(hbd c hc).1);have hly:=lo_bd (·.y) hr.1 (fun c hc=>(hbd c hc).2.1);have E:Hid (homeC ps=ps.map (mvC (lo (·.x) ps ps.length) (lo (·.y) ps ps.length))):=hid (by unfold homeC;rw[k2,if_pos rfl,hxy.1,hxy.2]);have hL:ps.length≤5000:=by
   have:=hr.2;unfold rightC at this;rw[Bool.and_eq_true,decide_eq_true_eq] at this;exact this.1
  have hpos:0 < ps.length:=List.length_pos_iff.2 hr.1;have hnz:((ps.length:Int) == 0)=false:=beq_false_of_ne (by omega);have HD0:Hid (∀ h:0 < ps.length,ps[0]'h=hdC ps):=hid (by
   intro h;cases ps with
   | nil=>exact absurd rfl hr.1
   | cons a l=>rfl)
  rw[hr.2] at hR;have HX0:Hid (lo (·.x) ps 0=(hdC ps).x∧lo (·.y) ps 0=(hdC ps).y):=hid ⟨rfl,rfl⟩;have HBD:=hid hbd;have HLX:=hid hlx;have HLY:=hid hly;have HL:=hid hL;have HA:=hid ha;have HPOS:=hid hpos;clear ha h2 k2 hr hbd hxy hlx hly hL hpos;go_enter Tryz.func52,Tryz.ntmps52;go_upto_region 3 with (go_at_call 50;refine hR.out.mono ?_;rintro e w1 ⟨rfl,hb1⟩;refine Hid.out ?_)
  refine hid ?_;have HB1:=hid hb1;obtain⟨gb,go0,e0,-,g0,g1,-⟩:=(HA.out.ext hb1).at_ HPOS.out;have HA1:=hid (HA.out.ext hb1);subst e0;rw[Nat.zero_mul,Nat.add_zero] at g0 g1;rw[HD0.out,← HX0.out.1] at g0;rw[HD0.out,← HX0.out.2] at g1;have hpos:=HPOS.out;clear hb1 hR hnz HA HX0;go_upto_region 3 with fail
  go_quiet (fail)
  obtain⟨w2,hw2⟩:∃ W,W=w1.drewN nq:=⟨_,rfl⟩
  rw[← hw2];have HB2:Hid (Below w.heap.size w w2):=hid (by rw[hw2];exact below_drewN HB1.out _);have HA2:Hid (Cls w2 (some ⟨gb,go0,none⟩) ps):=hid (by rw[hw2];exact HA1.out.drewN _);clear hw2 g0 g1 HA1 HB1;go_wp2;go_loopw [3,4,5] (fun x y i wr=>∃ (kk q:Nat),kk≤ps.length∧i=.int .i64 kk∧x=.int .i64 (lo (·.x) ps kk)∧y=.int .i64 (lo (·.y) ps kk)∧wr=w2.drewN q) (fun _ _ i _=>ps.length - (intOf i).toNat)
  case atStart=>exact⟨0,0,Nat.zero_le _,rfl,rfl,rfl,rfl⟩
  case round=>
   obtain⟨kk,q,hk,rfl,rfl,rfl,rfl⟩:=hrel;by_cases hlt:kk < ps.length
   ·obtain⟨b1,o1,e1,-,g0,g1,-⟩:=HA2.out.at_ hlt;injection e1 with e1
    injection e1 with e1 e2
    subst e1 e2;have hw1:wrap64 ((kk:Int)+1)=(kk:Int)+1:=by have:=HL.out;unfold wrap64;omega
    have HS:=hid (And.intro (lo_snoc (·.x) hlt) (lo_snoc (·.y) hlt));have hmin:=fun (ts:Array TypeId) (t:TypeId) (x y:Int) (W:World)=>run_min2i (P:=Tryz.prog) (w:=W) ts t x y;obtain⟨lx,hlx⟩:∃ z,z=lo (·.x) ps kk:=⟨_,rfl⟩
    obtain⟨ly,hly⟩:∃ z,z=lo (·.y) ps kk:=⟨_,rfl⟩
    rw[← hlx,← hly] at HS ⊢;clear hlx hly;go_upto_region 7 with fail
    go_quiet (fail)
    go_wp2;go_roundw
    case rel=>exact⟨kk+1,_,hlt,(by rw[hw1];rfl),by rw[HS.out.1],by rw[HS.out.2],rfl⟩
    case measure=>rw[hw1];exact meas_step5b hlt
   ·have dk:decide ((kk:Int) < ps.length)=false:=decide_eq_false (by omega);have ek:kk=ps.length:=by omega
    have HLX2:=hid (HLX.out kk);have HLY2:=hid (HLY.out kk);have E2:Hid (homeC ps=ps.map (mvC (lo (·.x) ps kk) (lo (·.y) ps kk))):=hid (by rw[ek];exact E.out);obtain⟨bx,hbx⟩:∃ z,z=lo (·.x) ps kk:=⟨_,rfl⟩
    obtain⟨bY,hbY⟩:∃ z,z=lo (·.y) ps kk:=⟨_,rfl⟩
    rw[← hbx] at HLX2 E2 ⊢;rw[← hbY] at HLY2 E2 ⊢;have HB3:Hid (Below w.heap.size w (w2.drewN q)):=hid (below_drewN HB2.out _);have HA3:Hid (Cls (w2.drewN q) (some ⟨gb,go0,none⟩) ps):=hid (HA2.out.drewN _);obtain⟨w3,hw3⟩:∃ W,W=w2.drewN q:=⟨_,rfl⟩
    rw[← hw3] at HB3 HA3 ⊢;clear hbx hbY hw3 E HLX HLY HA2 HB2 ek;go_wp2;clear dk;go_loopw [6,7] (fun v i wr=>∃ (k:Nat),k≤ps.length∧i=.int .i64 k∧Hid (Below w3.heap.size w3 wr)∧Hid (OwnC 114 wr w3.heap.size v ((ps.take k).map (mvC bx bY)))) (fun _ i _=>ps.length - (intOf i).toNat)
    case atStart=>exact⟨0,Nat.zero_le _,rfl,hid (Below.refl _ _),hid (OwnC.nil _ _ _)⟩
    case round=>
     obtain⟨k,hk,rfl,HB,HO⟩:=hrel;by_cases hlt:k < ps.length
     ·obtain⟨b1,o1,e1,hbl,g0,g1,g2⟩:=HA3.out.at_ hlt;injection e1 with e1
      injection e1 with e1 e2
      subst e1 e2;have HSN:=hid (home_snoc bx bY hlt);have hq:=HBD.out _ (List.getElem_mem hlt);obtain⟨qq,hqe⟩:∃ q,q=ps[k]:=⟨_,rfl⟩
      rw[← hqe] at g0 g1 g2 HSN hq;obtain⟨qx,qy,qs⟩:=qq;dsimp only at g0 g1 g2 HSN hq;have hw1:wrap64 ((k:Int)+1)=(k:Int)+1:=by have:=HL.out;unfold wrap64;omega
      have hw2:wrap64 (qx - bx)=qx - bx:=by have:=HLX2.out;unfold wrap64;omega
      have hw3:wrap64 (qy - bY)=qy - bY:=by have:=HLY2.out;unfold wrap64;omega
      obtain⟨acc,hacc⟩:∃ l,l=(ps.take k).map (mvC bx bY):=⟨_,rfl⟩
      rw[← hacc] at HSN HO;have HROW:=HO;have HAL:Hid (acc.length < 4294967296):=hid (by have:=HL.out;rw[hacc,List.length_map];have h2:=List.length_take_le k ps;omega);have HBS:Hid (w3.heap.size≤wr.heap.size):=hid HB.out.size;have HG:=hid (And.intro g0 (And.intro g1 g2));have HLT:=hid hlt;have HBL:=hid hbl;clear hqe hacc hq HO g0 g1 g2 hbl;go_upto_region 12 with fail
      have hnz2:((ps.length:Int) == 0)=false:=beq_false_of_ne (by have:=HPOS.out;omega);simp only[hnz2];clear hlt hnz2;refine wp_region_J (by kernel_rfl) (fun listed act w'=>∃ s:RhAS,listed=#[s.b0,s.b1,s.b2,s.b3,s.b4,s.b5,s.b6,s.b7,s.b8,s.b9,s.b10,s.b11,s.b12,s.b13,s.b14,s.b15,s.b16,s.b17,s.b18,s.b19,s.b20,s.b21,s.b22,s.b23]∧act=Act.mk #[.slice (some ⟨gb,go0,none⟩) ps.length c,undef,.slice none 0 0,.int .i64 bx,.int .i64 bY,.int .i64 (kk:Int),s.v6,.int .i64 (k:Int),.slice (some ⟨gb,go0,none⟩) ps.length c,.bool true,.bool false,.bool false,.slice (some ⟨gb,go0,none⟩) ps.length c,.int .i64 (ps.length:Int),.bool false,.bool false,undef,.slice (some ⟨gb,go0,none⟩) ps.length c,.pointer (some ⟨gb,go0,none⟩),.pointer (some ⟨gb,go0,none⟩),.int .i64 (lo (fun x=>x.x) ps 0),.slice (some ⟨gb,go0,none⟩) ps.length c,.pointer (some ⟨gb,go0,none⟩),.pointer (some ⟨gb,go0+1,none⟩),.int .i64 (lo (fun x=>x.y) ps 0),.int .i64 (kk:Int),.slice (some ⟨gb,go0,none⟩) ps.length c,.int .i64 (ps.length:Int),.bool false,u29,u30,u31,u32,u33,u34,u35,u36,u37,u38,u39,u40,u41,u42,u43,u44,.int .i64 (k:Int),.slice (some ⟨gb,go0,none⟩) ps.length c,.int .i64 (ps.length:Int),.bool true,u49,u50,s.v51,s.v52,s.v53,s.v54,s.v55,s.v56,s.v57,s.v58,s.v59,s.v60,s.v61,s.v62,s.v63,s.v64,s.v65,s.v66,s.v67,s.v68,s.v69,s.v70,s.v71,s.v72,s.v73,undef] []∧RhA w3 w3.heap.size acc u6 gb go0 ps.length c k qx qy qs bx bY s w') ?_ ?_ ?_
      ·exact⟨⟨_,_,_,_,_,_,_,_,_,_,_,_,_,_,_,_,_,_,_,_,_,_,_,_,_,_,_,_,_,_,_,_,_,_,_,_,_,_,_,_,_,_,_,_,_,_,_,_⟩,rfl,rfl,⟨(fun h=>by cases h),(fun h=>by cases h),(fun h=>by cases h),(fun h=>by cases h),(fun h=>by cases h),(fun h=>by cases h),(fun h=>by cases h),(fun h=>by cases h),(fun h=>by cases h),(fun h=>by cases h),(fun h=>by cases h),(fun h=>by cases h),(fun h=>by cases h),(fun h=>by cases h),(fun h=>by cases h),(fun h=>by cases h),(fun h=>by cases h),(fun h=>by cases h),(fun h=>by cases h),(fun h=>by cases h),(fun h=>by cases h),HB.out.drew,HBS.out,(fun _=>HROW.out),(fun h=>by cases h),(fun h=>by cases h),(fun _=>rfl),(fun h=>by cases h),(fun h=>by cases h),(fun h=>by cases h)⟩⟩
      ·rintro i listed act w' hi ⟨⟨b0,b1,b2,b3,b4,b5,b6,b7,b8,b9,b10,b11,b12,b13,b14,b15,b16,b17,b18,b19,b20,b21,b22,b23,v51,v52,v53,v54,v55,v56,v57,v58,v59,v60,v61,v62,v63,v64,v65,v66,v67,v68,v69,v70,v71,v72,v73,v6⟩,rfl,rfl,H⟩;dsimp only at hi ⊢;have hi16:i < 24:=by
        obtain⟨-,o,ho,-⟩:=mem_ready.1 hi;exact (Array.getElem?_eq_some_iff.1 ho).1
       obtain rfl | rfl | rfl | rfl | rfl | rfl | rfl | rfl | rfl | rfl | rfl | rfl | rfl | rfl | rfl | rfl | rfl | rfl | rfl | rfl | rfl | rfl | rfl | rfl:i=0∨i=1∨i=2∨i=3∨i=4∨i=5∨i=6∨i=7∨i=8∨i=9∨i=10∨i=11∨i=12∨i=13∨i=14∨i=15∨i=16∨i=17∨i=18∨i=19∨i=20∨i=21∨i=22∨i=23:=by clear hi H;omega
       all_goals clear hi16
       ·have hn0:b0=false:=(mem_ready.1 hi).1;have hE:b23=false:=by
         cases hb:b23 with
         | false=>rfl
         | true=>have h1:=(H.oa (H.oe hb)).1;rw[hn0] at h1;cases h1
        have e0:=H.hx hE;subst e0;have hA:b22=false:=by
         cases hb:b22 with
         | false=>rfl
         | true=>have h1:=(H.oa hb).1;rw[hn0] at h1;cases h1
        refine wpOp_hidden rfl fun K hK=>?_;go_wp2;refine OnlyN.mk (hK.out _ _ ⟨⟨true,_,_,_,_,_,_,_,_,_,_,_,_,_,_,_,_,_,_,_,_,_,_,_,_,_,_,_,_,_,_,_,_,_,_,_,_,_,_,_,_,_,_,_,_,_,_,_⟩,rfl,rfl,{ H with h0:=fun _=>rfl,oa:=fun h=>⟨rfl,(H.oa h).2⟩ }⟩)
       ·refine wpOp_hidden rfl fun K hK=>?_;go_wp2;refine OnlyN.mk (hK.out _ _ ⟨⟨_,true,_,_,_,_,_,_,_,_,_,_,_,_,_,_,_,_,_,_,_,_,_,_,_,.slice (some ⟨gb,go0,none⟩) ps.length c,_,_,_,_,_,_,_,_,_,_,_,_,_,_,_,_,_,_,_,_,_,_⟩,rfl,rfl,{ H with h1:=fun _=>rfl }⟩)
       ·refine wpOp_hidden rfl fun K hK=>?_;go_wp2;refine OnlyN.mk (hK.out _ _ ⟨⟨_,_,true,_,_,_,_,_,_,_,_,_,_,_,_,_,_,_,_,_,_,_,_,_,_,_,.int .i64 (k:Int),_,_,_,_,_,_,_,_,_,_,_,_,_,_,_,_,_,_,_,_,_⟩,rfl,rfl,{ H with h2:=fun _=>rfl }⟩)
       ·have e1:v52=.slice (some ⟨gb,go0,none⟩) ps.length c:=H.h1 (ready_dep hi 1 (by kernel_rfl));subst e1;have e2:v53=.int .i64 (k:Int):=H.h2 (ready_dep hi 2 (by kernel_rfl));subst e2;have hx:=HLT.out;refine wpOp_hidden rfl fun K hK=>?_;go_wp2;refine OnlyN.mk (hK.out _ _ ⟨⟨_,_,_,true,_,_,_,_,_,_,_,_,_,_,_,_,_,_,_,_,_,_,_,_,_,_,_,.pointer (some ⟨gb,go0+k*3,none⟩),_,_,_,_,_,_,_,_,_,_,_,_,_,_,_,_,_,_,_,_⟩,rfl,rfl,{ H with h3:=fun _=>rfl }⟩)
       ·have e3:v54=.pointer (some ⟨gb,go0+k*3,none⟩):=H.h3 (ready_dep hi 3 (by kernel_rfl));subst e3;refine wpOp_hidden rfl fun K hK=>?_;go_wp2;refine OnlyN.mk (hK.out _ _ ⟨⟨_,_,_,_,true,_,_,_,_,_,_,_,_,_,_,_,_,_,_,_,_,_,_,_,_,_,_,_,.pointer (some ⟨gb,go0+k*3,none⟩),_,_,_,_,_,_,_,_,_,_,_,_,_,_,_,_,_,_,_⟩,rfl,rfl,{ H with h4:=fun _=>rfl }⟩)
       ·have e4:v55=.pointer (some ⟨gb,go0+k*3,none⟩):=H.h4 (ready_dep hi 4 (by kernel_rfl));subst e4;have cc:=(H.below.cell HBL.out).trans HG.out.1;refine wpOp_hidden rfl fun K hK=>?_;go_wp2;refine OnlyN.mk (hK.out _ _ ⟨⟨_,_,_,_,_,true,_,_,_,_,_,_,_,_,_,_,_,_,_,_,_,_,_,_,_,_,_,_,_,.int .i64 qx,_,_,_,_,_,_,_,_,_,_,_,_,_,_,_,_,_,_⟩,rfl,rfl,{ H with h5:=fun _=>rfl }⟩)
       ·refine wpOp_hidden rfl fun K hK=>?_;go_wp2;refine OnlyN.mk (hK.out _ _ ⟨⟨_,_,_,_,_,_,true,_,_,_,_,_,_,_,_,_,_,_,_,_,_,_,_,_,_,_,_,_,_,_,.int .i64 bx,_,_,_,_,_,_,_,_,_,_,_,_,_,_,_,_,_⟩,rfl,rfl,{ H with h6:=fun _=>rfl }⟩)
       ·have e5:v56=.int .i64 qx:=H.h5 (ready_dep hi 5 (by kernel_rfl));subst e5;have e6:v57=.int .i64 bx:=H.h6 (ready_dep hi 6 (by kernel_rfl));subst e6;refine wpOp_hidden rfl fun K hK=>?_;go_wp2;refine OnlyN.mk (hK.out _ _ ⟨⟨_,_,_,_,_,_,_,true,_,_,_,_,_,_,_,_,_,_,_,_,_,_,_,_,_,_,_,_,_,_,_,.int .i64 (qx - bx),_,_,_,_,_,_,_,_,_,_,_,_,_,_,_,_⟩,rfl,rfl,{ H with h7:=fun _=>rfl }⟩)
       ·refine wpOp_hidden rfl fun K hK=>?_;go_wp2;refine OnlyN.mk (hK.out _ _ ⟨⟨_,_,_,_,_,_,_,_,true,_,_,_,_,_,_,_,_,_,_,_,_,_,_,_,_,_,_,_,_,_,_,_,.slice (some ⟨gb,go0,none⟩) ps.length c,_,_,_,_,_,_,_,_,_,_,_,_,_,_,_⟩,rfl,rfl,{ H with h8:=fun _=>rfl }⟩)
       ·refine wpOp_hidden rfl fun K hK=>?_;go_wp2;refine OnlyN.mk (hK.out _ _ ⟨⟨_,_,_,_,_,_,_,_,_,true,_,_,_,_,_,_,_,_,_,_,_,_,_,_,_,_,_,_,_,_,_,_,_,.int .i64 (k:Int),_,_,_,_,_,_,_,_,_,_,_,_,_,_⟩,rfl,rfl,{ H with h9:=fun _=>rfl }⟩)
       ·have e8:v59=.slice (some ⟨gb,go0,none⟩) ps.length c:=H.h8 (ready_dep hi 8 (by kernel_rfl));subst e8;have e9:v60=.int .i64 (k:Int):=H.h9 (ready_dep hi 9 (by kernel_rfl));subst e9;have hx:=HLT.out;refine wpOp_hidden rfl fun K hK=>?_;go_wp2;refine OnlyN.mk (hK.out _ _ ⟨⟨_,_,_,_,_,_,_,_,_,_,true,_,_,_,_,_,_,_,_,_,_,_,_,_,_,_,_,_,_,_,_,_,_,_,.pointer (some ⟨gb,go0+k*3,none⟩),_,_,_,_,_,_,_,_,_,_,_,_,_⟩,rfl,rfl,{ H with h10:=fun _=>rfl }⟩)
       ·have e10:v61=.pointer (some ⟨gb,go0+k*3,none⟩):=H.h10 (ready_dep hi 10 (by kernel_rfl));subst e10;refine wpOp_hidden rfl fun K hK=>?_;go_wp2;refine OnlyN.mk (hK.out _ _ ⟨⟨_,_,_,_,_,_,_,_,_,_,_,true,_,_,_,_,_,_,_,_,_,_,_,_,_,_,_,_,_,_,_,_,_,_,_,.pointer (some ⟨gb,go0+k*3+1,none⟩),_,_,_,_,_,_,_,_,_,_,_,_⟩,rfl,rfl,{ H with h11:=fun _=>rfl }⟩)
       ·have e11:v62=.pointer (some ⟨gb,go0+k*3+1,none⟩):=H.h11 (ready_dep hi 11 (by kernel_rfl));subst e11;have cc:=(H.below.cell HBL.out).trans HG.out.2.1;refine wpOp_hidden rfl fun K hK=>?_;go_wp2;refine OnlyN.mk (hK.out _ _ ⟨⟨_,_,_,_,_,_,_,_,_,_,_,_,true,_,_,_,_,_,_,_,_,_,_,_,_,_,_,_,_,_,_,_,_,_,_,_,.int .i64 qy,_,_,_,_,_,_,_,_,_,_,_⟩,rfl,rfl,{ H with h12:=fun _=>rfl }⟩)
       ·refine wpOp_hidden rfl fun K hK=>?_;go_wp2;refine OnlyN.mk (hK.out _ _ ⟨⟨_,_,_,_,_,_,_,_,_,_,_,_,_,true,_,_,_,_,_,_,_,_,_,_,_,_,_,_,_,_,_,_,_,_,_,_,_,.int .i64 bY,_,_,_,_,_,_,_,_,_,_⟩,rfl,rfl,{ H with h13:=fun _=>rfl }⟩)
       ·have e12:v63=.int .i64 qy:=H.h12 (ready_dep hi 12 (by kernel_rfl));subst e12;have e13:v64=.int .i64 bY:=H.h13 (ready_dep hi 13 (by kernel_rfl));subst e13;refine wpOp_hidden rfl fun K hK=>?_;go_wp2;refine OnlyN.mk (hK.out _ _ ⟨⟨_,_,_,_,_,_,_,_,_,_,_,_,_,_,true,_,_,_,_,_,_,_,_,_,_,_,_,_,_,_,_,_,_,_,_,_,_,_,.int .i64 (qy - bY),_,_,_,_,_,_,_,_,_⟩,rfl,rfl,{ H with h14:=fun _=>rfl }⟩)
       ·refine wpOp_hidden rfl fun K hK=>?_;go_wp2;refine OnlyN.mk (hK.out _ _ ⟨⟨_,_,_,_,_,_,_,_,_,_,_,_,_,_,_,true,_,_,_,_,_,_,_,_,_,_,_,_,_,_,_,_,_,_,_,_,_,_,_,.slice (some ⟨gb,go0,none⟩) ps.length c,_,_,_,_,_,_,_,_⟩,rfl,rfl,{ H with h15:=fun _=>rfl }⟩)
       ·refine wpOp_hidden rfl fun K hK=>?_;go_wp2;refine OnlyN.mk (hK.out _ _ ⟨⟨_,_,_,_,_,_,_,_,_,_,_,_,_,_,_,_,true,_,_,_,_,_,_,_,_,_,_,_,_,_,_,_,_,_,_,_,_,_,_,_,.int .i64 (k:Int),_,_,_,_,_,_,_⟩,rfl,rfl,{ H with h16:=fun _=>rfl }⟩)
       ·have e15:v66=.slice (some ⟨gb,go0,none⟩) ps.length c:=H.h15 (ready_dep hi 15 (by kernel_rfl));subst e15;have e16:v67=.int .i64 (k:Int):=H.h16 (ready_dep hi 16 (by kernel_rfl));subst e16;have hx:=HLT.out;refine wpOp_hidden rfl fun K hK=>?_;go_wp2;refine OnlyN.mk (hK.out _ _ ⟨⟨_,_,_,_,_,_,_,_,_,_,_,_,_,_,_,_,_,true,_,_,_,_,_,_,_,_,_,_,_,_,_,_,_,_,_,_,_,_,_,_,_,.pointer (some ⟨gb,go0+k*3,none⟩),_,_,_,_,_,_⟩,rfl,rfl,{ H with h17:=fun _=>rfl }⟩)
       ·have e17:v68=.pointer (some ⟨gb,go0+k*3,none⟩):=H.h17 (ready_dep hi 17 (by kernel_rfl));subst e17;refine wpOp_hidden rfl fun K hK=>?_;go_wp2;refine OnlyN.mk (hK.out _ _ ⟨⟨_,_,_,_,_,_,_,_,_,_,_,_,_,_,_,_,_,_,true,_,_,_,_,_,_,_,_,_,_,_,_,_,_,_,_,_,_,_,_,_,_,_,.pointer (some ⟨gb,go0+k*3+2,none⟩),_,_,_,_,_⟩,rfl,rfl,{ H with h18:=fun _=>rfl }⟩)
       ·have e18:v69=.pointer (some ⟨gb,go0+k*3+2,none⟩):=H.h18 (ready_dep hi 18 (by kernel_rfl));subst e18;have cc:=(H.below.cell HBL.out).trans HG.out.2.2;refine wpOp_hidden rfl fun K hK=>?_;go_wp2;refine OnlyN.mk (hK.out _ _ ⟨⟨_,_,_,_,_,_,_,_,_,_,_,_,_,_,_,_,_,_,_,true,_,_,_,_,_,_,_,_,_,_,_,_,_,_,_,_,_,_,_,_,_,_,_,.int .i64 qs,_,_,_,_⟩,rfl,rfl,{ H with h19:=fun _=>rfl }⟩)
       ·have e7:v58=.int .i64 (qx - bx):=H.h7 (ready_dep hi 7 (by kernel_rfl));subst e7;have e14:v65=.int .i64 (qy - bY):=H.h14 (ready_dep hi 14 (by kernel_rfl));subst e14;have e19:v70=.int .i64 qs:=H.h19 (ready_dep hi 19 (by kernel_rfl));subst e19;refine wpOp_hidden rfl fun K hK=>?_;go_wp2;refine OnlyN.mk (hK.out _ _ ⟨⟨_,_,_,_,_,_,_,_,_,_,_,_,_,_,_,_,_,_,_,_,true,_,_,_,_,_,_,_,_,_,_,_,_,_,_,_,_,_,_,_,_,_,_,_,.agg #[.int .i64 (qx - bx),.int .i64 (qy - bY),.int .i64 qs],_,_,_⟩,rfl,rfl,{ H with h20:=fun _=>rfl }⟩)
       ·have hn21:b21=false:=(mem_ready.1 hi).1;have hA:b22=false:=by
         cases hb:b22 with
         | false=>rfl
         | true=>have h1:=(H.oa hb).2;rw[hn21] at h1;cases h1
        have e20:v71=.agg #[.int .i64 (qx - bx),.int .i64 (qy - bY),.int .i64 qs]:=H.h20 (ready_dep hi 20 (by kernel_rfl));subst e20;have hb9:=below_new w' (.cells #[.int .i64 (qx - bx),.int .i64 (qy - bY),.int .i64 qs] 114);have HB9:=hid hb9;have HK9:=hid (Blk.new w' 114 #[.int .i64 (qx - bx),.int .i64 (qy - bY),.int .i64 qs]);clear hb9;refine wpOp_hidden rfl fun K hK=>?_;go_wp2;refine OnlyN.mk (hK.out _ _ ⟨⟨_,_,_,_,_,_,_,_,_,_,_,_,_,_,_,_,_,_,_,_,_,true,_,_,_,_,_,_,_,_,_,_,_,_,_,_,_,_,_,_,_,_,_,_,_,_,_,_⟩,rfl,rfl,{ H with below:=H.below.trans (HB9.out.mono H.low),low:=Nat.le_trans H.low HB9.out.size,row:=fun h=>(H.row h).ext HB9.out,sb:=fun _ _=>⟨_,rfl,HK9.out.lt,HK9.out⟩,wc:=fun h=>(Bool.false_ne_true (hA.symm.trans h)).elim,oa:=fun h=>(Bool.false_ne_true (hA.symm.trans h)).elim }⟩)
       ·have hn22:b22=false:=(mem_ready.1 hi).1;have b0t:=(ready_dep hi 0 (by kernel_rfl))
        have bBt:=(ready_dep hi 21 (by kernel_rfl))
        have hE:b23=false:=by
         cases hb:b23 with
         | false=>rfl
         | true=>have h1:=H.oe hb;rw[hn22] at h1;cases h1
        have e0:=H.h0 b0t;subst e0;obtain⟨g,hv,hg,hblk⟩:=H.sb bBt hn22;subst hv;have hrow:=H.row hn22;have hws:=H.low;have hal:=HAL.out;refine wpOp_hidden rfl fun K hK=>?_;refine wpList_pushCb rfl _ _ _ rfl _ 114 Tryz.underlying30 Tryz.infoCel6 _ _ rfl hrow _ _ _ hblk rfl hal hws ?_;intro xv' w6 ho6 hb6;obtain⟨xA',xc',hxv',-,-⟩:=ho6.cls;rw[List.length_append,List.length_singleton] at hxv';subst hxv';have HO6:=hid ho6;have HB6:=hid hb6;clear ho6 hb6 hrow hal hws hblk;go_wp2;refine OnlyN.mk (hK.out _ _ ⟨⟨_,_,_,_,_,_,_,_,_,_,_,_,_,_,_,_,_,_,_,_,_,_,true,_,_,_,_,_,_,_,_,_,_,_,_,_,_,_,_,_,_,_,_,_,_,_,_,_⟩,rfl,rfl,{ H with below:=H.below.trans HB6.out,low:=Nat.le_trans H.low HB6.out.size,row:=fun h=>(by cases h),sb:=fun _ h=>(by cases h),wc:=fun _=>⟨_,_,rfl,HO6.out⟩,he:=fun h=>(Bool.false_ne_true (hE.symm.trans h)).elim,oe:=fun _=>rfl,oa:=fun _=>⟨b0t,bBt⟩ }⟩)
       ·have bAt:=(ready_dep hi 22 (by kernel_rfl))
        obtain⟨xA',xc',hv,ho6⟩:=H.wc bAt;subst hv;clear ho6;refine wpOp_hidden rfl fun K hK=>?_;go_wp2;refine OnlyN.mk (hK.out _ _ ⟨⟨_,_,_,_,_,_,_,_,_,_,_,_,_,_,_,_,_,_,_,_,_,_,_,true,_,_,_,_,_,_,_,_,_,_,_,_,_,_,_,_,_,_,_,_,_,_,_,_⟩,rfl,rfl,{ H with hx:=fun h=>(by cases h),he:=fun _=>rfl,oe:=fun _=>bAt }⟩)
      ·rintro listed act w' hr ⟨⟨b0,b1,b2,b3,b4,b5,b6,b7,b8,b9,b10,b11,b12,b13,b14,b15,b16,b17,b18,b19,b20,b21,b22,b23,v51,v52,v53,v54,v55,v56,v57,v58,v59,v60,v61,v62,v63,v64,v65,v66,v67,v68,v69,v70,v71,v72,v73,v6⟩,rfl,rfl,H⟩;dsimp only at hr ⊢;have hd:=ready_done hr (by kernel_rfl) (by kernel_rfl);try dsimp only
       have bAt:=hd 22 (by decide);have bEt:=hd 23 (by decide);obtain⟨X,c9,hv,ho⟩:=H.wc bAt;have he:=H.he bEt;rw[hv] at he;subst he;have hb:=H.below;have HO9:Hid (OwnC 114 w' w3.heap.size (.slice X (acc.length+1) c9) ((ps.take (k+1)).map (mvC bx bY))):=hid (by rw[HSN.out];exact ho);have HB9:=hid (hb);have hlt:=HLT.out;clear H hr hd ho hb bAt bEt hv;go_wp2;go_roundw
       case rel=>exact⟨k+1,hlt,(by first | rfl | omega),(by first | exact HO9 | (have h:=HO9.out;rw[List.map_take] at h;exact hid h))⟩
       case measure=>(try rw[hw1]);exact meas_step5b hlt
     ·have dk:decide ((k:Int) < ps.length)=false:=decide_eq_false (by omega);have ek:k=ps.length:=by omega
      have HO1:=HO.out;rw[ek,List.take_length,← E2.out] at HO1;obtain⟨A',c',hv,hcl,hnw⟩:=(HO1.low56 HB3.out.size).cls;have HCL:=hid hcl;have HNW:=hid hnw;subst hv;clear HO1 HO hcl hnw;go_wp2;go_ret;exact⟨A',c',rfl,HCL.out,.inr HNW.out,HB3.out.trans (HB.out.mono HB3.out.size)⟩
end Go.Proofs.YtcfelnhmifkelaaGreatDoor
namespace Go.Proofs.YtcfelnhmifkelaaGreatDoor
open Go.RowKit
set_option maxRecDepth 100000
set_option linter.unusedVariables false
set_option linter.unusedSimpArgs false
def cmdB (c:Cmd)(cv:Value):Array Value:=#[.int .i64 c.kind,.int .i64 c.x,.int .i64 c.y,.int .i64 c.n,.int .i64 c.m,.string (nmV c),cv,.int .i64 c.p,.int .i64 c.dx,.int .i64 c.dy]
def RetCm (r:Cmd × Int)(w:World)(e:Ending)(w':World):Prop:=∃ A k,e=.returned (.tuple #[cmdV r.1 (nmV r.1) (.slice A r.1.cells.length k),.int .i64 r.2])∧Cls w' A r.1.cells∧NewA w.heap.size A∧Below w.heap.size w w'
theorem RetCm.bad {r:Cmd × Int}{w w':World}{k:Int}(h:r=(cmd0,k)) (hb:Below w.heap.size w w'):RetCm r w (.returned (.tuple #[.agg #[.int .i64 0,.int .i64 0,.int .i64 0,.int .i64 0,.int .i64 0,.string ⟨#[]⟩,.slice none 0 0,.int .i64 0,.int .i64 0,.int .i64 0],.int .i64 k])) w':=by
 subst h;exact⟨none,0,rfl,Cls.nil,NewA.none_ _,hb⟩
theorem RetCm.good {r:Cmd × Int}{c:Cmd}{A:Option Addr}{k:Nat}{w w':World}(h:r=(c,0)) (hc:Cls w' A c.cells)(hn:NewA w.heap.size A)(hb:Below w.heap.size w w'):RetCm r w (.returned (.tuple #[.agg (cmdB c (.slice A c.cells.length k)),.int .i64 0])) w':=by
 subst h;exact⟨A,k,rfl,hc,hn,hb⟩
theorem results_ct56 {P:Program}{fn:Func}{p u:Tmp}{ty:TypeId}(h:fn.results=#[.cell p ty,.tmp u])(tmps:Array Value)(w:World)(g:Nat)(t:TypeId)(cs:Array Value)(fr:Nat × Nat)(d:TypeDesc)
  (hp:tmps.getD p undef=.pointer (some ⟨g,0,none⟩)) (hg:w.heap[g]?=some (.cells cs t fr))
  (hu:P.underlying ty=some d) (hd:(match d with | .struct _ | .array _ _=>true | _=>false)=true) (hi:(P.info? ty).map (·.size)=some cs.size) :
  (results fn tmps).run P w=.ok (.tuple #[.agg cs,tmps.getD u undef]) w:=by
 rw[results_cell_tmp h,hp];simp[asAddr,run_loadVar_row w g t ty cs fr d hg hu hd hi,Result.andThen]
def set10 (w:World)(g:Nat)(v0 v1 v2 v3 v4 v5 v6 v7 v8 v9:Value):World:=((((((((((w.setCell ⟨g,0,none⟩ v0).setCell ⟨g,1,none⟩ v1).setCell ⟨g,2,none⟩ v2).setCell ⟨g,3,none⟩ v3).setCell ⟨g,4,none⟩ v4).setCell ⟨g,5,none⟩ v5).setCell ⟨g,6,none⟩ v6).setCell ⟨g,7,none⟩ v7).setCell ⟨g,8,none⟩ v8).setCell ⟨g,9,none⟩ v9)
theorem blk_set10 {w:World}{g:Nat}{t:TypeId}{u0 u1 u2 u3 u4 u5 u6 u7 u8 u9:Value}(h:Blk w g t #[u0,u1,u2,u3,u4,u5,u6,u7,u8,u9])(v0 v1 v2 v3 v4 v5 v6 v7 v8 v9:Value):Blk (set10 w g v0 v1 v2 v3 v4 v5 v6 v7 v8 v9) g t #[v0,v1,v2,v3,v4,v5,v6,v7,v8,v9]:=by
 have h0:Blk _ g t #[v0,u1,u2,u3,u4,u5,u6,u7,u8,u9]:=h.set_ 0 v0;have h1:Blk _ g t #[v0,v1,u2,u3,u4,u5,u6,u7,u8,u9]:=h0.set_ 1 v1;have h2:Blk _ g t #[v0,v1,v2,u3,u4,u5,u6,u7,u8,u9]:=h1.set_ 2 v2;have h3:Blk _ g t #[v0,v1,v2,v3,u4,u5,u6,u7,u8,u9]:=h2.set_ 3 v3;have h4:Blk _ g t #[v0,v1,v2,v3,v4,u5,u6,u7,u8,u9]:=h3.set_ 4 v4;have h5:Blk _ g t #[v0,v1,v2,v3,v4,v5,u6,u7,u8,u9]:=h4.set_ 5 v5;have h6:Blk _ g t #[v0,v1,v2,v3,v4,v5,v6,u7,u8,u9]:=h5.set_ 6 v6;have h7:Blk _ g t #[v0,v1,v2,v3,v4,v5,v6,v7,u8,u9]:=h6.set_ 7 v7;have h8:Blk _ g t #[v0,v1,v2,v3,v4,v5,v6,v7,v8,u9]:=h7.set_ 8 v8;have h9:Blk _ g t #[v0,v1,v2,v3,v4,v5,v6,v7,v8,v9]:=h8.set_ 9 v9;exact h9
theorem below_set10 {B g:Nat}{a w:World}(h:Below B a w)(hb:B≤g)(v0 v1 v2 v3 v4 v5 v6 v7 v8 v9:Value):Below B a (set10 w g v0 v1 v2 v3 v4 v5 v6 v7 v8 v9):=
 (((((((((h.setCell (p:=⟨g,0,none⟩) hb v0).setCell (p:=⟨g,1,none⟩) hb v1).setCell (p:=⟨g,2,none⟩) hb v2).setCell (p:=⟨g,3,none⟩) hb v3).setCell (p:=⟨g,4,none⟩) hb v4).setCell (p:=⟨g,5,none⟩) hb v5).setCell (p:=⟨g,6,none⟩) hb v6).setCell (p:=⟨g,7,none⟩) hb v7).setCell (p:=⟨g,8,none⟩) hb v8).setCell (p:=⟨g,9,none⟩) hb v9
theorem cls_set {w:World}{A:Option Addr}{ps:List Cel}(h:Cls w A ps){p:Addr}(hne:∀ ad,A=some ad→ad.block≠p.block)(u:Value):Cls (w.setCell p u) A ps:=
 ⟨by have:=Reads.set_ne h.1 hne u;rw[World.size_setCell];exact this,h.2⟩
theorem cls_set10 {w:World}{A:Option Addr}{ps:List Cel}(h:Cls w A ps){g:Nat}(hne:∀ ad,A=some ad→ad.block≠g)(v0 v1 v2 v3 v4 v5 v6 v7 v8 v9:Value):Cls (set10 w g v0 v1 v2 v3 v4 v5 v6 v7 v8 v9) A ps:=
 cls_set (p:=⟨g,9,none⟩) (cls_set (p:=⟨g,8,none⟩) (cls_set (p:=⟨g,7,none⟩) (cls_set (p:=⟨g,6,none⟩) (cls_set (p:=⟨g,5,none⟩) (cls_set (p:=⟨g,4,none⟩) (cls_set (p:=⟨g,3,none⟩) (cls_set (p:=⟨g,2,none⟩) (cls_set (p:=⟨g,1,none⟩) (cls_set (p:=⟨g,0,none⟩) h hne v0) hne v1) hne v2) hne v3) hne v4) hne v5) hne v6) hne v7) hne v8) hne v9
theorem app_ba (l:List UInt8)(y:ByteArray):(⟨l.toArray⟩ ++ y:ByteArray)=⟨(l ++ y.data.toList).toArray⟩:=by
 apply ByteArray.ext;rw[ByteArray.data_append];apply Array.toList_inj.1
 simp
def FldOk (f:Nat):Prop:=f=1∨f=2∨f=3∨f=4∨f=7∨f=8∨f=9
theorem namesTo_at {ss:List Slot}{ws:List (List UInt8)} {k:Nat}(h1:k < ss.length)(h2:k < ws.length):namesTo (ss.drop k) (ws.drop k)=(!badName ss[k] ws[k] && namesTo (ss.drop (k+1)) (ws.drop (k+1))):=by
 rw[List.drop_eq_getElem_cons h1,List.drop_eq_getElem_cons h2];rfl
theorem fillTo_at {ss:List Slot}{ws:List (List UInt8)} {k:Nat}(h1:k < ss.length)(h2:k < ws.length)(c:Cmd):fillTo (ss.drop k) (ws.drop k) c=if ss[k].k=1∨ss[k].k=2 then fillTo (ss.drop (k+1)) (ws.drop (k+1)) { c with name:=ws[k] } else if ss[k].k=4 then (if (valW ws[k]).1 < ss[k].lo∨ss[k].hi < (valW ws[k]).1 then none else fillTo (ss.drop (k+1)) (ws.drop (k+1)) (c.set ss[k].fld (valW ws[k]).1)) else fillTo (ss.drop (k+1)) (ws.drop (k+1)) c:=by
 conv=>lhs;rw[List.drop_eq_getElem_cons h1,List.drop_eq_getElem_cons h2]
 rfl
theorem runsTo_at {ss:List Slot}{ws:List (List UInt8)} {k:Nat}(h1:k < ss.length)(h2:k < ws.length)(c:Cmd):runsTo (ss.drop k) (ws.drop k) c=if ss[k].k=3 then (if (readC ws[k]).2≠0 then (cmd0,(readC ws[k]).2) else runsTo (ss.drop (k+1)) (ws.drop (k+1)) { c with cells:=homeC (readC ws[k]).1 }) else runsTo (ss.drop (k+1)) (ws.drop (k+1)) c:=by
 conv=>lhs;rw[List.drop_eq_getElem_cons h1,List.drop_eq_getElem_cons h2]
 rfl
theorem namesTo_end (ws:List (List UInt8)):namesTo [] ws=true:=by unfold namesTo;rfl
theorem fillTo_end (ws:List (List UInt8)) (c:Cmd):fillTo [] ws c=some c:=by unfold fillTo;rfl
theorem runsTo_end (ws:List (List UInt8)) (c:Cmd):runsTo [] ws c=(c,0):=by unfold runsTo;rfl
theorem word_facts:∀ k ∈ kinds12,∀ f ∈ formR k,(decide ((slotR f).k=4)=nmcB f)∧0 < f.length∧(decide ((slotR f).k=1)=decide (f=[82]))∧(decide ((slotR f).k=2)=decide (f=[78]))∧(decide ((slotR f).k=3)=decide (f=[67])):=by decide
theorem baL_len (l:List (List UInt8)):(baL l).length=l.length:=List.length_map _
theorem baL_at {l:List (List UInt8)} {k:Nat}(h:k < (baL l).length) (h2:k < l.length):(baL l)[k]=⟨l[k].toArray⟩:=List.getElem_map _
def cmdW (ws:List (List UInt8)):Cmd × Int:=match formOf ws with
 | none=>(cmd0,15)
 | some f=>cmdP f ws
theorem set_name0 (c:Cmd)(f:Nat)(v:Int):(c.set f v).name=c.name:=by
 unfold Cmd.set
 repeat' split
 all_goals rfl
def Ob (g:Nat)(a w:World):Prop:=a.grownBy w (some g)
theorem Ob.refl (g:Nat)(a:World):Ob g a a:=⟨rfl,rfl,rfl,Nat.le_refl _,fun _ _ _=>rfl⟩
theorem Ob.below {g:Nat}{a w w':World}(h:Ob g a w)(hb:Below w.heap.size w w'):Ob g a w':=
 ⟨hb.os.trans h.os,hb.tape.trans h.tape,hb.output.trans h.output,Nat.le_trans h.size hb.size,fun k hk hn=>(hb.block k (Nat.lt_of_lt_of_le hk h.size)).trans (h.block k hk hn)⟩
theorem Ob.set {g:Nat}{a w:World}(h:Ob g a w)(i:Nat)(u:Value):Ob g a (w.setCell ⟨g,i,none⟩ u):=only_setCell h (p:=⟨g,i,none⟩) (.inl rfl) u
theorem Ob.low {g B:Nat}{a w:World}(h:Ob g a w)(hB:B≤g)(hs:B≤a.heap.size):Below B a w:=
 ⟨h.os,h.tape,h.output,h.size,fun k hk=>h.block k (Nat.lt_of_lt_of_le hk hs) (fun e=>by injection e with e;omega)⟩
theorem Ob.blk {g g':Nat}{a w:World}{t:TypeId}{cs:Array Value}(h:Ob g a w)(hb:Blk a g' t cs)(hn:g'≠g):Blk w g' t cs:=hb.grown h (fun e=>hn (by injection e))
theorem Ob.sts {g:Nat}{a w:World}{A:Option Addr}{bs:List ByteArray}(h:Ob g a w)(hs:Sts a A bs)(hn:∀ ad,A=some ad→ad.block≠g):Sts w A bs:=
 ⟨(Reads.grown56 hs.1 h (Nat.le_refl _) fun ad e e2=>hn ad e (by injection e2 with e2;exact e2.symm)).more h.size,hs.2⟩
theorem Ob.set10 {g:Nat}{a w:World}(h:Ob g a w)(v0 v1 v2 v3 v4 v5 v6 v7 v8 v9:Value):Ob g a (set10 w g v0 v1 v2 v3 v4 v5 v6 v7 v8 v9):=
 (((((((((h.set 0 v0).set 1 v1).set 2 v2).set 3 v3).set 4 v4).set 5 v5).set 6 v6).set 7 v7).set 8 v8).set 9 v9
end Go.Proofs.YtcfelnhmifkelaaGreatDoor
