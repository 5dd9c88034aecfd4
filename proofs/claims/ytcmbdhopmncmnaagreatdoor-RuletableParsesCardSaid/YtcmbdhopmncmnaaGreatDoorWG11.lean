/-
  texts Row11 Plc11: parts of the proof; conditions stand with each theorem.
-/
import Derived.Test.YtcmbdhopmncmnaaGreatDoorWG10
import Derived.Test.YtcmbdhopmncmnaaGreatDoorWG7
namespace Go.Proofs.YtcmbdhopmncmnaaGreatDoor
open Lib(hid)
open Go.RowKit Go.Maps
set_option maxRecDepth 100000
set_option linter.unusedVariables false
set_option linter.unusedSimpArgs false
theorem wdsB_get {ws:List ByteArray}{i:Nat}(h:i < ws.length)(h':i < (wdsB ws).length):(wdsB ws)[i]=ws[i].data.toList:=by simp[wdsB]
theorem skW_same {s:PSt}{W:List Wd}{n i:Nat}{zs:List Int}(h:elemsW s (skW W n i)=(zs,0))(hin:i=n)(hi:i < W.length):elemsW s (skW W n (i+1))=(zs,0):=by
 subst hin;rw[skW_at W i hi];exact h
theorem wrap_n2 {n:Nat}(h:n≤1000000):wrap64 ((n:Int)+2)=(n:Int)+2:=by unfold wrap64;omega
theorem ne_dec {a b:Nat}:(a=b+2→(((a:Nat):Int) != (b:Int)+2)=false)∧(a≠b+2→(((a:Nat):Int) != (b:Int)+2)=true):=⟨fun h=>by rw[bne_eq_false_iff_eq];omega,fun h=>by rw[bne_iff_ne];omega⟩
theorem eq_dec {a b:Nat}:(a=b→((a:Int) == (b:Int))=true)∧(a≠b→((a:Int) == (b:Int))=false):=⟨fun h=>by rw[beq_iff_eq];omega,fun h=>beq_false_of_ne (by omega)⟩
structure Rw19J (V:World)(bs:Nat)(acc:List Rh)(xv:Value)(lv:Int)(zA:Option Addr)(zc:Nat)(zs:List Int)(gp:Nat)(gr:Nat)(post:World→Prop)(b0 b1 b2 b3 b4 b5 b6 b7 b8 b9 b10 b11 b12:Bool)(v81 v82 v83 v84 v85 v86 v87 v88 v89 v90 v91 v92:Value)(w:World):Prop where
 h0:b0=true→v81=.pointer (some ⟨gp,0,none⟩)
 h1:b1=true→v82=.pointer (some ⟨gp,0,none⟩)
 h2:b2=true→v83=.pointer (some ⟨gp,0,none⟩)
 h3:b3=true→v84=.pointer (some ⟨gp,0,none⟩)
 h4:b4=true→v85=.pointer (some ⟨gp,4,none⟩)
 h5:b5=true→v86=xv
 h6:b6=true→v87=.agg #[.slice zA zs.length zc,.int .i64 lv]
 h9:b9=true→v90=.pointer (some ⟨gp,0,none⟩)
 h10:b10=true→v91=.pointer (some ⟨gp,0,none⟩)
 h11:b11=true→v92=.pointer (some ⟨gp,4,none⟩)
 hk:b8=false→∀ p:Addr,p.block < V.heap.size→w.cell? p=V.cell? p
 wa:b7=false→w=V.drew
 wb:b7=true→b8=false→v88=.slice (some ⟨V.heap.size,0,none⟩) 1 1∧w=V.drew.alloc (.cells #[.slice zA zs.length zc,.int .i64 lv] 48)
 wc:b8=true→b12=false→∃ X c,v89=.slice X (acc.length+1) c∧OwnR0 48 w bs (.slice X (acc.length+1) c) (acc ++ [⟨zA,zc,zs,lv⟩])∧Kept (fun g=>xv.ownBlock=some g) V w∧((Value.slice X (acc.length+1) c).ownBlock=xv.ownBlock∨∃ g,(Value.slice X (acc.length+1) c).ownBlock=some g∧V.heap.size≤g)
 wd:b12=true→post w
 ord2:b12=true→b8=true∧b11=true
 o2:b2=true→b1=true
 o3:b3=true→b2=true
 o4:b4=true→b3=true
 o5:b5=true→b4=true
 o7:b7=true→b6=true
 o8:b8=true→b5=true∧b7=true
 o9:b9=true→b0=true
 o10:b10=true→b9=true
 o11:b11=true→b10=true
set_option maxHeartbeats 16000000 in
theorem row_any {O:Blks}{base gp M:Nat}{hA:Option Addr}{hc:Nat}{vv rv:Value}{vs:List Vh}{rs:List Rh}{D:DataW Unit}{s:PSt}(gw:Nat)(ws:List ByteArray)(w:World)(hP:PrM O base gp M hA hc vv rv vs rs D s w)(hS:Sts w (some ⟨gw,0,none⟩) ws)(hw:∀ x ∈ ws,x.size≤2147483648)(hws:ws.length≤1000000)(h40:vs.length≤40)(h400:rs.length≤400)(hH:s.t.hood.length≤1000)(hbase:base≤w.heap.size) :
  Calls Tryz.prog 92 #[.pointer (some ⟨gp,0,none⟩),.slice (some ⟨gw,0,none⟩) ws.length ws.length] w fun e w'=>e=.returned (.int .i64 (rowW s (wdsB ws)).2)∧Kept O w w'∧
   ((rowW s (wdsB ws)).2=0→∃ rv' rs',PrM (fun k=>O k∨(w.heap.size≤k∧k < w'.heap.size)) base gp M hA hc vv rv' vs rs' D (rowW s (wdsB ws)).1 w'):=by
 obtain⟨rA,rc,erv,-⟩:=hP.rows.form;subst erv;have hrl:s.t.rows.length=rs.length:=by rw[← hP.ers,List.length_map]
 have hnv:s.names.length=vs.length:=by rw[hP.nms,← hP.evs,List.length_map]
 have HS:=hid hS;have HW:=hid hw;have hwl:(wdsB ws).length=ws.length:=by unfold wdsB;rw[List.length_map]
 obtain⟨res,hres⟩:∃ r,r=rowW s (wdsB ws):=⟨_,rfl⟩
 rw[← hres];unfold rowW at hres;rw[hwl,hrl] at hres;have ERR:∀ (e:Ending) (c:Int) (w':World),res=(s,c)→c≠0→e=.returned (.int .i64 c)→Below w.heap.size w w'→e=.returned (.int .i64 res.2)∧Kept O w w'∧(res.2=0→∃ rv' rs',PrM (fun k=>O k∨(w.heap.size≤k∧k < w'.heap.size)) base gp M hA hc vv rv' vs rs' D res.1 w'):=by
  rintro e c w' rfl hc0 rfl hb;exact⟨rfl,Kept.of_new _ hb,fun h=>absurd h hc0⟩
 have HERR:=hid ERR;have HP:=hid hP;have HBD:Hid (vs.length≤40∧rs.length≤400∧s.t.hood.length≤1000∧base≤w.heap.size∧ws.length≤1000000∧s.names.length≤1000000):=hid ⟨h40,h400,hH,hbase,hws,by omega⟩;have c2:=hP.blk.cell_ 2 (.slice hA s.t.hood.length hc) rfl;obtain⟨n,hn⟩:∃ n,n=s.t.hood.length:=⟨_,rfl⟩
 rw[← hn] at c2 hres;have hwn:=wrap_n2 (n:=n) (by omega);have HNE:=hid hn;clear ERR h40 h400 hbase hrl hnv hH;by_cases h2:ws.length=n+2
 ·have d2:=(ne_dec (a:=ws.length) (b:=n)).1 h2;have hn1:n < ws.length:=by omega
  obtain⟨gb,go,e1,hgb,cwn⟩:=hS.at_ (k:=n) hn1;injection e1 with e1
  injection e1 with e1 e2
  subst e1 e2;rw[wdsB_getD hn1] at hres;rw[Nat.zero_add] at cwn;obtain⟨wn,hwnn⟩:∃ z,z=ws[n]'hn1:=⟨_,rfl⟩
  rw[← hwnn] at cwn hres;have d3:(wn.toList == [45,62])=decide (wn.data.toList=arrowW):=str_eq wn [45,62];by_cases ha:wn.data.toList=arrowW
  ·rw[if_neg (by rintro (h | h);exact h h2;exact h ha)] at hres;rw[decide_eq_true ha] at d3;have HRES:=hid hres;have HL2:Hid (ws.length=n+2∧(wdsB ws).length=n+2):=hid ⟨h2,by rw[hwl];exact h2⟩;have h9:ws.length≤9223372036854775807:=hS.le;clear hres hS hw hP hwl ha hwnn hgb h2 hws hn;go_enter Tryz.func92,Tryz.ntmps92;go_wp2;clear c2 cwn d3 d2 hwn;go_loopw [6,32] (fun lv iv wr=>∃ (i:Nat) (zs:List Int),i≤ws.length∧iv=.int .i64 i∧Hid (OwnIA wr w.heap.size lv zs)∧Hid (Below w.heap.size w wr)∧Hid (elemsW s (skW (wdsB ws) n i)=(zs,0))∧Hid (zs.length≤i)) (fun _ iv _=>ws.length - (intOf iv).toNat)
   case atStart=>exact⟨0,[],Nat.zero_le _,rfl,hid (OwnI.nil _ _ _),hid (Below.refl _ _),hid (by rw[skW_zero];rfl),hid (Nat.zero_le _)⟩
   case round=>
    obtain⟨i,zs,hi,rfl,HO,HB,HE,HZL⟩:=hrel;by_cases hil:i < ws.length
    ·obtain⟨gb,go,e1,hgb2,cwi⟩:=(HS.out.ext HB.out).at_ hil;injection e1 with e1
     injection e1 with e1 e2
     subst e1 e2;have hxs:=HW.out _ (List.getElem_mem hil);have hWi:i < (wdsB ws).length:=by rw[HL2.out.2,← HL2.out.1];exact hil
     have hWe:=wdsB_get hil hWi;obtain⟨x,hx⟩:∃ z,z=ws[i]'hil:=⟨_,rfl⟩
     rw[← hx] at cwi hWe hxs;have HI:Hid (i+1≤ws.length∧True):=hid ⟨hil,trivial⟩;have hwi:wrap64 ((i:Int)+1)=(i:Int)+1:=by unfold wrap64;omega
     have HWI:=hid hwi;have cwj:wr.cell? ⟨gw,i,none⟩=some (.string x):=by rw[Nat.zero_add] at cwi;exact cwi
     have HPr:=hid (HP.out.ext HB.out);by_cases hin:i=n
     ·have q1:=(eq_dec (a:=i) (b:=n)).1 hin;have HE2:Hid (elemsW s (skW (wdsB ws) n (i+1))=(zs,0)):=hid (skW_same HE.out hin hWi);have HZ2:Hid (zs.length≤i+1):=hid (Nat.le_succ_of_le HZL.out);have HIN:=hid hin;clear hi hwi hx hxs hgb2 cwi hin hWe hWi;go_wp2;go_roundw
      case rel=>exact⟨i+1,zs,HI.out.1,(by first | rfl | (rw[HWI.out];rfl)),HO,HB,HE2,HZ2⟩
      case measure=>(try rw[HWI.out]);exact meas_step HI.out.1
     ·have q1:=(eq_dec (a:=i) (b:=n)).2 hin;have HEL:=hid (element_any x wr HPr.out hxs HBD.out.2.2.2.2.2);obtain⟨ev,hev⟩:∃ e,e=elemW s x.data.toList:=⟨_,rfl⟩
      rw[← hev] at HEL;obtain⟨z,ec⟩:=ev;dsimp only at HEL;by_cases hec:ec=0
      ·subst hec;have hsk:skW (wdsB ws) n (i+1)=skW (wdsB ws) n i ++ [x.data.toList]:=by
        rcases Nat.lt_or_ge i n with h | h
        ·rw[skW_lt hWi h,hWe]
        ·rw[skW_gt hWi (by omega),hWe]
       have HE2:Hid (elemsW s (skW (wdsB ws) n (i+1))=(zs ++ [z],0)):=hid (by rw[hsk];exact elems_snoc HE.out hev.symm);have HZ2:Hid ((zs ++ [z]).length≤i+1):=hid (by rw[List.length_append];exact Nat.succ_le_succ HZL.out);have hown:=HO.out;have hlv:zs.length < 1000000000000:=by have:=HZL.out;have:=HBD.out.2.2.2.2.1;omega
       have hbs:=HB.out.size;clear hi hwi hx hxs hgb2 cwi hin hWe hWi hev hsk;go_wp2_with (go_at_call 119;refine HEL.out.mono ?_;rintro e w' ⟨rfl,hw'⟩;have hw2:=hw'.symm;clear hw';subst hw2;refine Hid.out ?_);refine hid ?_;go_wp2_with (at_builtin;refine wpList_pushI rfl _ _ _ rfl w.heap.size 3 Tryz.underlying30 Tryz.infoInt _ _ rfl hown _ rfl hlv hbs ?_);intro v' w7 ho' hb';have HO7:=hid ho';have HB7:=hid (HB.out.trans hb');clear ho' hb' hown hlv hbs cwj HPr;go_wp2;go_roundw
       case rel=>exact⟨i+1,zs ++ [z],HI.out.1,(by first | rfl | (rw[HWI.out];rfl)),HO7,HB7,HE2,HZ2⟩
       case measure=>(try rw[HWI.out]);exact meas_step HI.out.1
      ·have HR:Hid (res=(s,ec)):=hid (by
        obtain⟨r,hr⟩:=skW_split (W:=wdsB ws) (n:=n) hWi (by rw[HL2.out.2];omega) hin;have h:=HRES.out;rw[hr,hWe,elems_err r HE.out (by rw[← hev];exact hec),← hev] at h;dsimp only at h;rw[if_pos hec] at h;exact h)
       have q2:(ec != 0)=true:=by rw[bne_iff_ne];exact hec
       have HEC:=hid hec;clear hi hwi hx hxs hgb2 cwi hin hWe hWi hev hec;go_wp2_with (go_at_call 119;refine HEL.out.mono ?_;rintro e w' ⟨rfl,hw'⟩;have hw2:=hw'.symm;clear hw';subst hw2;refine Hid.out ?_);refine hid ?_;go_wp2;go_ret;exact HERR.out _ _ _ HR.out HEC.out rfl HB.out
    ·obtain rfl:i=ws.length:=Nat.le_antisymm hi (Nat.le_of_not_lt hil);have hall:=HE.out;rw[← show (wdsB ws).length=ws.length by rw[HL2.out.2,HL2.out.1],skW_all (by rw[HL2.out.2];omega)] at hall;have hzl:zs.length=n+1:=by
      rw[elems_len hall,List.length_append,List.length_take,List.length_drop,HL2.out.2];omega
     have hres:=HRES.out;rw[hall] at hres;dsimp only at hres;rw[if_neg (by simp)] at hres;have HRES2:=hid hres;have HZN:=hid hzl;clear hres hall HRES hi hil HE HZL hzl;obtain⟨lA,lc,elv,hli,hcap⟩:=OwnI.capI HO.out;subst elv;obtain⟨lb,lo,e1,hlb,cl⟩:=hli.at_ (k:=n) (by rw[HZN.out];exact Nat.lt_succ_self n);subst e1;obtain⟨out,hout⟩:∃ z,z=zs[n]'(by rw[HZN.out];exact Nat.lt_succ_self n):=⟨_,rfl⟩
     rw[← hout] at cl;have HOUT:Hid (zs.getD n 0=out):=hid (by rw[hout,List.getD_eq_getElem?_getD,List.getElem?_eq_getElem (by rw[HZN.out];exact Nat.lt_succ_self n)];rfl);have HLI:=hid hli;rw[HZN.out] at hcap;have hc1:n≤lc:=Nat.le_of_succ_le hcap;have hn9:n≤9223372036854775807:=by rw[HNE.out];exact HP.out.hood.le
     rw[HZN.out];have cl2:((wr.alloc (Obj.cells #[.slice none 0 0,.int .i64 0] 48)).drew).cell? ⟨lb,lo+n,none⟩=some (.int .i64 out):=(World.cell?_alloc_lt wr _ _ hlb).trans cl;clear hout hlb hli hcap;go_upto_region 14 with fail
     go_region
     go_upto_region 15 with fail
     clear cl cl2 hc1 hn9;obtain⟨gr,hgr⟩:∃ g,g=wr.heap.size:=⟨_,rfl⟩
     obtain⟨w5,hw5⟩:∃ W,W=(wr.alloc (.cells #[.slice (some ⟨lb,lo,none⟩) n n,.int .i64 out] 48)).drew:=⟨_,rfl⟩
     rw[← hw5,← hgr];have hb5:Below wr.heap.size wr w5:=by rw[hw5];exact (below_new _ _).drew
     have hbr:Blk w5 gr 48 #[.slice (some ⟨lb,lo,none⟩) n n,.int .i64 out]:=by rw[hw5,hgr];exact Blk.new _ _ _
     have HP5:=hid (HP.out.ext (HB.out.trans (hb5.mono HB.out.size)));have HB5:=hid (HB.out.trans (hb5.mono HB.out.size));have hin:=(HLI.out.ext hb5).take n;have htl:(zs.take n).length=n:=by rw[List.length_take,HZN.out];exact Nat.min_eq_left (Nat.le_succ n)
     have hres:=HRES2.out;rw[HOUT.out] at hres;obtain⟨ins,hins⟩:∃ z,z=zs.take n:=⟨_,rfl⟩
     rw[← hins] at hin htl hres;have HIN:=hid hin;clear hin hins;have hlo:=own_lt' HO.out (show (Value.slice (some ⟨lb,lo,none⟩) zs.length lc).ownBlock=some lb from rfl);have HLO:Hid (w.heap.size≤lb∧lb < wr.heap.size∧wr.heap.size≤w5.heap.size):=hid ⟨hlo.2,hlo.1,hb5.size⟩;have hlz:lo=0:=by
      rcases HO.out.2 with ⟨h1,-⟩ | ⟨g,cap,cur,h1,-⟩
      ·cases h1
      ·injection h1 with h1
       injection h1 with h1
       injection h1 with _ h1
     have hbrl:=hbr.lt;have HBR:=hid hbr;have r0:=hbr.cell_ 0 (.slice (some ⟨lb,lo,none⟩) n n) rfl;have r1:=hbr.cell_ 1 (.int .i64 out) rfl;have HCON:=hid (contains_any (some ⟨lb,lo,none⟩) ins n out w5 HIN.out);rw[htl] at HCON;have x4:=HP5.out.blk.cell_ 4 (.slice rA rs.length rc) rfl;clear hb5 hbr hw5 hgr hlo hlz hbrl HRES2 HOUT;by_cases h0:out < 0
     ·have q0:decide (out < 0)=true:=decide_eq_true h0;by_cases hm:out ∈ ins
      ·rw[decide_eq_true hm] at HCON;rw[if_neg (fun h=>h.2 hm)] at hres;have HR:=hid hres;clear hres hm h0;go_wp2_with (go_at_call 30;refine HCON.out.mono ?_;rintro e w' ⟨rfl,hw'⟩;have hw2:=hw'.symm;clear hw';subst hw2;refine Hid.out ?_);refine hid ?_;by_cases h4:400≤rs.length
       ·have q5:decide ((400:Int)≤(rs.length:Int))=true:=dec_le.1 h4;have HR2:Hid (res=(s,6)):=hid (by rw[HR.out,if_pos h4]);clear h4;go_wp2;go_ret;exact HERR.out _ _ _ HR2.out (by decide) rfl HB5.out
       ·have q5:decide ((400:Int)≤(rs.length:Int))=false:=dec_le.2 h4;have HR2:Hid (res=(⟨s.head,⟨s.t.st,s.t.sym,s.t.hood,s.t.vars,s.t.rows ++ [(ins,out)]⟩,s.names⟩,0)):=hid (by rw[HR.out,if_neg h4]);have HAL:Hid (rs.length < 1000000000000):=hid (Nat.lt_of_le_of_lt HBD.out.2.1 (by decide));clear h4;go_upto_region 19 with fail
        have HFAR:Hid (∀ k,O k→k < w.heap.size):=hid HP.out.inO;have HOWN:=hid HP5.out.rows;have HBS:Hid (base≤w5.heap.size):=hid (Nat.le_trans HBD.out.2.2.2.1 HB5.out.size);have HLX:Hid ((gp < w5.heap.size∧w5.cell? ⟨gp,4,none⟩=some (.slice rA rs.length rc))∧gr < w5.heap.size∧w5.cell? ⟨gr,0,none⟩=some (.slice (some ⟨lb,lo,none⟩) ins.length n)∧w5.cell? ⟨gr,1,none⟩=some (.int .i64 out)):=hid ⟨⟨HP5.out.blk.lt,x4⟩,HBR.out.lt,by rw[htl];exact r0,r1⟩;have HTL:=hid htl;clear r0 r1 x4 htl;refine wp_region_J (by kernel_rfl) (fun listed act w'=>∃ b0 b1 b2 b3 b4 b5 b6 b7 b8 b9 b10 b11 b12 v81 v82 v83 v84 v85 v86 v87 v88 v89 v90 v91 v92,listed=#[b0,b1,b2,b3,b4,b5,b6,b7,b8,b9,b10,b11,b12]∧act=Act.mk #[.pointer (some ⟨gp,0,none⟩),.slice (some ⟨gw,0,none⟩) ws.length ws.length,undef,undef,u4,.int .i64 ↑n,.slice (some ⟨lb,lo,none⟩) (n+1) lc,u7,u8,u9,u10,.pointer (some ⟨gr,0,none⟩),.pointer (some ⟨gp,0,none⟩),.pointer (some ⟨gp,0,none⟩),.pointer (some ⟨gp,0,none⟩),.pointer (some ⟨gp,2,none⟩),.slice hA n hc,.int .i64 ↑n,.slice (some ⟨gw,0,none⟩) ws.length ws.length,.int .i64 ↑ws.length,.int .i64 ↑n,.int .i64 (↑n+2),.bool false,.bool false,.slice (some ⟨gw,0,none⟩) ws.length ws.length,.int .i64 ↑n,.pointer (some ⟨gw,n,none⟩),Value.string wn,.bool false,.bool false,.slice (some ⟨gw,0,none⟩) ws.length ws.length,.int .i64 ↑ws.length,.int .i64 ↑ws.length,.bool false,u34,u35,u36,u37,u38,u39,u40,u41,u42,u43,u44,u45,u46,u47,u48,u49,u50,u51,u52,u53,.slice (some ⟨lb,lo,none⟩) (n+1) lc,.int .i64 ↑n,.int .i64 ↑n,.slice (some ⟨lb,lo,none⟩) n n,.slice (some ⟨lb,lo,none⟩) (n+1) lc,.int .i64 ↑n,.pointer (some ⟨lb,lo+n,none⟩),.int .i64 out,.agg #[.slice (some ⟨lb,lo,none⟩) n n,.int .i64 out],.pointer (some ⟨gr,1,none⟩),.int .i64 out,.bool true,.bool true,.pointer (some ⟨gr,0,none⟩),.slice (some ⟨lb,lo,none⟩) n n,.pointer (some ⟨gr,1,none⟩),.int .i64 out,.bool true,.bool false,.bool false,.pointer (some ⟨gp,0,none⟩),.pointer (some ⟨gp,0,none⟩),.pointer (some ⟨gp,0,none⟩),.pointer (some ⟨gp,4,none⟩),.slice rA rs.length rc,.int .i64 ↑rs.length,.bool false,v81,v82,v83,v84,v85,v86,v87,v88,v89,v90,v91,v92] []∧Rw19J w5 base rs (.slice rA rs.length rc) out (some ⟨lb,lo,none⟩) n ins gp gr (fun W9=>∃ (rv':Value) (O':Blks),(∀ k,O' k→O k∨(w.heap.size≤k∧k < W9.heap.size))∧PrM O' base gp M hA hc vv rv' vs (rs ++ [⟨some ⟨lb,lo,none⟩,n,ins,out⟩]) D ⟨s.head,⟨s.t.st,s.t.sym,s.t.hood,s.t.vars,s.t.rows ++ [(ins,out)]⟩,s.names⟩ W9∧Kept O w5 W9) b0 b1 b2 b3 b4 b5 b6 b7 b8 b9 b10 b11 b12 v81 v82 v83 v84 v85 v86 v87 v88 v89 v90 v91 v92 w') ?_ ?_ ?_
        ·exact (e_8 (e_8 (e_8 (e_1 ⟨rfl,rfl,(by constructor;(case hk=>exact (fun _ _ _=>rfl));(case wa=>exact (fun _=>rfl));all_goals simp)⟩))))
        ·rintro i listed act w' hi ⟨b0,b1,b2,b3,b4,b5,b6,b7,b8,b9,b10,b11,b12,v81,v82,v83,v84,v85,v86,v87,v88,v89,v90,v91,v92,rfl,rfl,H⟩;have hi16:i < 13:=by
          obtain⟨-,o,ho,-⟩:=mem_ready.1 hi;exact (Array.getElem?_eq_some_iff.1 ho).1
         obtain rfl | rfl | rfl | rfl | rfl | rfl | rfl | rfl | rfl | rfl | rfl | rfl | rfl:i=0∨i=1∨i=2∨i=3∨i=4∨i=5∨i=6∨i=7∨i=8∨i=9∨i=10∨i=11∨i=12:=by omega
         all_goals simp[mem_ready,Region.binds] at hi
         ·refine wpOp_hidden rfl fun K hK=>?_;go_wp2;refine OnlyN.mk (hK.out _ _ (e_8 (e_8 (e_8 (e_1 ⟨rfl,rfl,{ H with h0:=fun _=>rfl,o9:=fun h=>rfl }⟩)))))
         ·refine wpOp_hidden rfl fun K hK=>?_;go_wp2;refine OnlyN.mk (hK.out _ _ (e_8 (e_8 (e_8 (e_1 ⟨rfl,rfl,{ H with h1:=fun _=>rfl,o2:=fun h=>rfl }⟩)))))
         ·obtain rfl:=H.h1 (by simp[hi]);refine wpOp_hidden rfl fun K hK=>?_;go_wp2;refine OnlyN.mk (hK.out _ _ (e_8 (e_8 (e_8 (e_1 ⟨rfl,rfl,{ H with h2:=fun _=>rfl,o2:=fun _=>(by simp[hi]),o3:=fun h=>rfl }⟩)))))
         ·obtain rfl:=H.h2 (by simp[hi]);refine wpOp_hidden rfl fun K hK=>?_;go_wp2;refine OnlyN.mk (hK.out _ _ (e_8 (e_8 (e_8 (e_1 ⟨rfl,rfl,{ H with h3:=fun _=>rfl,o3:=fun _=>(by simp[hi]),o4:=fun h=>rfl }⟩)))))
         ·obtain rfl:=H.h3 (by simp[hi]);refine wpOp_hidden rfl fun K hK=>?_;go_wp2;refine OnlyN.mk (hK.out _ _ (e_8 (e_8 (e_8 (e_1 ⟨rfl,rfl,{ H with h4:=fun _=>rfl,o4:=fun _=>(by simp[hi]),o5:=fun h=>rfl }⟩)))))
         ·have bAf:b8=false:=by
           cases hb:b8 with
           | false=>rfl
           | true=>exact absurd (H.o8 hb).1 (by simp[hi])
          obtain rfl:=H.h4 (by simp[hi]);have cc0:=(H.hk bAf ⟨gp,4,none⟩ HLX.out.1.1).trans HLX.out.1.2;clear bAf;refine wpOp_hidden rfl fun K hK=>?_;go_wp2;refine OnlyN.mk (hK.out _ _ (e_8 (e_8 (e_8 (e_1 ⟨rfl,rfl,{ H with h5:=fun _=>rfl,o5:=fun _=>(by simp[hi]),o8:=fun h=>⟨rfl,(H.o8 h).2⟩ }⟩)))))
         ·have bAf:b8=false:=by
           cases hb:b8 with
           | false=>rfl
           | true=>exact absurd (H.o7 (H.o8 hb).2) (by simp[hi])
          have cc0:=(H.hk bAf ⟨gr,0,none⟩ HLX.out.2.1).trans HLX.out.2.2.1;have cc1:=(H.hk bAf ⟨gr,1,none⟩ HLX.out.2.1).trans HLX.out.2.2.2;clear bAf;refine wpOp_hidden rfl fun K hK=>?_;go_wp2;refine OnlyN.mk (hK.out _ _ (e_8 (e_8 (e_8 (e_1 ⟨rfl,rfl,{ H with h6:=fun _=>rfl,o7:=fun h=>rfl }⟩)))))
         ·have bAf:b8=false:=by
           cases hb:b8 with
           | false=>rfl
           | true=>exact absurd (H.o8 hb).2 (by simp[hi])
          obtain rfl:=H.h6 (by simp[hi]);have hw:=H.wa (by simp[hi]);have hA:=bAf;subst hw;clear bAf;refine wpOp_hidden rfl fun K hK=>?_;go_wp2;refine OnlyN.mk (hK.out _ _ (e_8 (e_8 (e_8 (e_1 ⟨rfl,rfl,{ H with hk:=fun _ p hp=>World.cell?_alloc_lt w5 _ p hp,wa:=fun h=>(by cases h),wb:=fun _ _=>⟨rfl,rfl⟩,wc:=fun h=>absurd h (by rw[hA];decide),wd:=fun h=>absurd (H.ord2 h).1 (by rw[hA];decide),o7:=fun _=>(by simp[hi]),o8:=fun h=>⟨(H.o8 h).1,rfl⟩ }⟩)))))
         ·obtain rfl:=H.h5 (by simp[hi]);obtain⟨hv,hw⟩:=H.wb (by simp[hi]) (by simp[hi]);obtain⟨Vd,hVd⟩:∃ Vd,Vd=World.drew w5:=⟨_,rfl⟩
          have hsz:w5.heap.size=Vd.heap.size:=by rw[hVd];rfl
          rw[← hVd] at hw;rw[hsz] at hv;subst hw;subst hv;have hown:OwnR0 48 Vd base (.slice rA rs.length rc) rs:=by rw[hVd];exact HOWN.out
          have hal:=HAL.out;have hws:base≤Vd.heap.size:=by rw[← hsz];exact HBS.out
          have HVD:=hid hVd;have HSZ:=hid hsz;clear hVd hsz;refine wpOp_hidden rfl fun K hK=>?_;refine wpList_pushR1 rfl _ _ _ rfl base 48 Tryz.underlying24 Tryz.infoRow _ _ rfl hown ⟨(some ⟨lb,lo,none⟩),n,ins,out⟩ rfl hal hws ?_;intro xv' w6 ho6 hk6 hm6;obtain⟨xA',xc',hxv',-⟩:=ho6.form;rw[List.length_append,List.length_singleton] at hxv';subst hxv';have HO6:=hid ho6;have HK6:Hid (Kept (fun g=>Value.ownBlock (.slice rA rs.length rc)=some g) w5 w6):=hid (Kept.trans (by rw[HVD.out];exact (Kept.refl _ w5).drew) hk6);have HM6:Hid ((Value.slice xA' (rs.length+1) xc').ownBlock=Value.ownBlock (.slice rA rs.length rc)∨∃ g,(Value.slice xA' (rs.length+1) xc').ownBlock=some g∧w5.heap.size≤g):=hid (by rw[HSZ.out];exact hm6);clear ho6 hk6 hm6 hown hal hws;go_wp2;refine OnlyN.mk (hK.out _ _ (e_8 (e_8 (e_8 (e_1 ⟨rfl,rfl,{ H with hk:=fun h=>(by cases h),wa:=fun h=>absurd h (by simp[hi]),wb:=fun _ h=>(by cases h),wc:=fun _ _=>⟨_,_,rfl,HO6.out,HK6.out,HM6.out⟩,wd:=fun h=>absurd (H.ord2 h).1 (by simp[hi]),ord2:=fun h=>⟨rfl,(H.ord2 h).2⟩,o8:=fun _=>(by simp[hi]) }⟩)))))
         ·obtain rfl:=H.h0 (by simp[hi]);refine wpOp_hidden rfl fun K hK=>?_;go_wp2;refine OnlyN.mk (hK.out _ _ (e_8 (e_8 (e_8 (e_1 ⟨rfl,rfl,{ H with h9:=fun _=>rfl,o9:=fun _=>(by simp[hi]),o10:=fun h=>rfl }⟩)))))
         ·obtain rfl:=H.h9 (by simp[hi]);refine wpOp_hidden rfl fun K hK=>?_;go_wp2;refine OnlyN.mk (hK.out _ _ (e_8 (e_8 (e_8 (e_1 ⟨rfl,rfl,{ H with h10:=fun _=>rfl,o10:=fun _=>(by simp[hi]),o11:=fun h=>rfl }⟩)))))
         ·obtain rfl:=H.h10 (by simp[hi]);refine wpOp_hidden rfl fun K hK=>?_;go_wp2;refine OnlyN.mk (hK.out _ _ (e_8 (e_8 (e_8 (e_1 ⟨rfl,rfl,{ H with h11:=fun _=>rfl,ord2:=fun h=>⟨(H.ord2 h).1,rfl⟩,o11:=fun _=>(by simp[hi]) }⟩)))))
         ·obtain rfl:=H.h11 (by simp[hi]);obtain⟨xA',xc',hv,ho6,hk6,hm6⟩:=H.wc (by simp[hi]) (by simp[hi]);subst hv;obtain⟨hn1,hn2,hn3⟩:=HP5.out.pushRow (O':=fun k=>O k∨(w.heap.size≤k∧k < w'.heap.size)) ho6 hk6 hm6 (fun k h=>.inl h) (HIN.out.kept hk6 (fun ad e h=>by injection e with e;subst e;exact absurd (HFAR.out _ (HP5.out.orv _ h)) (Nat.not_lt.2 HLO.out.1)))
           (fun ad e=>by injection e with e;subst e;exact .inr ⟨HLO.out.1,Nat.lt_of_lt_of_le (Nat.lt_of_lt_of_le HLO.out.2.1 HLO.out.2.2) hk6.below.size⟩)
           (fun ad e=>by
            injection e with e
            subst e;exact⟨Nat.lt_of_lt_of_le HLO.out.2.1 HLO.out.2.2,fun h=>absurd (HFAR.out _ (by have h':lb=gp:=h;rw[h'];exact HP5.out.og)) (Nat.not_lt.2 HLO.out.1),fun h=>absurd (HFAR.out _ (by have h':lb=M:=h;rw[h'];exact HP5.out.om)) (Nat.not_lt.2 HLO.out.1),fun h=>absurd (HFAR.out _ (HP5.out.ov _ h)) (Nat.not_lt.2 HLO.out.1),fun h=>absurd (HFAR.out _ (HP5.out.orv _ h)) (Nat.not_lt.2 HLO.out.1)⟩)
           (fun g h1 h2=>.inr ⟨Nat.le_trans HB5.out.size h1,h2⟩) (fun k hk=>by
            rcases hk with hk | hk
            ·exact Nat.lt_of_lt_of_le (HP5.out.inO k hk) hk6.below.size
            ·exact hk.2)
          have cx6:=hn3.cell_ 4 (.slice rA rs.length rc) rfl;have fx6:=hn3.frozen 4;clear hn3;have HPOST:=hid ((⟨_,_,fun k h=>h.imp id (fun h=>⟨h.1,by simpa using h.2⟩),hn1,hn2⟩:∃ (rv':Value) (O':Blks),(∀ k,O' k→O k∨(w.heap.size≤k∧k < (w'.setCell ⟨gp,4,none⟩ (.slice xA' (rs.length+1) xc')).heap.size))∧PrM O' base gp M hA hc vv rv' vs (rs ++ [⟨some ⟨lb,lo,none⟩,n,ins,out⟩]) D ⟨s.head,⟨s.t.st,s.t.sym,s.t.hood,s.t.vars,s.t.rows ++ [(ins,out)]⟩,s.names⟩ (w'.setCell ⟨gp,4,none⟩ (.slice xA' (rs.length+1) xc'))∧Kept O w5 (w'.setCell ⟨gp,4,none⟩ (.slice xA' (rs.length+1) xc'))));clear ho6 hk6 hm6;refine wpOp_hidden rfl fun K hK=>?_;go_wp2;refine OnlyN.mk (hK.out _ _ (e_8 (e_8 (e_8 (e_1 ⟨rfl,rfl,{ H with hk:=fun h=>absurd h (by simp[hi]),wa:=fun h=>absurd h (by simp[hi]),wb:=fun _ h=>absurd h (by simp[hi]),wc:=fun _ h=>(by cases h),wd:=fun _=>HPOST.out,ord2:=fun _=>(by simp[hi]) }⟩)))))
        ·rintro listed act w' hr ⟨b0,b1,b2,b3,b4,b5,b6,b7,b8,b9,b10,b11,b12,v81,v82,v83,v84,v85,v86,v87,v88,v89,v90,v91,v92,rfl,rfl,H⟩;have hn:=List.eq_nil_iff_forall_not_mem.1 hr;have r0:=hn 0;simp[mem_ready,Region.binds] at r0;subst r0;have r1:=hn 1;simp[mem_ready,Region.binds] at r1;subst r1;have r2:=hn 2;simp[mem_ready,Region.binds] at r2;subst r2;have r3:=hn 3;simp[mem_ready,Region.binds] at r3;subst r3;have r4:=hn 4;simp[mem_ready,Region.binds] at r4;subst r4;have r5:=hn 5;simp[mem_ready,Region.binds] at r5;subst r5;have r6:=hn 6;simp[mem_ready,Region.binds] at r6;subst r6;have r7:=hn 7;simp[mem_ready,Region.binds] at r7;subst r7;have r8:=hn 8;simp[mem_ready,Region.binds] at r8;subst r8;have r9:=hn 9;simp[mem_ready,Region.binds] at r9;subst r9;have r10:=hn 10;simp[mem_ready,Region.binds] at r10;subst r10;have r11:=hn 11;simp[mem_ready,Region.binds] at r11;subst r11;have r12:=hn 12;simp[mem_ready,Region.binds] at r12;subst r12;try dsimp only
         obtain⟨rv',O',h1,h2,h3⟩:=H.wd rfl;have H1:=hid h1;have H2:=hid h2;have H3:=hid h3;clear H hr hn h1 h2 h3;go_wp2;go_ret;rw[HR2.out];exact⟨rfl,(Kept.of_new O HB5.out).trans H3.out,fun _=>⟨_,_,H2.out.wide H1.out (fun k h=>h.elim (fun h=>Nat.lt_of_lt_of_le (HFAR.out k h) (Nat.le_trans HB5.out.size H3.out.below.size)) (fun h=>h.2))⟩⟩
      ·rw[decide_eq_false hm] at HCON;rw[if_pos ⟨h0,hm⟩] at hres;have HR:=hid hres;clear hres hm h0;go_wp2_with (go_at_call 30;refine HCON.out.mono ?_;rintro e w' ⟨rfl,hw'⟩;have hw2:=hw'.symm;clear hw';subst hw2;refine Hid.out ?_);refine hid ?_;go_wp2;go_ret;exact HERR.out _ _ _ HR.out (by decide) rfl HB5.out
     ·have q0:decide (out < 0)=false:=decide_eq_false h0;rw[if_neg (fun h=>h0 h.1)] at hres;have HR:=hid hres;clear hres h0;by_cases h4:400≤rs.length
      ·have q5:decide ((400:Int)≤(rs.length:Int))=true:=dec_le.1 h4;have HR2:Hid (res=(s,6)):=hid (by rw[HR.out,if_pos h4]);clear h4;go_wp2;go_ret;exact HERR.out _ _ _ HR2.out (by decide) rfl HB5.out
      ·have q5:decide ((400:Int)≤(rs.length:Int))=false:=dec_le.2 h4;have HR2:Hid (res=(⟨s.head,⟨s.t.st,s.t.sym,s.t.hood,s.t.vars,s.t.rows ++ [(ins,out)]⟩,s.names⟩,0)):=hid (by rw[HR.out,if_neg h4]);have HAL:Hid (rs.length < 1000000000000):=hid (Nat.lt_of_le_of_lt HBD.out.2.1 (by decide));clear h4;go_upto_region 19 with fail
       have HFAR:Hid (∀ k,O k→k < w.heap.size):=hid HP.out.inO;have HOWN:=hid HP5.out.rows;have HBS:Hid (base≤w5.heap.size):=hid (Nat.le_trans HBD.out.2.2.2.1 HB5.out.size);have HLX:Hid ((gp < w5.heap.size∧w5.cell? ⟨gp,4,none⟩=some (.slice rA rs.length rc))∧gr < w5.heap.size∧w5.cell? ⟨gr,0,none⟩=some (.slice (some ⟨lb,lo,none⟩) ins.length n)∧w5.cell? ⟨gr,1,none⟩=some (.int .i64 out)):=hid ⟨⟨HP5.out.blk.lt,x4⟩,HBR.out.lt,by rw[htl];exact r0,r1⟩;have HTL:=hid htl;clear r0 r1 x4 htl;refine wp_region_J (by kernel_rfl) (fun listed act w'=>∃ b0 b1 b2 b3 b4 b5 b6 b7 b8 b9 b10 b11 b12 v81 v82 v83 v84 v85 v86 v87 v88 v89 v90 v91 v92,listed=#[b0,b1,b2,b3,b4,b5,b6,b7,b8,b9,b10,b11,b12]∧act=Act.mk #[.pointer (some ⟨gp,0,none⟩),.slice (some ⟨gw,0,none⟩) ws.length ws.length,undef,undef,u4,.int .i64 ↑n,.slice (some ⟨lb,lo,none⟩) (n+1) lc,u7,u8,u9,u10,.pointer (some ⟨gr,0,none⟩),.pointer (some ⟨gp,0,none⟩),.pointer (some ⟨gp,0,none⟩),.pointer (some ⟨gp,0,none⟩),.pointer (some ⟨gp,2,none⟩),.slice hA n hc,.int .i64 ↑n,.slice (some ⟨gw,0,none⟩) ws.length ws.length,.int .i64 ↑ws.length,.int .i64 ↑n,.int .i64 (↑n+2),.bool false,.bool false,.slice (some ⟨gw,0,none⟩) ws.length ws.length,.int .i64 ↑n,.pointer (some ⟨gw,n,none⟩),Value.string wn,.bool false,.bool false,.slice (some ⟨gw,0,none⟩) ws.length ws.length,.int .i64 ↑ws.length,.int .i64 ↑ws.length,.bool false,u34,u35,u36,u37,u38,u39,u40,u41,u42,u43,u44,u45,u46,u47,u48,u49,u50,u51,u52,u53,.slice (some ⟨lb,lo,none⟩) (n+1) lc,.int .i64 ↑n,.int .i64 ↑n,.slice (some ⟨lb,lo,none⟩) n n,.slice (some ⟨lb,lo,none⟩) (n+1) lc,.int .i64 ↑n,.pointer (some ⟨lb,lo+n,none⟩),.int .i64 out,.agg #[.slice (some ⟨lb,lo,none⟩) n n,.int .i64 out],.pointer (some ⟨gr,1,none⟩),.int .i64 out,.bool false,.bool false,undef,undef,undef,undef,undef,undef,.bool false,.pointer (some ⟨gp,0,none⟩),.pointer (some ⟨gp,0,none⟩),.pointer (some ⟨gp,0,none⟩),.pointer (some ⟨gp,4,none⟩),.slice rA rs.length rc,.int .i64 ↑rs.length,.bool false,v81,v82,v83,v84,v85,v86,v87,v88,v89,v90,v91,v92] []∧Rw19J w5 base rs (.slice rA rs.length rc) out (some ⟨lb,lo,none⟩) n ins gp gr (fun W9=>∃ (rv':Value) (O':Blks),(∀ k,O' k→O k∨(w.heap.size≤k∧k < W9.heap.size))∧PrM O' base gp M hA hc vv rv' vs (rs ++ [⟨some ⟨lb,lo,none⟩,n,ins,out⟩]) D ⟨s.head,⟨s.t.st,s.t.sym,s.t.hood,s.t.vars,s.t.rows ++ [(ins,out)]⟩,s.names⟩ W9∧Kept O w5 W9) b0 b1 b2 b3 b4 b5 b6 b7 b8 b9 b10 b11 b12 v81 v82 v83 v84 v85 v86 v87 v88 v89 v90 v91 v92 w') ?_ ?_ ?_
       ·exact (e_8 (e_8 (e_8 (e_1 ⟨rfl,rfl,(by constructor;(case hk=>exact (fun _ _ _=>rfl));(case wa=>exact (fun _=>rfl));all_goals simp)⟩))))
       ·rintro i listed act w' hi ⟨b0,b1,b2,b3,b4,b5,b6,b7,b8,b9,b10,b11,b12,v81,v82,v83,v84,v85,v86,v87,v88,v89,v90,v91,v92,rfl,rfl,H⟩;have hi16:i < 13:=by
         obtain⟨-,o,ho,-⟩:=mem_ready.1 hi;exact (Array.getElem?_eq_some_iff.1 ho).1
        obtain rfl | rfl | rfl | rfl | rfl | rfl | rfl | rfl | rfl | rfl | rfl | rfl | rfl:i=0∨i=1∨i=2∨i=3∨i=4∨i=5∨i=6∨i=7∨i=8∨i=9∨i=10∨i=11∨i=12:=by omega
        all_goals simp[mem_ready,Region.binds] at hi
        ·refine wpOp_hidden rfl fun K hK=>?_;go_wp2;refine OnlyN.mk (hK.out _ _ (e_8 (e_8 (e_8 (e_1 ⟨rfl,rfl,{ H with h0:=fun _=>rfl,o9:=fun h=>rfl }⟩)))))
        ·refine wpOp_hidden rfl fun K hK=>?_;go_wp2;refine OnlyN.mk (hK.out _ _ (e_8 (e_8 (e_8 (e_1 ⟨rfl,rfl,{ H with h1:=fun _=>rfl,o2:=fun h=>rfl }⟩)))))
        ·obtain rfl:=H.h1 (by simp[hi]);refine wpOp_hidden rfl fun K hK=>?_;go_wp2;refine OnlyN.mk (hK.out _ _ (e_8 (e_8 (e_8 (e_1 ⟨rfl,rfl,{ H with h2:=fun _=>rfl,o2:=fun _=>(by simp[hi]),o3:=fun h=>rfl }⟩)))))
        ·obtain rfl:=H.h2 (by simp[hi]);refine wpOp_hidden rfl fun K hK=>?_;go_wp2;refine OnlyN.mk (hK.out _ _ (e_8 (e_8 (e_8 (e_1 ⟨rfl,rfl,{ H with h3:=fun _=>rfl,o3:=fun _=>(by simp[hi]),o4:=fun h=>rfl }⟩)))))
        ·obtain rfl:=H.h3 (by simp[hi]);refine wpOp_hidden rfl fun K hK=>?_;go_wp2;refine OnlyN.mk (hK.out _ _ (e_8 (e_8 (e_8 (e_1 ⟨rfl,rfl,{ H with h4:=fun _=>rfl,o4:=fun _=>(by simp[hi]),o5:=fun h=>rfl }⟩)))))
        ·have bAf:b8=false:=by
          cases hb:b8 with
          | false=>rfl
          | true=>exact absurd (H.o8 hb).1 (by simp[hi])
         obtain rfl:=H.h4 (by simp[hi]);have cc0:=(H.hk bAf ⟨gp,4,none⟩ HLX.out.1.1).trans HLX.out.1.2;clear bAf;refine wpOp_hidden rfl fun K hK=>?_;go_wp2;refine OnlyN.mk (hK.out _ _ (e_8 (e_8 (e_8 (e_1 ⟨rfl,rfl,{ H with h5:=fun _=>rfl,o5:=fun _=>(by simp[hi]),o8:=fun h=>⟨rfl,(H.o8 h).2⟩ }⟩)))))
        ·have bAf:b8=false:=by
          cases hb:b8 with
          | false=>rfl
          | true=>exact absurd (H.o7 (H.o8 hb).2) (by simp[hi])
         have cc0:=(H.hk bAf ⟨gr,0,none⟩ HLX.out.2.1).trans HLX.out.2.2.1;have cc1:=(H.hk bAf ⟨gr,1,none⟩ HLX.out.2.1).trans HLX.out.2.2.2;clear bAf;refine wpOp_hidden rfl fun K hK=>?_;go_wp2;refine OnlyN.mk (hK.out _ _ (e_8 (e_8 (e_8 (e_1 ⟨rfl,rfl,{ H with h6:=fun _=>rfl,o7:=fun h=>rfl }⟩)))))
        ·have bAf:b8=false:=by
          cases hb:b8 with
          | false=>rfl
          | true=>exact absurd (H.o8 hb).2 (by simp[hi])
         obtain rfl:=H.h6 (by simp[hi]);have hw:=H.wa (by simp[hi]);have hA:=bAf;subst hw;clear bAf;refine wpOp_hidden rfl fun K hK=>?_;go_wp2;refine OnlyN.mk (hK.out _ _ (e_8 (e_8 (e_8 (e_1 ⟨rfl,rfl,{ H with hk:=fun _ p hp=>World.cell?_alloc_lt w5 _ p hp,wa:=fun h=>(by cases h),wb:=fun _ _=>⟨rfl,rfl⟩,wc:=fun h=>absurd h (by rw[hA];decide),wd:=fun h=>absurd (H.ord2 h).1 (by rw[hA];decide),o7:=fun _=>(by simp[hi]),o8:=fun h=>⟨(H.o8 h).1,rfl⟩ }⟩)))))
        ·obtain rfl:=H.h5 (by simp[hi]);obtain⟨hv,hw⟩:=H.wb (by simp[hi]) (by simp[hi]);obtain⟨Vd,hVd⟩:∃ Vd,Vd=World.drew w5:=⟨_,rfl⟩
         have hsz:w5.heap.size=Vd.heap.size:=by rw[hVd];rfl
         rw[← hVd] at hw;rw[hsz] at hv;subst hw;subst hv;have hown:OwnR0 48 Vd base (.slice rA rs.length rc) rs:=by rw[hVd];exact HOWN.out
         have hal:=HAL.out;have hws:base≤Vd.heap.size:=by rw[← hsz];exact HBS.out
         have HVD:=hid hVd;have HSZ:=hid hsz;clear hVd hsz;refine wpOp_hidden rfl fun K hK=>?_;refine wpList_pushR1 rfl _ _ _ rfl base 48 Tryz.underlying24 Tryz.infoRow _ _ rfl hown ⟨(some ⟨lb,lo,none⟩),n,ins,out⟩ rfl hal hws ?_;intro xv' w6 ho6 hk6 hm6;obtain⟨xA',xc',hxv',-⟩:=ho6.form;rw[List.length_append,List.length_singleton] at hxv';subst hxv';have HO6:=hid ho6;have HK6:Hid (Kept (fun g=>Value.ownBlock (.slice rA rs.length rc)=some g) w5 w6):=hid (Kept.trans (by rw[HVD.out];exact (Kept.refl _ w5).drew) hk6);have HM6:Hid ((Value.slice xA' (rs.length+1) xc').ownBlock=Value.ownBlock (.slice rA rs.length rc)∨∃ g,(Value.slice xA' (rs.length+1) xc').ownBlock=some g∧w5.heap.size≤g):=hid (by rw[HSZ.out];exact hm6);clear ho6 hk6 hm6 hown hal hws;go_wp2;refine OnlyN.mk (hK.out _ _ (e_8 (e_8 (e_8 (e_1 ⟨rfl,rfl,{ H with hk:=fun h=>(by cases h),wa:=fun h=>absurd h (by simp[hi]),wb:=fun _ h=>(by cases h),wc:=fun _ _=>⟨_,_,rfl,HO6.out,HK6.out,HM6.out⟩,wd:=fun h=>absurd (H.ord2 h).1 (by simp[hi]),ord2:=fun h=>⟨rfl,(H.ord2 h).2⟩,o8:=fun _=>(by simp[hi]) }⟩)))))
        ·obtain rfl:=H.h0 (by simp[hi]);refine wpOp_hidden rfl fun K hK=>?_;go_wp2;refine OnlyN.mk (hK.out _ _ (e_8 (e_8 (e_8 (e_1 ⟨rfl,rfl,{ H with h9:=fun _=>rfl,o9:=fun _=>(by simp[hi]),o10:=fun h=>rfl }⟩)))))
        ·obtain rfl:=H.h9 (by simp[hi]);refine wpOp_hidden rfl fun K hK=>?_;go_wp2;refine OnlyN.mk (hK.out _ _ (e_8 (e_8 (e_8 (e_1 ⟨rfl,rfl,{ H with h10:=fun _=>rfl,o10:=fun _=>(by simp[hi]),o11:=fun h=>rfl }⟩)))))
        ·obtain rfl:=H.h10 (by simp[hi]);refine wpOp_hidden rfl fun K hK=>?_;go_wp2;refine OnlyN.mk (hK.out _ _ (e_8 (e_8 (e_8 (e_1 ⟨rfl,rfl,{ H with h11:=fun _=>rfl,ord2:=fun h=>⟨(H.ord2 h).1,rfl⟩,o11:=fun _=>(by simp[hi]) }⟩)))))
        ·obtain rfl:=H.h11 (by simp[hi]);obtain⟨xA',xc',hv,ho6,hk6,hm6⟩:=H.wc (by simp[hi]) (by simp[hi]);subst hv;obtain⟨hn1,hn2,hn3⟩:=HP5.out.pushRow (O':=fun k=>O k∨(w.heap.size≤k∧k < w'.heap.size)) ho6 hk6 hm6 (fun k h=>.inl h) (HIN.out.kept hk6 (fun ad e h=>by injection e with e;subst e;exact absurd (HFAR.out _ (HP5.out.orv _ h)) (Nat.not_lt.2 HLO.out.1)))
          (fun ad e=>by injection e with e;subst e;exact .inr ⟨HLO.out.1,Nat.lt_of_lt_of_le (Nat.lt_of_lt_of_le HLO.out.2.1 HLO.out.2.2) hk6.below.size⟩)
          (fun ad e=>by
           injection e with e
           subst e;exact⟨Nat.lt_of_lt_of_le HLO.out.2.1 HLO.out.2.2,fun h=>absurd (HFAR.out _ (by have h':lb=gp:=h;rw[h'];exact HP5.out.og)) (Nat.not_lt.2 HLO.out.1),fun h=>absurd (HFAR.out _ (by have h':lb=M:=h;rw[h'];exact HP5.out.om)) (Nat.not_lt.2 HLO.out.1),fun h=>absurd (HFAR.out _ (HP5.out.ov _ h)) (Nat.not_lt.2 HLO.out.1),fun h=>absurd (HFAR.out _ (HP5.out.orv _ h)) (Nat.not_lt.2 HLO.out.1)⟩)
          (fun g h1 h2=>.inr ⟨Nat.le_trans HB5.out.size h1,h2⟩) (fun k hk=>by
           rcases hk with hk | hk
           ·exact Nat.lt_of_lt_of_le (HP5.out.inO k hk) hk6.below.size
           ·exact hk.2)
         have cx6:=hn3.cell_ 4 (.slice rA rs.length rc) rfl;have fx6:=hn3.frozen 4;clear hn3;have HPOST:=hid ((⟨_,_,fun k h=>h.imp id (fun h=>⟨h.1,by simpa using h.2⟩),hn1,hn2⟩:∃ (rv':Value) (O':Blks),(∀ k,O' k→O k∨(w.heap.size≤k∧k < (w'.setCell ⟨gp,4,none⟩ (.slice xA' (rs.length+1) xc')).heap.size))∧PrM O' base gp M hA hc vv rv' vs (rs ++ [⟨some ⟨lb,lo,none⟩,n,ins,out⟩]) D ⟨s.head,⟨s.t.st,s.t.sym,s.t.hood,s.t.vars,s.t.rows ++ [(ins,out)]⟩,s.names⟩ (w'.setCell ⟨gp,4,none⟩ (.slice xA' (rs.length+1) xc'))∧Kept O w5 (w'.setCell ⟨gp,4,none⟩ (.slice xA' (rs.length+1) xc'))));clear ho6 hk6 hm6;refine wpOp_hidden rfl fun K hK=>?_;go_wp2;refine OnlyN.mk (hK.out _ _ (e_8 (e_8 (e_8 (e_1 ⟨rfl,rfl,{ H with hk:=fun h=>absurd h (by simp[hi]),wa:=fun h=>absurd h (by simp[hi]),wb:=fun _ h=>absurd h (by simp[hi]),wc:=fun _ h=>(by cases h),wd:=fun _=>HPOST.out,ord2:=fun _=>(by simp[hi]) }⟩)))))
       ·rintro listed act w' hr ⟨b0,b1,b2,b3,b4,b5,b6,b7,b8,b9,b10,b11,b12,v81,v82,v83,v84,v85,v86,v87,v88,v89,v90,v91,v92,rfl,rfl,H⟩;have hn:=List.eq_nil_iff_forall_not_mem.1 hr;have r0:=hn 0;simp[mem_ready,Region.binds] at r0;subst r0;have r1:=hn 1;simp[mem_ready,Region.binds] at r1;subst r1;have r2:=hn 2;simp[mem_ready,Region.binds] at r2;subst r2;have r3:=hn 3;simp[mem_ready,Region.binds] at r3;subst r3;have r4:=hn 4;simp[mem_ready,Region.binds] at r4;subst r4;have r5:=hn 5;simp[mem_ready,Region.binds] at r5;subst r5;have r6:=hn 6;simp[mem_ready,Region.binds] at r6;subst r6;have r7:=hn 7;simp[mem_ready,Region.binds] at r7;subst r7;have r8:=hn 8;simp[mem_ready,Region.binds] at r8;subst r8;have r9:=hn 9;simp[mem_ready,Region.binds] at r9;subst r9;have r10:=hn 10;simp[mem_ready,Region.binds] at r10;subst r10;have r11:=hn 11;simp[mem_ready,Region.binds] at r11;subst r11;have r12:=hn 12;simp[mem_ready,Region.binds] at r12;subst r12;try dsimp only
        obtain⟨rv',O',h1,h2,h3⟩:=H.wd rfl;have H1:=hid h1;have H2:=hid h2;have H3:=hid h3;clear H hr hn h1 h2 h3;go_wp2;go_ret;rw[HR2.out];exact⟨rfl,(Kept.of_new O HB5.out).trans H3.out,fun _=>⟨_,_,H2.out.wide H1.out (fun k h=>h.elim (fun h=>Nat.lt_of_lt_of_le (HFAR.out k h) (Nat.le_trans HB5.out.size H3.out.below.size)) (fun h=>h.2))⟩⟩
  ·rw[if_pos (.inr ha)] at hres;rw[decide_eq_false ha] at d3;have HR:=hid hres;clear hres hS hw hP hwl ha hwnn hgb h2 hws hn HS HW HP;go_enter Tryz.func92,Tryz.ntmps92;go_wp2;go_ret;exact HERR.out _ _ _ HR.out (by decide) rfl (Below.refl _ _)
 ·rw[if_pos (.inl h2)] at hres;have d2:=(ne_dec (a:=ws.length) (b:=n)).2 h2;have HR:=hid hres;clear hres hS hw hP hwl h2 hws hn HS HW HP;go_enter Tryz.func92,Tryz.ntmps92;go_wp2;go_ret;exact HERR.out _ _ _ HR.out (by decide) rfl (Below.refl _ _)
theorem str_eq2 (a b:ByteArray):(a.toList == b.toList)=decide (a.data.toList=b.data.toList):=by
 rw[ByteArray.toList_eq,ByteArray.toList_eq];by_cases h:a.data.toList=b.data.toList
 ·rw[decide_eq_true h,beq_iff_eq];exact h
 ·rw[decide_eq_false h,beq_eq_false_iff_ne];exact h
def placeI (w:Wd)(k:Nat)(l:List Wd):Int:=match placeW w k l with
 | none=>-1
 | some i=>(i:Int)
theorem place_step {w:Wd}{bs:List ByteArray}{k:Nat}(h:k < bs.length):placeI w k (wdsB (bs.drop k))=if bs[k].data.toList=w then (k:Int) else placeI w (k+1) (wdsB (bs.drop (k+1))):=by
 rw[List.drop_eq_getElem_cons h];unfold placeI wdsB;rw[List.map_cons];by_cases e:bs[k].data.toList=w
 ·rw[if_pos e,placeW_hit e]
 ·rw[if_neg e,placeW_miss e]
set_option maxHeartbeats 1600000 in
theorem sidx_any (A:Option Addr)(bs:List ByteArray)(c:Nat)(n:ByteArray)(w:World)(ha:Sts w A bs) :
  Calls Tryz.prog 90 #[.slice A bs.length c,.string n] w fun e w'=>e=.returned (.int .i64 (placeI n.data.toList 0 (wdsB bs)))∧w'=w:=by
 have hn:=ha.le;obtain⟨nl,hnl⟩:∃ l,l=n.data.toList:=⟨_,rfl⟩
 rw[← hnl];have HNL:=hid hnl;clear hnl;go_enter Tryz.func90,Tryz.ntmps90;go_wp2
 go_loop [8] (fun i=>∃ k:Nat,k≤bs.length∧i=.int .i64 k∧Hid (placeI nl 0 (wdsB bs)=placeI nl k (wdsB (bs.drop k)))) (fun i=>bs.length - (intOf i).toNat)
 case atStart=>exact⟨0,Nat.zero_le _,rfl,hid rfl⟩
 case round=>
  obtain⟨k,hk,rfl,HT⟩:=hrel;by_cases hlt:k < bs.length
  ·obtain⟨b1,o1,rfl,-,hc⟩:=ha.at_ hlt;have hd:=place_step (w:=nl) hlt;obtain⟨x,hx⟩:∃ z,z=bs[k]'hlt:=⟨_,rfl⟩
   rw[← hx] at hc hd;have d1:=str_eq2 n x;rw[← HNL.out] at d1;clear hx;by_cases h1:x.data.toList=nl
   ·have HN:=hid (HT.out.trans (hd.trans (if_pos h1)));rw[decide_eq_true h1.symm] at d1;clear hd h1 HT;go_wp2;go_ret;exact⟨ret_int HN.out.symm,rfl⟩
   ·have HN:=hid (HT.out.trans (hd.trans (if_neg h1)));rw[decide_eq_false (fun e=>h1 e.symm)] at d1;clear hd h1 HT;go_wp2
    go_round
    case rel=>exact⟨k+1,by omega,by go_num,HN⟩
    case measure=>simp[intOf];omega
  ·obtain rfl:k=bs.length:=by omega
   have hno:placeI nl 0 (wdsB bs) = -1:=by rw[HT.out,List.drop_length];rfl
   have HN:=hid hno;clear hno HT;go_wp2;go_ret;exact⟨ret_int HN.out.symm,rfl⟩
set_option maxHeartbeats 1600000 in
theorem rplace_any (A:Option Addr)(bs:List ByteArray)(c:Nat)(n:ByteArray)(w:World)(ha:Sts w A bs) :
  Calls Tryz.prog 94 #[.slice A bs.length c,.string n] w fun e w'=>e=.returned (.int .i64 (placeI n.data.toList 0 (wdsB bs)))∧w'=w:=by
 have hn:=ha.le;obtain⟨nl,hnl⟩:∃ l,l=n.data.toList:=⟨_,rfl⟩
 rw[← hnl];have HNL:=hid hnl;clear hnl;go_enter Tryz.func94,Tryz.ntmps94;go_wp2
 go_loop [5] (fun i=>∃ k:Nat,k≤bs.length∧i=.int .i64 k∧Hid (placeI nl 0 (wdsB bs)=placeI nl k (wdsB (bs.drop k)))) (fun i=>bs.length - (intOf i).toNat)
 case atStart=>exact⟨0,Nat.zero_le _,rfl,hid rfl⟩
 case round=>
  obtain⟨k,hk,rfl,HT⟩:=hrel;by_cases hlt:k < bs.length
  ·obtain⟨b1,o1,rfl,-,hc⟩:=ha.at_ hlt;have hd:=place_step (w:=nl) hlt;obtain⟨x,hx⟩:∃ z,z=bs[k]'hlt:=⟨_,rfl⟩
   rw[← hx] at hc hd;have d1:=str_eq2 x n;rw[← HNL.out] at d1;clear hx;by_cases h1:x.data.toList=nl
   ·have HN:=hid (HT.out.trans (hd.trans (if_pos h1)));rw[decide_eq_true h1] at d1;clear hd h1 HT;go_wp2;go_ret;exact⟨ret_int HN.out.symm,rfl⟩
   ·have HN:=hid (HT.out.trans (hd.trans (if_neg h1)));rw[decide_eq_false h1] at d1;clear hd h1 HT;go_wp2
    go_round
    case rel=>exact⟨k+1,by omega,by go_num,HN⟩
    case measure=>simp[intOf];omega
  ·obtain rfl:k=bs.length:=by omega
   have hno:placeI nl 0 (wdsB bs) = -1:=by rw[HT.out,List.drop_length];rfl
   have HN:=hid hno;clear hno HT;go_wp2;go_ret;exact⟨ret_int HN.out.symm,rfl⟩
end Go.Proofs.YtcmbdhopmncmnaaGreatDoor
