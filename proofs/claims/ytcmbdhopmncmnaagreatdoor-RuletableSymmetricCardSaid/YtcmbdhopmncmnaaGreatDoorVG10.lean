/-
  texts Row11 Plc11 Line11 Lit11 Ffs11: parts of the proof; conditions stand with each theorem.
-/
import Derived.Test.YtcmbdhopmncmnaaGreatDoorVG9
import Derived.Test.YtcmbdhopmncmnaaGreatDoorVG7
import Derived.Test.YtcmbdhopmncmnaaGreatDoorVG8
import Derived.Lib.IndexBytes
import Derived.Test.YtcmbdhopmncmnaaGreatDoorShelf
import Derived.Shelf.Strings.FieldsFuncAny
namespace Go.Proofs.YtcmbdhopmncmnaaGreatDoor
open Lib(hid)
open Go.RowKit Go.Maps
set_option maxRecDepth 100000
set_option linter.unusedVariables false
set_option linter.unusedSimpArgs false
theorem wdsB_get {ws:List ByteArray}{i:Nat}(h:i < ws.length)(h':i < (wdsB ws).length):(wdsB ws)[i]=ws[i].data.toList:=by simp[wdsB]
theorem skW_same {s:PSt}{W:List Wd}{n i:Nat}{zs:List Int}(h:elemsW s (skW W n i)=(zs,0))(hin:i=n)(hi:i < W.length):elemsW s (skW W n (i+1))=(zs,0):=by
 subst hin;rw[skW_at W i hi];exact h
theorem wrap_n2 {n:Nat}(h:n≤1000000):wrap64 ((n:Int)+2)=(n:Int)+2:=by unfold wrap64;omega
theorem ne_dec {a b:Nat}:(a=b+2→(((a:Nat):Int) != (b:Int)+2)=false)∧(a≠b+2→(((a:Nat):Int) != (b:Int)+2)=true):=⟨fun h=>by rw[bne_eq_false_iff_eq];omega,fun h=>by rw[bne_iff_ne];omega⟩
theorem eq_dec {a b:Nat}:(a=b→((a:Int) == (b:Int))=true)∧(a≠b→((a:Int) == (b:Int))=false):=⟨fun h=>by rw[beq_iff_eq];omega,fun h=>beq_false_of_ne (by omega)⟩
structure Rw19J (V:World)(bs:Nat)(acc:List Rh)(xv:Value)(lv:Int)(zA:Option Addr)(zc:Nat)(zs:List Int)(gp:Nat)(gr:Nat)(post:World→Prop)(b0 b1 b2 b3 b4 b5 b6 b7 b8 b9 b10 b11 b12:Bool)(v81 v82 v83 v84 v85 v86 v87 v88 v89 v90 v91 v92:Value)(w:World):Prop where
 h0:b0=true→v81=.pointer (some ⟨gp,0,none⟩)
 h1:b1=true→v82=.pointer (some ⟨gp,0,none⟩)
 h2:b2=true→v83=.pointer (some ⟨gp,0,none⟩)
 h3:b3=true→v84=.pointer (some ⟨gp,0,none⟩)
 h4:b4=true→v85=.pointer (some ⟨gp,4,none⟩)
 h5:b5=true→v86=xv
 h6:b6=true→v87=.agg #[.slice zA zs.length zc,.int .i64 lv]
 h9:b9=true→v90=.pointer (some ⟨gp,0,none⟩)
 h10:b10=true→v91=.pointer (some ⟨gp,0,none⟩)
 h11:b11=true→v92=.pointer (some ⟨gp,4,none⟩)
 hk:b8=false→∀ p:Addr,p.block < V.heap.size→w.cell? p=V.cell? p
 wa:b7=false→w=V.drew
 wb:b7=true→b8=false→v88=.slice (some ⟨V.heap.size,0,none⟩) 1 1∧w=V.drew.alloc (.cells #[.slice zA zs.length zc,.int .i64 lv] 48)
 wc:b8=true→b12=false→∃ X c,v89=.slice X (acc.length+1) c∧OwnR0 48 w bs (.slice X (acc.length+1) c) (acc ++ [⟨zA,zc,zs,lv⟩])∧Kept (fun g=>xv.ownBlock=some g) V w∧((Value.slice X (acc.length+1) c).ownBlock=xv.ownBlock∨∃ g,(Value.slice X (acc.length+1) c).ownBlock=some g∧V.heap.size≤g)
 wd:b12=true→post w
 ord2:b12=true→b8=true∧b11=true
 o2:b2=true→b1=true
 o3:b3=true→b2=true
 o4:b4=true→b3=true
 o5:b5=true→b4=true
 o7:b7=true→b6=true
 o8:b8=true→b5=true∧b7=true
 o9:b9=true→b0=true
 o10:b10=true→b9=true
 o11:b11=true→b10=true
set_option maxHeartbeats 16000000 in
theorem row_any {O:Blks}{base gp M:Nat}{hA:Option Addr}{hc:Nat}{vv rv:Value}{vs:List Vh}{rs:List Rh}{D:DataW Unit}{s:PSt}(gw:Nat)(ws:List ByteArray)(w:World)(hP:PrM O base gp M hA hc vv rv vs rs D s w)(hS:Sts w (some ⟨gw,0,none⟩) ws)(hw:∀ x ∈ ws,x.size≤2147483648)(hws:ws.length≤1000000)(h40:vs.length≤40)(h400:rs.length≤400)(hH:s.t.hood.length≤1000)(hbase:base≤w.heap.size) :
  Calls Tryz.prog 92 #[.pointer (some ⟨gp,0,none⟩),.slice (some ⟨gw,0,none⟩) ws.length ws.length] w fun e w'=>e=.returned (.int .i64 (rowW s (wdsB ws)).2)∧Kept O w w'∧
   ((rowW s (wdsB ws)).2=0→∃ rv' rs',PrM (fun k=>O k∨(w.heap.size≤k∧k < w'.heap.size)) base gp M hA hc vv rv' vs rs' D (rowW s (wdsB ws)).1 w'):=by
 obtain⟨rA,rc,erv,-⟩:=hP.rows.form;subst erv;have hrl:s.t.rows.length=rs.length:=by rw[← hP.ers,List.length_map]
 have hnv:s.names.length=vs.length:=by rw[hP.nms,← hP.evs,List.length_map]
 have HS:=hid hS;have HW:=hid hw;have hwl:(wdsB ws).length=ws.length:=by unfold wdsB;rw[List.length_map]
 obtain⟨res,hres⟩:∃ r,r=rowW s (wdsB ws):=⟨_,rfl⟩
 rw[← hres];unfold rowW at hres;rw[hwl,hrl] at hres;have ERR:∀ (e:Ending) (c:Int) (w':World),res=(s,c)→c≠0→e=.returned (.int .i64 c)→Below w.heap.size w w'→e=.returned (.int .i64 res.2)∧Kept O w w'∧(res.2=0→∃ rv' rs',PrM (fun k=>O k∨(w.heap.size≤k∧k < w'.heap.size)) base gp M hA hc vv rv' vs rs' D res.1 w'):=by
  rintro e c w' rfl hc0 rfl hb;exact⟨rfl,Kept.of_new _ hb,fun h=>absurd h hc0⟩
 have HERR:=hid ERR;have HP:=hid hP;have HBD:Hid (vs.length≤40∧rs.length≤400∧s.t.hood.length≤1000∧base≤w.heap.size∧ws.length≤1000000∧s.names.length≤1000000):=hid ⟨h40,h400,hH,hbase,hws,by omega⟩;have c2:=hP.blk.cell_ 2 (.slice hA s.t.hood.length hc) rfl;obtain⟨n,hn⟩:∃ n,n=s.t.hood.length:=⟨_,rfl⟩
 rw[← hn] at c2 hres;have hwn:=wrap_n2 (n:=n) (by omega);have HNE:=hid hn;clear ERR h40 h400 hbase hrl hnv hH;by_cases h2:ws.length=n+2
 ·have d2:=(ne_dec (a:=ws.length) (b:=n)).1 h2;have hn1:n < ws.length:=by omega
  obtain⟨gb,go,e1,hgb,cwn⟩:=hS.at_ (k:=n) hn1;injection e1 with e1
  injection e1 with e1 e2
  subst e1 e2;rw[wdsB_getD hn1] at hres;rw[Nat.zero_add] at cwn;obtain⟨wn,hwnn⟩:∃ z,z=ws[n]'hn1:=⟨_,rfl⟩
  rw[← hwnn] at cwn hres;have d3:(wn.toList == [45,62])=decide (wn.data.toList=arrowW):=str_eq wn [45,62];by_cases ha:wn.data.toList=arrowW
  ·rw[if_neg (by rintro (h | h);exact h h2;exact h ha)] at hres;rw[decide_eq_true ha] at d3;have HRES:=hid hres;have HL2:Hid (ws.length=n+2∧(wdsB ws).length=n+2):=hid ⟨h2,by rw[hwl];exact h2⟩;have h9:ws.length≤9223372036854775807:=hS.le;clear hres hS hw hP hwl ha hwnn hgb h2 hws hn;go_enter Tryz.func92,Tryz.ntmps92;go_wp2;clear c2 cwn d3 d2 hwn;go_loopw [6,32] (fun lv iv wr=>∃ (i:Nat) (zs:List Int),i≤ws.length∧iv=.int .i64 i∧Hid (OwnIA wr w.heap.size lv zs)∧Hid (Below w.heap.size w wr)∧Hid (elemsW s (skW (wdsB ws) n i)=(zs,0))∧Hid (zs.length≤i)) (fun _ iv _=>ws.length - (intOf iv).toNat)
   case atStart=>exact⟨0,[],Nat.zero_le _,rfl,hid (OwnI.nil _ _ _),hid (Below.refl _ _),hid (by rw[skW_zero];rfl),hid (Nat.zero_le _)⟩
   case round=>
    obtain⟨i,zs,hi,rfl,HO,HB,HE,HZL⟩:=hrel;by_cases hil:i < ws.length
    ·obtain⟨gb,go,e1,hgb2,cwi⟩:=(HS.out.ext HB.out).at_ hil;injection e1 with e1
     injection e1 with e1 e2
     subst e1 e2;have hxs:=HW.out _ (List.getElem_mem hil);have hWi:i < (wdsB ws).length:=by rw[HL2.out.2,← HL2.out.1];exact hil
     have hWe:=wdsB_get hil hWi;obtain⟨x,hx⟩:∃ z,z=ws[i]'hil:=⟨_,rfl⟩
     rw[← hx] at cwi hWe hxs;have HI:Hid (i+1≤ws.length∧True):=hid ⟨hil,trivial⟩;have hwi:wrap64 ((i:Int)+1)=(i:Int)+1:=by unfold wrap64;omega
     have HWI:=hid hwi;have cwj:wr.cell? ⟨gw,i,none⟩=some (.string x):=by rw[Nat.zero_add] at cwi;exact cwi
     have HPr:=hid (HP.out.ext HB.out);by_cases hin:i=n
     ·have q1:=(eq_dec (a:=i) (b:=n)).1 hin;have HE2:Hid (elemsW s (skW (wdsB ws) n (i+1))=(zs,0)):=hid (skW_same HE.out hin hWi);have HZ2:Hid (zs.length≤i+1):=hid (Nat.le_succ_of_le HZL.out);have HIN:=hid hin;clear hi hwi hx hxs hgb2 cwi hin hWe hWi;go_wp2;go_roundw
      case rel=>exact⟨i+1,zs,HI.out.1,(by first | rfl | (rw[HWI.out];rfl)),HO,HB,HE2,HZ2⟩
      case measure=>(try rw[HWI.out]);exact meas_step HI.out.1
     ·have q1:=(eq_dec (a:=i) (b:=n)).2 hin;have HEL:=hid (element_any x wr HPr.out hxs HBD.out.2.2.2.2.2);obtain⟨ev,hev⟩:∃ e,e=elemW s x.data.toList:=⟨_,rfl⟩
      rw[← hev] at HEL;obtain⟨z,ec⟩:=ev;dsimp only at HEL;by_cases hec:ec=0
      ·subst hec;have hsk:skW (wdsB ws) n (i+1)=skW (wdsB ws) n i ++ [x.data.toList]:=by
        rcases Nat.lt_or_ge i n with h | h
        ·rw[skW_lt hWi h,hWe]
        ·rw[skW_gt hWi (by omega),hWe]
       have HE2:Hid (elemsW s (skW (wdsB ws) n (i+1))=(zs ++ [z],0)):=hid (by rw[hsk];exact elems_snoc HE.out hev.symm);have HZ2:Hid ((zs ++ [z]).length≤i+1):=hid (by rw[List.length_append];exact Nat.succ_le_succ HZL.out);have hown:=HO.out;have hlv:zs.length < 1000000000000:=by have:=HZL.out;have:=HBD.out.2.2.2.2.1;omega
       have hbs:=HB.out.size;clear hi hwi hx hxs hgb2 cwi hin hWe hWi hev hsk;go_wp2_with (go_at_call 119;refine HEL.out.mono ?_;rintro e w' ⟨rfl,hw'⟩;have hw2:=hw'.symm;clear hw';subst hw2;refine Hid.out ?_);refine hid ?_;go_wp2_with (at_builtin;refine wpList_pushI rfl _ _ _ rfl w.heap.size 3 Tryz.underlying30 Tryz.infoInt _ _ rfl hown _ rfl hlv hbs ?_);intro v' w7 ho' hb';have HO7:=hid ho';have HB7:=hid (HB.out.trans hb');clear ho' hb' hown hlv hbs cwj HPr;go_wp2;go_roundw
       case rel=>exact⟨i+1,zs ++ [z],HI.out.1,(by first | rfl | (rw[HWI.out];rfl)),HO7,HB7,HE2,HZ2⟩
       case measure=>(try rw[HWI.out]);exact meas_step HI.out.1
      ·have HR:Hid (res=(s,ec)):=hid (by
        obtain⟨r,hr⟩:=skW_split (W:=wdsB ws) (n:=n) hWi (by rw[HL2.out.2];omega) hin;have h:=HRES.out;rw[hr,hWe,elems_err r HE.out (by rw[← hev];exact hec),← hev] at h;dsimp only at h;rw[if_pos hec] at h;exact h)
       have q2:(ec != 0)=true:=by rw[bne_iff_ne];exact hec
       have HEC:=hid hec;clear hi hwi hx hxs hgb2 cwi hin hWe hWi hev hec;go_wp2_with (go_at_call 119;refine HEL.out.mono ?_;rintro e w' ⟨rfl,hw'⟩;have hw2:=hw'.symm;clear hw';subst hw2;refine Hid.out ?_);refine hid ?_;go_wp2;go_ret;exact HERR.out _ _ _ HR.out HEC.out rfl HB.out
    ·obtain rfl:i=ws.length:=Nat.le_antisymm hi (Nat.le_of_not_lt hil);have hall:=HE.out;rw[← show (wdsB ws).length=ws.length by rw[HL2.out.2,HL2.out.1],skW_all (by rw[HL2.out.2];omega)] at hall;have hzl:zs.length=n+1:=by
      rw[elems_len hall,List.length_append,List.length_take,List.length_drop,HL2.out.2];omega
     have hres:=HRES.out;rw[hall] at hres;dsimp only at hres;rw[if_neg (by simp)] at hres;have HRES2:=hid hres;have HZN:=hid hzl;clear hres hall HRES hi hil HE HZL hzl;obtain⟨lA,lc,elv,hli,hcap⟩:=OwnI.capI HO.out;subst elv;obtain⟨lb,lo,e1,hlb,cl⟩:=hli.at_ (k:=n) (by rw[HZN.out];exact Nat.lt_succ_self n);subst e1;obtain⟨out,hout⟩:∃ z,z=zs[n]'(by rw[HZN.out];exact Nat.lt_succ_self n):=⟨_,rfl⟩
     rw[← hout] at cl;have HOUT:Hid (zs.getD n 0=out):=hid (by rw[hout,List.getD_eq_getElem?_getD,List.getElem?_eq_getElem (by rw[HZN.out];exact Nat.lt_succ_self n)];rfl);have HLI:=hid hli;rw[HZN.out] at hcap;have hc1:n≤lc:=Nat.le_of_succ_le hcap;have hn9:n≤9223372036854775807:=by rw[HNE.out];exact HP.out.hood.le
     rw[HZN.out];have cl2:((wr.alloc (Obj.cells #[.slice none 0 0,.int .i64 0] 48)).drew).cell? ⟨lb,lo+n,none⟩=some (.int .i64 out):=(World.cell?_alloc_lt wr _ _ hlb).trans cl;clear hout hlb hli hcap;go_upto_region 14 with fail
     go_region
     go_upto_region 15 with fail
     clear cl cl2 hc1 hn9;obtain⟨gr,hgr⟩:∃ g,g=wr.heap.size:=⟨_,rfl⟩
     obtain⟨w5,hw5⟩:∃ W,W=(wr.alloc (.cells #[.slice (some ⟨lb,lo,none⟩) n n,.int .i64 out] 48)).drew:=⟨_,rfl⟩
     rw[← hw5,← hgr];have hb5:Below wr.heap.size wr w5:=by rw[hw5];exact (below_new _ _).drew
     have hbr:Blk w5 gr 48 #[.slice (some ⟨lb,lo,none⟩) n n,.int .i64 out]:=by rw[hw5,hgr];exact Blk.new _ _ _
     have HP5:=hid (HP.out.ext (HB.out.trans (hb5.mono HB.out.size)));have HB5:=hid (HB.out.trans (hb5.mono HB.out.size));have hin:=(HLI.out.ext hb5).take n;have htl:(zs.take n).length=n:=by rw[List.length_take,HZN.out];exact Nat.min_eq_left (Nat.le_succ n)
     have hres:=HRES2.out;rw[HOUT.out] at hres;obtain⟨ins,hins⟩:∃ z,z=zs.take n:=⟨_,rfl⟩
     rw[← hins] at hin htl hres;have HIN:=hid hin;clear hin hins;have hlo:=own_lt' HO.out (show (Value.slice (some ⟨lb,lo,none⟩) zs.length lc).ownBlock=some lb from rfl);have HLO:Hid (w.heap.size≤lb∧lb < wr.heap.size∧wr.heap.size≤w5.heap.size):=hid ⟨hlo.2,hlo.1,hb5.size⟩;have hlz:lo=0:=by
      rcases HO.out.2 with ⟨h1,-⟩ | ⟨g,cap,cur,h1,-⟩
      ·cases h1
      ·injection h1 with h1
       injection h1 with h1
       injection h1 with _ h1
     have hbrl:=hbr.lt;have HBR:=hid hbr;have r0:=hbr.cell_ 0 (.slice (some ⟨lb,lo,none⟩) n n) rfl;have r1:=hbr.cell_ 1 (.int .i64 out) rfl;have HCON:=hid (contains_any (some ⟨lb,lo,none⟩) ins n out w5 HIN.out);rw[htl] at HCON;have x4:=HP5.out.blk.cell_ 4 (.slice rA rs.length rc) rfl;clear hb5 hbr hw5 hgr hlo hlz hbrl HRES2 HOUT;by_cases h0:out < 0
     ·have q0:decide (out < 0)=true:=decide_eq_true h0;by_cases hm:out ∈ ins
      ·rw[decide_eq_true hm] at HCON;rw[if_neg (fun h=>h.2 hm)] at hres;have HR:=hid hres;clear hres hm h0;go_wp2_with (go_at_call 30;refine HCON.out.mono ?_;rintro e w' ⟨rfl,hw'⟩;have hw2:=hw'.symm;clear hw';subst hw2;refine Hid.out ?_);refine hid ?_;by_cases h4:400≤rs.length
       ·have q5:decide ((400:Int)≤(rs.length:Int))=true:=dec_le.1 h4;have HR2:Hid (res=(s,6)):=hid (by rw[HR.out,if_pos h4]);clear h4;go_wp2;go_ret;exact HERR.out _ _ _ HR2.out (by decide) rfl HB5.out
       ·have q5:decide ((400:Int)≤(rs.length:Int))=false:=dec_le.2 h4;have HR2:Hid (res=(⟨s.head,⟨s.t.st,s.t.sym,s.t.hood,s.t.vars,s.t.rows ++ [(ins,out)]⟩,s.names⟩,0)):=hid (by rw[HR.out,if_neg h4]);have HAL:Hid (rs.length < 1000000000000):=hid (Nat.lt_of_le_of_lt HBD.out.2.1 (by decide));clear h4;go_upto_region 19 with fail
        have HFAR:Hid (∀ k,O k→k < w.heap.size):=hid HP.out.inO;have HOWN:=hid HP5.out.rows;have HBS:Hid (base≤w5.heap.size):=hid (Nat.le_trans HBD.out.2.2.2.1 HB5.out.size);have HLX:Hid ((gp < w5.heap.size∧w5.cell? ⟨gp,4,none⟩=some (.slice rA rs.length rc))∧gr < w5.heap.size∧w5.cell? ⟨gr,0,none⟩=some (.slice (some ⟨lb,lo,none⟩) ins.length n)∧w5.cell? ⟨gr,1,none⟩=some (.int .i64 out)):=hid ⟨⟨HP5.out.blk.lt,x4⟩,HBR.out.lt,by rw[htl];exact r0,r1⟩;have HTL:=hid htl;clear r0 r1 x4 htl;refine wp_region_J (by kernel_rfl) (fun listed act w'=>∃ b0 b1 b2 b3 b4 b5 b6 b7 b8 b9 b10 b11 b12 v81 v82 v83 v84 v85 v86 v87 v88 v89 v90 v91 v92,listed=#[b0,b1,b2,b3,b4,b5,b6,b7,b8,b9,b10,b11,b12]∧act=Act.mk #[.pointer (some ⟨gp,0,none⟩),.slice (some ⟨gw,0,none⟩) ws.length ws.length,undef,undef,u4,.int .i64 ↑n,.slice (some ⟨lb,lo,none⟩) (n+1) lc,u7,u8,u9,u10,.pointer (some ⟨gr,0,none⟩),.pointer (some ⟨gp,0,none⟩),.pointer (some ⟨gp,0,none⟩),.pointer (some ⟨gp,0,none⟩),.pointer (some ⟨gp,2,none⟩),.slice hA n hc,.int .i64 ↑n,.slice (some ⟨gw,0,none⟩) ws.length ws.length,.int .i64 ↑ws.length,.int .i64 ↑n,.int .i64 (↑n+2),.bool false,.bool false,.slice (some ⟨gw,0,none⟩) ws.length ws.length,.int .i64 ↑n,.pointer (some ⟨gw,n,none⟩),Value.string wn,.bool false,.bool false,.slice (some ⟨gw,0,none⟩) ws.length ws.length,.int .i64 ↑ws.length,.int .i64 ↑ws.length,.bool false,u34,u35,u36,u37,u38,u39,u40,u41,u42,u43,u44,u45,u46,u47,u48,u49,u50,u51,u52,u53,.slice (some ⟨lb,lo,none⟩) (n+1) lc,.int .i64 ↑n,.int .i64 ↑n,.slice (some ⟨lb,lo,none⟩) n n,.slice (some ⟨lb,lo,none⟩) (n+1) lc,.int .i64 ↑n,.pointer (some ⟨lb,lo+n,none⟩),.int .i64 out,.agg #[.slice (some ⟨lb,lo,none⟩) n n,.int .i64 out],.pointer (some ⟨gr,1,none⟩),.int .i64 out,.bool true,.bool true,.pointer (some ⟨gr,0,none⟩),.slice (some ⟨lb,lo,none⟩) n n,.pointer (some ⟨gr,1,none⟩),.int .i64 out,.bool true,.bool false,.bool false,.pointer (some ⟨gp,0,none⟩),.pointer (some ⟨gp,0,none⟩),.pointer (some ⟨gp,0,none⟩),.pointer (some ⟨gp,4,none⟩),.slice rA rs.length rc,.int .i64 ↑rs.length,.bool false,v81,v82,v83,v84,v85,v86,v87,v88,v89,v90,v91,v92] []∧Rw19J w5 base rs (.slice rA rs.length rc) out (some ⟨lb,lo,none⟩) n ins gp gr (fun W9=>∃ (rv':Value) (O':Blks),(∀ k,O' k→O k∨(w.heap.size≤k∧k < W9.heap.size))∧PrM O' base gp M hA hc vv rv' vs (rs ++ [⟨some ⟨lb,lo,none⟩,n,ins,out⟩]) D ⟨s.head,⟨s.t.st,s.t.sym,s.t.hood,s.t.vars,s.t.rows ++ [(ins,out)]⟩,s.names⟩ W9∧Kept O w5 W9) b0 b1 b2 b3 b4 b5 b6 b7 b8 b9 b10 b11 b12 v81 v82 v83 v84 v85 v86 v87 v88 v89 v90 v91 v92 w') ?_ ?_ ?_
        ·exact (e_8 (e_8 (e_8 (e_1 ⟨rfl,rfl,(by constructor;(case hk=>exact (fun _ _ _=>rfl));(case wa=>exact (fun _=>rfl));all_goals simp)⟩))))
        ·rintro i listed act w' hi ⟨b0,b1,b2,b3,b4,b5,b6,b7,b8,b9,b10,b11,b12,v81,v82,v83,v84,v85,v86,v87,v88,v89,v90,v91,v92,rfl,rfl,H⟩;have hi16:i < 13:=by
          obtain⟨-,o,ho,-⟩:=mem_ready.1 hi;exact (Array.getElem?_eq_some_iff.1 ho).1
         obtain rfl | rfl | rfl | rfl | rfl | rfl | rfl | rfl | rfl | rfl | rfl | rfl | rfl:i=0∨i=1∨i=2∨i=3∨i=4∨i=5∨i=6∨i=7∨i=8∨i=9∨i=10∨i=11∨i=12:=by omega
         all_goals simp[mem_ready,Region.binds] at hi
         ·refine wpOp_hidden rfl fun K hK=>?_;go_wp2;refine OnlyN.mk (hK.out _ _ (e_8 (e_8 (e_8 (e_1 ⟨rfl,rfl,{ H with h0:=fun _=>rfl,o9:=fun h=>rfl }⟩)))))
         ·refine wpOp_hidden rfl fun K hK=>?_;go_wp2;refine OnlyN.mk (hK.out _ _ (e_8 (e_8 (e_8 (e_1 ⟨rfl,rfl,{ H with h1:=fun _=>rfl,o2:=fun h=>rfl }⟩)))))
         ·obtain rfl:=H.h1 (by simp[hi]);refine wpOp_hidden rfl fun K hK=>?_;go_wp2;refine OnlyN.mk (hK.out _ _ (e_8 (e_8 (e_8 (e_1 ⟨rfl,rfl,{ H with h2:=fun _=>rfl,o2:=fun _=>(by simp[hi]),o3:=fun h=>rfl }⟩)))))
         ·obtain rfl:=H.h2 (by simp[hi]);refine wpOp_hidden rfl fun K hK=>?_;go_wp2;refine OnlyN.mk (hK.out _ _ (e_8 (e_8 (e_8 (e_1 ⟨rfl,rfl,{ H with h3:=fun _=>rfl,o3:=fun _=>(by simp[hi]),o4:=fun h=>rfl }⟩)))))
         ·obtain rfl:=H.h3 (by simp[hi]);refine wpOp_hidden rfl fun K hK=>?_;go_wp2;refine OnlyN.mk (hK.out _ _ (e_8 (e_8 (e_8 (e_1 ⟨rfl,rfl,{ H with h4:=fun _=>rfl,o4:=fun _=>(by simp[hi]),o5:=fun h=>rfl }⟩)))))
         ·have bAf:b8=false:=by
           cases hb:b8 with
           | false=>rfl
           | true=>exact absurd (H.o8 hb).1 (by simp[hi])
          obtain rfl:=H.h4 (by simp[hi]);have cc0:=(H.hk bAf ⟨gp,4,none⟩ HLX.out.1.1).trans HLX.out.1.2;clear bAf;refine wpOp_hidden rfl fun K hK=>?_;go_wp2;refine OnlyN.mk (hK.out _ _ (e_8 (e_8 (e_8 (e_1 ⟨rfl,rfl,{ H with h5:=fun _=>rfl,o5:=fun _=>(by simp[hi]),o8:=fun h=>⟨rfl,(H.o8 h).2⟩ }⟩)))))
         ·have bAf:b8=false:=by
           cases hb:b8 with
           | false=>rfl
           | true=>exact absurd (H.o7 (H.o8 hb).2) (by simp[hi])
          have cc0:=(H.hk bAf ⟨gr,0,none⟩ HLX.out.2.1).trans HLX.out.2.2.1;have cc1:=(H.hk bAf ⟨gr,1,none⟩ HLX.out.2.1).trans HLX.out.2.2.2;clear bAf;refine wpOp_hidden rfl fun K hK=>?_;go_wp2;refine OnlyN.mk (hK.out _ _ (e_8 (e_8 (e_8 (e_1 ⟨rfl,rfl,{ H with h6:=fun _=>rfl,o7:=fun h=>rfl }⟩)))))
         ·have bAf:b8=false:=by
           cases hb:b8 with
           | false=>rfl
           | true=>exact absurd (H.o8 hb).2 (by simp[hi])
          obtain rfl:=H.h6 (by simp[hi]);have hw:=H.wa (by simp[hi]);have hA:=bAf;subst hw;clear bAf;refine wpOp_hidden rfl fun K hK=>?_;go_wp2;refine OnlyN.mk (hK.out _ _ (e_8 (e_8 (e_8 (e_1 ⟨rfl,rfl,{ H with hk:=fun _ p hp=>World.cell?_alloc_lt w5 _ p hp,wa:=fun h=>(by cases h),wb:=fun _ _=>⟨rfl,rfl⟩,wc:=fun h=>absurd h (by rw[hA];decide),wd:=fun h=>absurd (H.ord2 h).1 (by rw[hA];decide),o7:=fun _=>(by simp[hi]),o8:=fun h=>⟨(H.o8 h).1,rfl⟩ }⟩)))))
         ·obtain rfl:=H.h5 (by simp[hi]);obtain⟨hv,hw⟩:=H.wb (by simp[hi]) (by simp[hi]);obtain⟨Vd,hVd⟩:∃ Vd,Vd=World.drew w5:=⟨_,rfl⟩
          have hsz:w5.heap.size=Vd.heap.size:=by rw[hVd];rfl
          rw[← hVd] at hw;rw[hsz] at hv;subst hw;subst hv;have hown:OwnR0 48 Vd base (.slice rA rs.length rc) rs:=by rw[hVd];exact HOWN.out
          have hal:=HAL.out;have hws:base≤Vd.heap.size:=by rw[← hsz];exact HBS.out
          have HVD:=hid hVd;have HSZ:=hid hsz;clear hVd hsz;refine wpOp_hidden rfl fun K hK=>?_;refine wpList_pushR1 rfl _ _ _ rfl base 48 Tryz.underlying24 Tryz.infoRow _ _ rfl hown ⟨(some ⟨lb,lo,none⟩),n,ins,out⟩ rfl hal hws ?_;intro xv' w6 ho6 hk6 hm6;obtain⟨xA',xc',hxv',-⟩:=ho6.form;rw[List.length_append,List.length_singleton] at hxv';subst hxv';have HO6:=hid ho6;have HK6:Hid (Kept (fun g=>Value.ownBlock (.slice rA rs.length rc)=some g) w5 w6):=hid (Kept.trans (by rw[HVD.out];exact (Kept.refl _ w5).drew) hk6);have HM6:Hid ((Value.slice xA' (rs.length+1) xc').ownBlock=Value.ownBlock (.slice rA rs.length rc)∨∃ g,(Value.slice xA' (rs.length+1) xc').ownBlock=some g∧w5.heap.size≤g):=hid (by rw[HSZ.out];exact hm6);clear ho6 hk6 hm6 hown hal hws;go_wp2;refine OnlyN.mk (hK.out _ _ (e_8 (e_8 (e_8 (e_1 ⟨rfl,rfl,{ H with hk:=fun h=>(by cases h),wa:=fun h=>absurd h (by simp[hi]),wb:=fun _ h=>(by cases h),wc:=fun _ _=>⟨_,_,rfl,HO6.out,HK6.out,HM6.out⟩,wd:=fun h=>absurd (H.ord2 h).1 (by simp[hi]),ord2:=fun h=>⟨rfl,(H.ord2 h).2⟩,o8:=fun _=>(by simp[hi]) }⟩)))))
         ·obtain rfl:=H.h0 (by simp[hi]);refine wpOp_hidden rfl fun K hK=>?_;go_wp2;refine OnlyN.mk (hK.out _ _ (e_8 (e_8 (e_8 (e_1 ⟨rfl,rfl,{ H with h9:=fun _=>rfl,o9:=fun _=>(by simp[hi]),o10:=fun h=>rfl }⟩)))))
         ·obtain rfl:=H.h9 (by simp[hi]);refine wpOp_hidden rfl fun K hK=>?_;go_wp2;refine OnlyN.mk (hK.out _ _ (e_8 (e_8 (e_8 (e_1 ⟨rfl,rfl,{ H with h10:=fun _=>rfl,o10:=fun _=>(by simp[hi]),o11:=fun h=>rfl }⟩)))))
         ·obtain rfl:=H.h10 (by simp[hi]);refine wpOp_hidden rfl fun K hK=>?_;go_wp2;refine OnlyN.mk (hK.out _ _ (e_8 (e_8 (e_8 (e_1 ⟨rfl,rfl,{ H with h11:=fun _=>rfl,ord2:=fun h=>⟨(H.ord2 h).1,rfl⟩,o11:=fun _=>(by simp[hi]) }⟩)))))
         ·obtain rfl:=H.h11 (by simp[hi]);obtain⟨xA',xc',hv,ho6,hk6,hm6⟩:=H.wc (by simp[hi]) (by simp[hi]);subst hv;obtain⟨hn1,hn2,hn3⟩:=HP5.out.pushRow (O':=fun k=>O k∨(w.heap.size≤k∧k < w'.heap.size)) ho6 hk6 hm6 (fun k h=>.inl h) (HIN.out.kept hk6 (fun ad e h=>by injection e with e;subst e;exact absurd (HFAR.out _ (HP5.out.orv _ h)) (Nat.not_lt.2 HLO.out.1)))
           (fun ad e=>by injection e with e;subst e;exact .inr ⟨HLO.out.1,Nat.lt_of_lt_of_le (Nat.lt_of_lt_of_le HLO.out.2.1 HLO.out.2.2) hk6.below.size⟩)
           (fun ad e=>by
            injection e with e
            subst e;exact⟨Nat.lt_of_lt_of_le HLO.out.2.1 HLO.out.2.2,fun h=>absurd (HFAR.out _ (by have h':lb=gp:=h;rw[h'];exact HP5.out.og)) (Nat.not_lt.2 HLO.out.1),fun h=>absurd (HFAR.out _ (by have h':lb=M:=h;rw[h'];exact HP5.out.om)) (Nat.not_lt.2 HLO.out.1),fun h=>absurd (HFAR.out _ (HP5.out.ov _ h)) (Nat.not_lt.2 HLO.out.1),fun h=>absurd (HFAR.out _ (HP5.out.orv _ h)) (Nat.not_lt.2 HLO.out.1)⟩)
           (fun g h1 h2=>.inr ⟨Nat.le_trans HB5.out.size h1,h2⟩) (fun k hk=>by
            rcases hk with hk | hk
            ·exact Nat.lt_of_lt_of_le (HP5.out.inO k hk) hk6.below.size
            ·exact hk.2)
          have cx6:=hn3.cell_ 4 (.slice rA rs.length rc) rfl;have fx6:=hn3.frozen 4;clear hn3;have HPOST:=hid ((⟨_,_,fun k h=>h.imp id (fun h=>⟨h.1,by simpa using h.2⟩),hn1,hn2⟩:∃ (rv':Value) (O':Blks),(∀ k,O' k→O k∨(w.heap.size≤k∧k < (w'.setCell ⟨gp,4,none⟩ (.slice xA' (rs.length+1) xc')).heap.size))∧PrM O' base gp M hA hc vv rv' vs (rs ++ [⟨some ⟨lb,lo,none⟩,n,ins,out⟩]) D ⟨s.head,⟨s.t.st,s.t.sym,s.t.hood,s.t.vars,s.t.rows ++ [(ins,out)]⟩,s.names⟩ (w'.setCell ⟨gp,4,none⟩ (.slice xA' (rs.length+1) xc'))∧Kept O w5 (w'.setCell ⟨gp,4,none⟩ (.slice xA' (rs.length+1) xc'))));clear ho6 hk6 hm6;refine wpOp_hidden rfl fun K hK=>?_;go_wp2;refine OnlyN.mk (hK.out _ _ (e_8 (e_8 (e_8 (e_1 ⟨rfl,rfl,{ H with hk:=fun h=>absurd h (by simp[hi]),wa:=fun h=>absurd h (by simp[hi]),wb:=fun _ h=>absurd h (by simp[hi]),wc:=fun _ h=>(by cases h),wd:=fun _=>HPOST.out,ord2:=fun _=>(by simp[hi]) }⟩)))))
        ·rintro listed act w' hr ⟨b0,b1,b2,b3,b4,b5,b6,b7,b8,b9,b10,b11,b12,v81,v82,v83,v84,v85,v86,v87,v88,v89,v90,v91,v92,rfl,rfl,H⟩;have hn:=List.eq_nil_iff_forall_not_mem.1 hr;have r0:=hn 0;simp[mem_ready,Region.binds] at r0;subst r0;have r1:=hn 1;simp[mem_ready,Region.binds] at r1;subst r1;have r2:=hn 2;simp[mem_ready,Region.binds] at r2;subst r2;have r3:=hn 3;simp[mem_ready,Region.binds] at r3;subst r3;have r4:=hn 4;simp[mem_ready,Region.binds] at r4;subst r4;have r5:=hn 5;simp[mem_ready,Region.binds] at r5;subst r5;have r6:=hn 6;simp[mem_ready,Region.binds] at r6;subst r6;have r7:=hn 7;simp[mem_ready,Region.binds] at r7;subst r7;have r8:=hn 8;simp[mem_ready,Region.binds] at r8;subst r8;have r9:=hn 9;simp[mem_ready,Region.binds] at r9;subst r9;have r10:=hn 10;simp[mem_ready,Region.binds] at r10;subst r10;have r11:=hn 11;simp[mem_ready,Region.binds] at r11;subst r11;have r12:=hn 12;simp[mem_ready,Region.binds] at r12;subst r12;try dsimp only
         obtain⟨rv',O',h1,h2,h3⟩:=H.wd rfl;have H1:=hid h1;have H2:=hid h2;have H3:=hid h3;clear H hr hn h1 h2 h3;go_wp2;go_ret;rw[HR2.out];exact⟨rfl,(Kept.of_new O HB5.out).trans H3.out,fun _=>⟨_,_,H2.out.wide H1.out (fun k h=>h.elim (fun h=>Nat.lt_of_lt_of_le (HFAR.out k h) (Nat.le_trans HB5.out.size H3.out.below.size)) (fun h=>h.2))⟩⟩
      ·rw[decide_eq_false hm] at HCON;rw[if_pos ⟨h0,hm⟩] at hres;have HR:=hid hres;clear hres hm h0;go_wp2_with (go_at_call 30;refine HCON.out.mono ?_;rintro e w' ⟨rfl,hw'⟩;have hw2:=hw'.symm;clear hw';subst hw2;refine Hid.out ?_);refine hid ?_;go_wp2;go_ret;exact HERR.out _ _ _ HR.out (by decide) rfl HB5.out
     ·have q0:decide (out < 0)=false:=decide_eq_false h0;rw[if_neg (fun h=>h0 h.1)] at hres;have HR:=hid hres;clear hres h0;by_cases h4:400≤rs.length
      ·have q5:decide ((400:Int)≤(rs.length:Int))=true:=dec_le.1 h4;have HR2:Hid (res=(s,6)):=hid (by rw[HR.out,if_pos h4]);clear h4;go_wp2;go_ret;exact HERR.out _ _ _ HR2.out (by decide) rfl HB5.out
      ·have q5:decide ((400:Int)≤(rs.length:Int))=false:=dec_le.2 h4;have HR2:Hid (res=(⟨s.head,⟨s.t.st,s.t.sym,s.t.hood,s.t.vars,s.t.rows ++ [(ins,out)]⟩,s.names⟩,0)):=hid (by rw[HR.out,if_neg h4]);have HAL:Hid (rs.length < 1000000000000):=hid (Nat.lt_of_le_of_lt HBD.out.2.1 (by decide));clear h4;go_upto_region 19 with fail
       have HFAR:Hid (∀ k,O k→k < w.heap.size):=hid HP.out.inO;have HOWN:=hid HP5.out.rows;have HBS:Hid (base≤w5.heap.size):=hid (Nat.le_trans HBD.out.2.2.2.1 HB5.out.size);have HLX:Hid ((gp < w5.heap.size∧w5.cell? ⟨gp,4,none⟩=some (.slice rA rs.length rc))∧gr < w5.heap.size∧w5.cell? ⟨gr,0,none⟩=some (.slice (some ⟨lb,lo,none⟩) ins.length n)∧w5.cell? ⟨gr,1,none⟩=some (.int .i64 out)):=hid ⟨⟨HP5.out.blk.lt,x4⟩,HBR.out.lt,by rw[htl];exact r0,r1⟩;have HTL:=hid htl;clear r0 r1 x4 htl;refine wp_region_J (by kernel_rfl) (fun listed act w'=>∃ b0 b1 b2 b3 b4 b5 b6 b7 b8 b9 b10 b11 b12 v81 v82 v83 v84 v85 v86 v87 v88 v89 v90 v91 v92,listed=#[b0,b1,b2,b3,b4,b5,b6,b7,b8,b9,b10,b11,b12]∧act=Act.mk #[.pointer (some ⟨gp,0,none⟩),.slice (some ⟨gw,0,none⟩) ws.length ws.length,undef,undef,u4,.int .i64 ↑n,.slice (some ⟨lb,lo,none⟩) (n+1) lc,u7,u8,u9,u10,.pointer (some ⟨gr,0,none⟩),.pointer (some ⟨gp,0,none⟩),.pointer (some ⟨gp,0,none⟩),.pointer (some ⟨gp,0,none⟩),.pointer (some ⟨gp,2,none⟩),.slice hA n hc,.int .i64 ↑n,.slice (some ⟨gw,0,none⟩) ws.length ws.length,.int .i64 ↑ws.length,.int .i64 ↑n,.int .i64 (↑n+2),.bool false,.bool false,.slice (some ⟨gw,0,none⟩) ws.length ws.length,.int .i64 ↑n,.pointer (some ⟨gw,n,none⟩),Value.string wn,.bool false,.bool false,.slice (some ⟨gw,0,none⟩) ws.length ws.length,.int .i64 ↑ws.length,.int .i64 ↑ws.length,.bool false,u34,u35,u36,u37,u38,u39,u40,u41,u42,u43,u44,u45,u46,u47,u48,u49,u50,u51,u52,u53,.slice (some ⟨lb,lo,none⟩) (n+1) lc,.int .i64 ↑n,.int .i64 ↑n,.slice (some ⟨lb,lo,none⟩) n n,.slice (some ⟨lb,lo,none⟩) (n+1) lc,.int .i64 ↑n,.pointer (some ⟨lb,lo+n,none⟩),.int .i64 out,.agg #[.slice (some ⟨lb,lo,none⟩) n n,.int .i64 out],.pointer (some ⟨gr,1,none⟩),.int .i64 out,.bool false,.bool false,undef,undef,undef,undef,undef,undef,.bool false,.pointer (some ⟨gp,0,none⟩),.pointer (some ⟨gp,0,none⟩),.pointer (some ⟨gp,0,none⟩),.pointer (some ⟨gp,4,none⟩),.slice rA rs.length rc,.int .i64 ↑rs.length,.bool false,v81,v82,v83,v84,v85,v86,v87,v88,v89,v90,v91,v92] []∧Rw19J w5 base rs (.slice rA rs.length rc) out (some ⟨lb,lo,none⟩) n ins gp gr (fun W9=>∃ (rv':Value) (O':Blks),(∀ k,O' k→O k∨(w.heap.size≤k∧k < W9.heap.size))∧PrM O' base gp M hA hc vv rv' vs (rs ++ [⟨some ⟨lb,lo,none⟩,n,ins,out⟩]) D ⟨s.head,⟨s.t.st,s.t.sym,s.t.hood,s.t.vars,s.t.rows ++ [(ins,out)]⟩,s.names⟩ W9∧Kept O w5 W9) b0 b1 b2 b3 b4 b5 b6 b7 b8 b9 b10 b11 b12 v81 v82 v83 v84 v85 v86 v87 v88 v89 v90 v91 v92 w') ?_ ?_ ?_
       ·exact (e_8 (e_8 (e_8 (e_1 ⟨rfl,rfl,(by constructor;(case hk=>exact (fun _ _ _=>rfl));(case wa=>exact (fun _=>rfl));all_goals simp)⟩))))
       ·rintro i listed act w' hi ⟨b0,b1,b2,b3,b4,b5,b6,b7,b8,b9,b10,b11,b12,v81,v82,v83,v84,v85,v86,v87,v88,v89,v90,v91,v92,rfl,rfl,H⟩;have hi16:i < 13:=by
         obtain⟨-,o,ho,-⟩:=mem_ready.1 hi;exact (Array.getElem?_eq_some_iff.1 ho).1
        obtain rfl | rfl | rfl | rfl | rfl | rfl | rfl | rfl | rfl | rfl | rfl | rfl | rfl:i=0∨i=1∨i=2∨i=3∨i=4∨i=5∨i=6∨i=7∨i=8∨i=9∨i=10∨i=11∨i=12:=by omega
        all_goals simp[mem_ready,Region.binds] at hi
        ·refine wpOp_hidden rfl fun K hK=>?_;go_wp2;refine OnlyN.mk (hK.out _ _ (e_8 (e_8 (e_8 (e_1 ⟨rfl,rfl,{ H with h0:=fun _=>rfl,o9:=fun h=>rfl }⟩)))))
        ·refine wpOp_hidden rfl fun K hK=>?_;go_wp2;refine OnlyN.mk (hK.out _ _ (e_8 (e_8 (e_8 (e_1 ⟨rfl,rfl,{ H with h1:=fun _=>rfl,o2:=fun h=>rfl }⟩)))))
        ·obtain rfl:=H.h1 (by simp[hi]);refine wpOp_hidden rfl fun K hK=>?_;go_wp2;refine OnlyN.mk (hK.out _ _ (e_8 (e_8 (e_8 (e_1 ⟨rfl,rfl,{ H with h2:=fun _=>rfl,o2:=fun _=>(by simp[hi]),o3:=fun h=>rfl }⟩)))))
        ·obtain rfl:=H.h2 (by simp[hi]);refine wpOp_hidden rfl fun K hK=>?_;go_wp2;refine OnlyN.mk (hK.out _ _ (e_8 (e_8 (e_8 (e_1 ⟨rfl,rfl,{ H with h3:=fun _=>rfl,o3:=fun _=>(by simp[hi]),o4:=fun h=>rfl }⟩)))))
        ·obtain rfl:=H.h3 (by simp[hi]);refine wpOp_hidden rfl fun K hK=>?_;go_wp2;refine OnlyN.mk (hK.out _ _ (e_8 (e_8 (e_8 (e_1 ⟨rfl,rfl,{ H with h4:=fun _=>rfl,o4:=fun _=>(by simp[hi]),o5:=fun h=>rfl }⟩)))))
        ·have bAf:b8=false:=by
          cases hb:b8 with
          | false=>rfl
          | true=>exact absurd (H.o8 hb).1 (by simp[hi])
         obtain rfl:=H.h4 (by simp[hi]);have cc0:=(H.hk bAf ⟨gp,4,none⟩ HLX.out.1.1).trans HLX.out.1.2;clear bAf;refine wpOp_hidden rfl fun K hK=>?_;go_wp2;refine OnlyN.mk (hK.out _ _ (e_8 (e_8 (e_8 (e_1 ⟨rfl,rfl,{ H with h5:=fun _=>rfl,o5:=fun _=>(by simp[hi]),o8:=fun h=>⟨rfl,(H.o8 h).2⟩ }⟩)))))
        ·have bAf:b8=false:=by
          cases hb:b8 with
          | false=>rfl
          | true=>exact absurd (H.o7 (H.o8 hb).2) (by simp[hi])
         have cc0:=(H.hk bAf ⟨gr,0,none⟩ HLX.out.2.1).trans HLX.out.2.2.1;have cc1:=(H.hk bAf ⟨gr,1,none⟩ HLX.out.2.1).trans HLX.out.2.2.2;clear bAf;refine wpOp_hidden rfl fun K hK=>?_;go_wp2;refine OnlyN.mk (hK.out _ _ (e_8 (e_8 (e_8 (e_1 ⟨rfl,rfl,{ H with h6:=fun _=>rfl,o7:=fun h=>rfl }⟩)))))
        ·have bAf:b8=false:=by
          cases hb:b8 with
          | false=>rfl
          | true=>exact absurd (H.o8 hb).2 (by simp[hi])
         obtain rfl:=H.h6 (by simp[hi]);have hw:=H.wa (by simp[hi]);have hA:=bAf;subst hw;clear bAf;refine wpOp_hidden rfl fun K hK=>?_;go_wp2;refine OnlyN.mk (hK.out _ _ (e_8 (e_8 (e_8 (e_1 ⟨rfl,rfl,{ H with hk:=fun _ p hp=>World.cell?_alloc_lt w5 _ p hp,wa:=fun h=>(by cases h),wb:=fun _ _=>⟨rfl,rfl⟩,wc:=fun h=>absurd h (by rw[hA];decide),wd:=fun h=>absurd (H.ord2 h).1 (by rw[hA];decide),o7:=fun _=>(by simp[hi]),o8:=fun h=>⟨(H.o8 h).1,rfl⟩ }⟩)))))
        ·obtain rfl:=H.h5 (by simp[hi]);obtain⟨hv,hw⟩:=H.wb (by simp[hi]) (by simp[hi]);obtain⟨Vd,hVd⟩:∃ Vd,Vd=World.drew w5:=⟨_,rfl⟩
         have hsz:w5.heap.size=Vd.heap.size:=by rw[hVd];rfl
         rw[← hVd] at hw;rw[hsz] at hv;subst hw;subst hv;have hown:OwnR0 48 Vd base (.slice rA rs.length rc) rs:=by rw[hVd];exact HOWN.out
         have hal:=HAL.out;have hws:base≤Vd.heap.size:=by rw[← hsz];exact HBS.out
         have HVD:=hid hVd;have HSZ:=hid hsz;clear hVd hsz;refine wpOp_hidden rfl fun K hK=>?_;refine wpList_pushR1 rfl _ _ _ rfl base 48 Tryz.underlying24 Tryz.infoRow _ _ rfl hown ⟨(some ⟨lb,lo,none⟩),n,ins,out⟩ rfl hal hws ?_;intro xv' w6 ho6 hk6 hm6;obtain⟨xA',xc',hxv',-⟩:=ho6.form;rw[List.length_append,List.length_singleton] at hxv';subst hxv';have HO6:=hid ho6;have HK6:Hid (Kept (fun g=>Value.ownBlock (.slice rA rs.length rc)=some g) w5 w6):=hid (Kept.trans (by rw[HVD.out];exact (Kept.refl _ w5).drew) hk6);have HM6:Hid ((Value.slice xA' (rs.length+1) xc').ownBlock=Value.ownBlock (.slice rA rs.length rc)∨∃ g,(Value.slice xA' (rs.length+1) xc').ownBlock=some g∧w5.heap.size≤g):=hid (by rw[HSZ.out];exact hm6);clear ho6 hk6 hm6 hown hal hws;go_wp2;refine OnlyN.mk (hK.out _ _ (e_8 (e_8 (e_8 (e_1 ⟨rfl,rfl,{ H with hk:=fun h=>(by cases h),wa:=fun h=>absurd h (by simp[hi]),wb:=fun _ h=>(by cases h),wc:=fun _ _=>⟨_,_,rfl,HO6.out,HK6.out,HM6.out⟩,wd:=fun h=>absurd (H.ord2 h).1 (by simp[hi]),ord2:=fun h=>⟨rfl,(H.ord2 h).2⟩,o8:=fun _=>(by simp[hi]) }⟩)))))
        ·obtain rfl:=H.h0 (by simp[hi]);refine wpOp_hidden rfl fun K hK=>?_;go_wp2;refine OnlyN.mk (hK.out _ _ (e_8 (e_8 (e_8 (e_1 ⟨rfl,rfl,{ H with h9:=fun _=>rfl,o9:=fun _=>(by simp[hi]),o10:=fun h=>rfl }⟩)))))
        ·obtain rfl:=H.h9 (by simp[hi]);refine wpOp_hidden rfl fun K hK=>?_;go_wp2;refine OnlyN.mk (hK.out _ _ (e_8 (e_8 (e_8 (e_1 ⟨rfl,rfl,{ H with h10:=fun _=>rfl,o10:=fun _=>(by simp[hi]),o11:=fun h=>rfl }⟩)))))
        ·obtain rfl:=H.h10 (by simp[hi]);refine wpOp_hidden rfl fun K hK=>?_;go_wp2;refine OnlyN.mk (hK.out _ _ (e_8 (e_8 (e_8 (e_1 ⟨rfl,rfl,{ H with h11:=fun _=>rfl,ord2:=fun h=>⟨(H.ord2 h).1,rfl⟩,o11:=fun _=>(by simp[hi]) }⟩)))))
        ·obtain rfl:=H.h11 (by simp[hi]);obtain⟨xA',xc',hv,ho6,hk6,hm6⟩:=H.wc (by simp[hi]) (by simp[hi]);subst hv;obtain⟨hn1,hn2,hn3⟩:=HP5.out.pushRow (O':=fun k=>O k∨(w.heap.size≤k∧k < w'.heap.size)) ho6 hk6 hm6 (fun k h=>.inl h) (HIN.out.kept hk6 (fun ad e h=>by injection e with e;subst e;exact absurd (HFAR.out _ (HP5.out.orv _ h)) (Nat.not_lt.2 HLO.out.1)))
          (fun ad e=>by injection e with e;subst e;exact .inr ⟨HLO.out.1,Nat.lt_of_lt_of_le (Nat.lt_of_lt_of_le HLO.out.2.1 HLO.out.2.2) hk6.below.size⟩)
          (fun ad e=>by
           injection e with e
           subst e;exact⟨Nat.lt_of_lt_of_le HLO.out.2.1 HLO.out.2.2,fun h=>absurd (HFAR.out _ (by have h':lb=gp:=h;rw[h'];exact HP5.out.og)) (Nat.not_lt.2 HLO.out.1),fun h=>absurd (HFAR.out _ (by have h':lb=M:=h;rw[h'];exact HP5.out.om)) (Nat.not_lt.2 HLO.out.1),fun h=>absurd (HFAR.out _ (HP5.out.ov _ h)) (Nat.not_lt.2 HLO.out.1),fun h=>absurd (HFAR.out _ (HP5.out.orv _ h)) (Nat.not_lt.2 HLO.out.1)⟩)
          (fun g h1 h2=>.inr ⟨Nat.le_trans HB5.out.size h1,h2⟩) (fun k hk=>by
           rcases hk with hk | hk
           ·exact Nat.lt_of_lt_of_le (HP5.out.inO k hk) hk6.below.size
           ·exact hk.2)
         have cx6:=hn3.cell_ 4 (.slice rA rs.length rc) rfl;have fx6:=hn3.frozen 4;clear hn3;have HPOST:=hid ((⟨_,_,fun k h=>h.imp id (fun h=>⟨h.1,by simpa using h.2⟩),hn1,hn2⟩:∃ (rv':Value) (O':Blks),(∀ k,O' k→O k∨(w.heap.size≤k∧k < (w'.setCell ⟨gp,4,none⟩ (.slice xA' (rs.length+1) xc')).heap.size))∧PrM O' base gp M hA hc vv rv' vs (rs ++ [⟨some ⟨lb,lo,none⟩,n,ins,out⟩]) D ⟨s.head,⟨s.t.st,s.t.sym,s.t.hood,s.t.vars,s.t.rows ++ [(ins,out)]⟩,s.names⟩ (w'.setCell ⟨gp,4,none⟩ (.slice xA' (rs.length+1) xc'))∧Kept O w5 (w'.setCell ⟨gp,4,none⟩ (.slice xA' (rs.length+1) xc'))));clear ho6 hk6 hm6;refine wpOp_hidden rfl fun K hK=>?_;go_wp2;refine OnlyN.mk (hK.out _ _ (e_8 (e_8 (e_8 (e_1 ⟨rfl,rfl,{ H with hk:=fun h=>absurd h (by simp[hi]),wa:=fun h=>absurd h (by simp[hi]),wb:=fun _ h=>absurd h (by simp[hi]),wc:=fun _ h=>(by cases h),wd:=fun _=>HPOST.out,ord2:=fun _=>(by simp[hi]) }⟩)))))
       ·rintro listed act w' hr ⟨b0,b1,b2,b3,b4,b5,b6,b7,b8,b9,b10,b11,b12,v81,v82,v83,v84,v85,v86,v87,v88,v89,v90,v91,v92,rfl,rfl,H⟩;have hn:=List.eq_nil_iff_forall_not_mem.1 hr;have r0:=hn 0;simp[mem_ready,Region.binds] at r0;subst r0;have r1:=hn 1;simp[mem_ready,Region.binds] at r1;subst r1;have r2:=hn 2;simp[mem_ready,Region.binds] at r2;subst r2;have r3:=hn 3;simp[mem_ready,Region.binds] at r3;subst r3;have r4:=hn 4;simp[mem_ready,Region.binds] at r4;subst r4;have r5:=hn 5;simp[mem_ready,Region.binds] at r5;subst r5;have r6:=hn 6;simp[mem_ready,Region.binds] at r6;subst r6;have r7:=hn 7;simp[mem_ready,Region.binds] at r7;subst r7;have r8:=hn 8;simp[mem_ready,Region.binds] at r8;subst r8;have r9:=hn 9;simp[mem_ready,Region.binds] at r9;subst r9;have r10:=hn 10;simp[mem_ready,Region.binds] at r10;subst r10;have r11:=hn 11;simp[mem_ready,Region.binds] at r11;subst r11;have r12:=hn 12;simp[mem_ready,Region.binds] at r12;subst r12;try dsimp only
        obtain⟨rv',O',h1,h2,h3⟩:=H.wd rfl;have H1:=hid h1;have H2:=hid h2;have H3:=hid h3;clear H hr hn h1 h2 h3;go_wp2;go_ret;rw[HR2.out];exact⟨rfl,(Kept.of_new O HB5.out).trans H3.out,fun _=>⟨_,_,H2.out.wide H1.out (fun k h=>h.elim (fun h=>Nat.lt_of_lt_of_le (HFAR.out k h) (Nat.le_trans HB5.out.size H3.out.below.size)) (fun h=>h.2))⟩⟩
  ·rw[if_pos (.inr ha)] at hres;rw[decide_eq_false ha] at d3;have HR:=hid hres;clear hres hS hw hP hwl ha hwnn hgb h2 hws hn HS HW HP;go_enter Tryz.func92,Tryz.ntmps92;go_wp2;go_ret;exact HERR.out _ _ _ HR.out (by decide) rfl (Below.refl _ _)
 ·rw[if_pos (.inl h2)] at hres;have d2:=(ne_dec (a:=ws.length) (b:=n)).2 h2;have HR:=hid hres;clear hres hS hw hP hwl h2 hws hn HS HW HP;go_enter Tryz.func92,Tryz.ntmps92;go_wp2;go_ret;exact HERR.out _ _ _ HR.out (by decide) rfl (Below.refl _ _)
theorem str_eq2 (a b:ByteArray):(a.toList == b.toList)=decide (a.data.toList=b.data.toList):=by
 rw[ByteArray.toList_eq,ByteArray.toList_eq];by_cases h:a.data.toList=b.data.toList
 ·rw[decide_eq_true h,beq_iff_eq];exact h
 ·rw[decide_eq_false h,beq_eq_false_iff_ne];exact h
def placeI (w:Wd)(k:Nat)(l:List Wd):Int:=match placeW w k l with
 | none=>-1
 | some i=>(i:Int)
theorem place_step {w:Wd}{bs:List ByteArray}{k:Nat}(h:k < bs.length):placeI w k (wdsB (bs.drop k))=if bs[k].data.toList=w then (k:Int) else placeI w (k+1) (wdsB (bs.drop (k+1))):=by
 rw[List.drop_eq_getElem_cons h];unfold placeI wdsB;rw[List.map_cons];by_cases e:bs[k].data.toList=w
 ·rw[if_pos e,placeW_hit e]
 ·rw[if_neg e,placeW_miss e]
set_option maxHeartbeats 1600000 in
theorem sidx_any (A:Option Addr)(bs:List ByteArray)(c:Nat)(n:ByteArray)(w:World)(ha:Sts w A bs) :
  Calls Tryz.prog 90 #[.slice A bs.length c,.string n] w fun e w'=>e=.returned (.int .i64 (placeI n.data.toList 0 (wdsB bs)))∧w'=w:=by
 have hn:=ha.le;obtain⟨nl,hnl⟩:∃ l,l=n.data.toList:=⟨_,rfl⟩
 rw[← hnl];have HNL:=hid hnl;clear hnl;go_enter Tryz.func90,Tryz.ntmps90;go_wp2
 go_loop [8] (fun i=>∃ k:Nat,k≤bs.length∧i=.int .i64 k∧Hid (placeI nl 0 (wdsB bs)=placeI nl k (wdsB (bs.drop k)))) (fun i=>bs.length - (intOf i).toNat)
 case atStart=>exact⟨0,Nat.zero_le _,rfl,hid rfl⟩
 case round=>
  obtain⟨k,hk,rfl,HT⟩:=hrel;by_cases hlt:k < bs.length
  ·obtain⟨b1,o1,rfl,-,hc⟩:=ha.at_ hlt;have hd:=place_step (w:=nl) hlt;obtain⟨x,hx⟩:∃ z,z=bs[k]'hlt:=⟨_,rfl⟩
   rw[← hx] at hc hd;have d1:=str_eq2 n x;rw[← HNL.out] at d1;clear hx;by_cases h1:x.data.toList=nl
   ·have HN:=hid (HT.out.trans (hd.trans (if_pos h1)));rw[decide_eq_true h1.symm] at d1;clear hd h1 HT;go_wp2;go_ret;exact⟨ret_int HN.out.symm,rfl⟩
   ·have HN:=hid (HT.out.trans (hd.trans (if_neg h1)));rw[decide_eq_false (fun e=>h1 e.symm)] at d1;clear hd h1 HT;go_wp2
    go_round
    case rel=>exact⟨k+1,by omega,by go_num,HN⟩
    case measure=>simp[intOf];omega
  ·obtain rfl:k=bs.length:=by omega
   have hno:placeI nl 0 (wdsB bs) = -1:=by rw[HT.out,List.drop_length];rfl
   have HN:=hid hno;clear hno HT;go_wp2;go_ret;exact⟨ret_int HN.out.symm,rfl⟩
def symsB:List ByteArray:=symsW.map fun l=>⟨l.toArray⟩
theorem symsB_eq:wdsB symsB=symsW:=by decide
def SymG (w:World):Prop:=Sts w (some ⟨0,0,none⟩) symsB
theorem wrap_s {n:Nat}(h:n≤1000000):wrap64 ((n:Int)+1)=(n:Int)+1:=by unfold wrap64;omega
theorem head_dec (n:Nat)(k:Nat):(n=k→(((n:Int)+1) == ((k:Int)+1))=true)∧(n≠k→(((n:Int)+1) == ((k:Int)+1))=false):=⟨fun h=>by rw[beq_iff_eq];omega,fun h=>beq_false_of_ne (by omega)⟩
theorem ne2_dec {a:Nat}:(a=2→(((a:Nat):Int) != 2)=false)∧(a≠2→(((a:Nat):Int) != 2)=true):=⟨fun h=>by rw[bne_eq_false_iff_eq];omega,fun h=>by rw[bne_iff_ne];omega⟩
theorem elems_head (a b:Nat)(t:TabL)(n:List Wd):∀ l,elemsW ⟨a,t,n⟩ l=elemsW ⟨b,t,n⟩ l
 | []=>rfl
 | w :: l=>by
  rw[elems_cons,elems_cons,elems_head a b t n l];rfl
theorem vbl_head (a b:Nat)(t:TabL)(n:List Wd)(W:List Wd):vblW ⟨a,t,n⟩ W=(⟨a,(vblW ⟨b,t,n⟩ W).1.t,(vblW ⟨b,t,n⟩ W).1.names⟩,(vblW ⟨b,t,n⟩ W).2):=by
 unfold vblW;dsimp only;by_cases h1:0 < t.rows.length
 ·simp only[if_pos h1]
 simp only[if_neg h1];by_cases h2:W.length < 3∨nameW (W.getD 1 [])=false
 ·simp only[if_pos h2]
 simp only[if_neg h2];by_cases h3:((W.drop 2).map numW).any (fun n=>decide (n < 0))=true
 ·simp only[if_pos h3]
 simp only[if_neg h3];by_cases h4:(placeW (W.getD 1 []) 0 n).isSome=true
 ·simp only[if_pos h4]
 simp only[if_neg h4];by_cases h5:((W.drop 2).map numW).any (fun n=>decide (t.st≤n))=true
 ·simp only[if_pos h5]
 simp only[if_neg h5];by_cases h6:ascW ((W.drop 2).map numW)=false
 ·simp only[if_pos h6]
 simp only[if_neg h6];by_cases h7:40≤t.vars.length
 ·simp only[if_pos h7]
 simp only[if_neg h7]
theorem row_head (a b:Nat)(t:TabL)(n:List Wd)(W:List Wd):rowW ⟨a,t,n⟩ W=(⟨a,(rowW ⟨b,t,n⟩ W).1.t,(rowW ⟨b,t,n⟩ W).1.names⟩,(rowW ⟨b,t,n⟩ W).2):=by
 unfold rowW;dsimp only;rw[elems_head a b t n];by_cases h1:W.length≠t.hood.length+2∨W.getD t.hood.length []≠arrowW
 ·simp only[if_pos h1]
 simp only[if_neg h1];obtain⟨q,hq⟩:∃ q,q=elemsW ⟨b,t,n⟩ (W.take t.hood.length ++ W.drop (t.hood.length+1)):=⟨_,rfl⟩
 rw[← hq];by_cases h2:q.2≠0
 ·simp only[if_pos h2]
 simp only[if_neg h2];by_cases h3:q.1.getD t.hood.length 0 < 0∧q.1.getD t.hood.length 0 ∉ q.1.take t.hood.length
 ·simp only[if_pos h3]
 simp only[if_neg h3];by_cases h4:400≤t.rows.length
 ·simp only[if_pos h4]
 simp only[if_neg h4]
def LinePost (O:Blks)(base gp M:Nat)(w:World)(res:PSt × Int)(e:Ending)(w':World):Prop:=
 e=.returned (.int .i64 res.2)∧Kept O w w'∧(res.2=0→∃ hA hc vv rv vs rs D,PrM (fun k=>O k∨(w.heap.size≤k∧k < w'.heap.size)) base gp M hA hc vv rv vs rs D res.1 w')
theorem LinePost.err {O:Blks}{base gp M:Nat}{w w':World}{x:PSt}{c:Int}(h:c≠0)(hk:Kept O w w'):LinePost O base gp M w (x,c) (.returned (.int .i64 c)) w':=⟨rfl,hk,fun h2=>absurd h2 h⟩
set_option maxHeartbeats 16000000 in
theorem line_big {O:Blks}{base gp M:Nat}{hA:Option Addr}{hc:Nat}{vv rv:Value}{vs:List Vh}{rs:List Rh}{D:DataW Unit}{hd:Nat}{t:TabL}{names:List Wd}(gw:Nat)(ws:List ByteArray)(w:World)(hP:PrM O base gp M hA hc vv rv vs rs D ⟨hd,t,names⟩ w)(hS:Sts w (some ⟨gw,0,none⟩) ws)(hgw:¬ O gw)(hw:∀ x ∈ ws,x.size≤2147483648)(hws:ws.length≤1000000)(hlen:ws≠[])(h40:vs.length≤40)(h400:rs.length≤400)(hH:t.hood.length≤1000)(hbase:base≤w.heap.size)(hG:GMat w)(hGO:∀ k,O k→1 < k)(hSG:SymG w)(hSO:∀ k,O k→0 < k)(hh:hd≤999999)(hcase:3≤hd) :
  Calls Tryz.prog 48 #[.pointer (some ⟨gp,0,none⟩),.slice (some ⟨gw,0,none⟩) ws.length ws.length] w (LinePost O base gp M w (stepW ⟨hd,t,names⟩ (wdsB ws))):=by
 have c6:=hP.blk.cell_ 6 (.int .i64 (hd:Int)) rfl;have f6:=hP.blk.frozen 6;have hwr:=wrap_s (Nat.le_succ_of_le hh);have k1:Kept (fun g=>g=gp) w (w.setCell ⟨gp,6,none⟩ (.int .i64 ((hd:Int)+1))):=(Kept.refl (fun g=>g=gp) w).setCell (p:=⟨gp,6,none⟩) (Or.inl rfl) _;have hP1:PrM O base gp M hA hc vv rv vs rs D ⟨hd+1,t,names⟩ (w.setCell ⟨gp,6,none⟩ (.int .i64 ((hd:Int)+1))):=hP.box (s':=⟨hd+1,t,names⟩) (hA':=hA) (hc':=hc) (by simp[parC]) rfl rfl rfl hP.hood hP.oh hP.hg;have hS1:=hS.kept k1 (fun ad e _ h=>hgw (by injection e with e;subst e;have h':gw=gp:=h;rw[h'];exact hP.og));have hSG1:SymG (w.setCell ⟨gp,6,none⟩ (.int .i64 ((hd:Int)+1))):=Sts.kept hSG k1 (fun ad e _ h=>by injection e with e;subst e;have h':0=gp:=h;have:=hSO _ hP.og;omega);have hG1:GMat (w.setCell ⟨gp,6,none⟩ (.int .i64 ((hd:Int)+1))):=⟨by simpa using hG.1,fun i hi=>(k1.cell (p:=⟨1,i,none⟩) hG.1 (fun h=>by have h':1=gp:=h;have:=hGO _ hP.og;omega)).trans (hG.2 i hi)⟩
 have hkO:Kept O w (w.setCell ⟨gp,6,none⟩ (.int .i64 ((hd:Int)+1))):=k1.mono (fun g _ e=>by rw[e];exact hP.og);obtain⟨w1,hw1⟩:∃ W,W=w.setCell ⟨gp,6,none⟩ (.int .i64 ((hd:Int)+1)):=⟨_,rfl⟩
 rw[← hw1] at hP1 hS1 hSG1 hG1 hkO;have hsz:w1.heap.size=w.heap.size:=by rw[hw1];simp
 have HP1:=hid hP1;have HS1:=hid hS1;have HSG:=hid hSG1;have HG:=hid hG1;have HKO:=hid hkO;have HSZ:=hid hsz;have HW:=hid hw;have HBD:=hid (And.intro h40 (And.intro h400 (And.intro hH (And.intro hbase (And.intro hws (And.intro hh hGO))))));have HW1:=hid hw1;have hwl:(wdsB ws).length=ws.length:=by unfold wdsB;rw[List.length_map]
 obtain⟨res,hres⟩:∃ r,r=stepW ⟨hd,t,names⟩ (wdsB ws):=⟨_,rfl⟩
 rw[← hres];have hpos:0 < ws.length:=by cases ws with
  | nil=>exact absurd rfl hlen
  | cons _ _=>exact Nat.succ_pos _
 obtain⟨gb,go,e1,-,cw0⟩:=hS1.at_ hpos;injection e1 with e1
 injection e1 with e1 e2
 subst e1 e2;have hg0:=wdsB_getD hpos;obtain⟨x0,hx0⟩:∃ z,z=ws[0]'hpos:=⟨_,rfl⟩
 rw[← hx0] at cw0 hg0;have h9:ws.length≤9223372036854775807:=hS.le;have c61:=hP1.blk.cell_ 6 (.int .i64 ((hd:Int)+1)) (by simp[parC]);clear k1 hP hP1 hS hS1 hgw hSG hSG1 hG hG1 hGO hSO hkO hw1 hsz hw h40 h400 hH hbase hws hlen hx0;have e1:(((hd:Int)+1) == 1)=false:=(head_dec hd 0).2 (by omega);have e2:(((hd:Int)+1) == 2)=false:=(head_dec hd 1).2 (by omega);have e3:(((hd:Int)+1) == 3)=false:=(head_dec hd 2).2 (by omega);have d0:(x0.toList == [118,97,114])=decide (x0.data.toList=varW):=str_eq x0 [118,97,114];unfold stepW at hres;dsimp only at hres;rw[if_neg (by omega),hg0] at hres;by_cases hv:x0.data.toList=varW
 ·rw[if_pos hv] at hres;rw[decide_eq_true hv] at d0;have HC:=hid (variable_any gw ws w1 HP1.out HS1.out HW.out HBD.out.2.2.2.2.1 HBD.out.1 (by rw[HSZ.out];exact HBD.out.2.2.2.1) (fun h=>by rw[h] at hpos;simp at hpos));rw[vbl_head (hd+1) hd] at HC;have HRES:=hid hres;clear hres hv hh hcase hwl hg0;go_enter Tryz.func48,Tryz.ntmps48;go_upto_region 3 with fail
  rw[← HW1.out];clear c6 f6 hwr;go_wp2_with (go_at_call 91;refine HC.out.mono ?_;rintro e w2 ⟨rfl,hk2,hz2⟩;refine Hid.out ?_);refine hid ?_;have HK2:=hid (HKO.out.trans hk2);have HZ2:=hid hz2;clear hk2 hz2 HC;go_wp2;go_ret;rw[HRES.out];refine⟨rfl,HK2.out,fun h=>?_⟩;obtain⟨vv',vs',D',hp⟩:=HZ2.out h;rw[HSZ.out] at hp;exact⟨_,_,_,_,_,_,_,hp⟩
 ·rw[if_neg hv] at hres;rw[decide_eq_false hv] at d0;have HC:=hid (row_any gw ws w1 HP1.out HS1.out HW.out HBD.out.2.2.2.2.1 HBD.out.1 HBD.out.2.1 HBD.out.2.2.1 (by rw[HSZ.out];exact HBD.out.2.2.2.1));rw[row_head (hd+1) hd] at HC;have HRES:=hid hres;clear hres hv hh hcase hwl hg0;go_enter Tryz.func48,Tryz.ntmps48;go_upto_region 3 with fail
  rw[← HW1.out];clear c6 f6 hwr;go_wp2_with (go_at_call 92;refine HC.out.mono ?_;rintro e w2 ⟨rfl,hk2,hz2⟩;refine Hid.out ?_);refine hid ?_;have HK2:=hid (HKO.out.trans hk2);have HZ2:=hid hz2;clear hk2 hz2 HC;go_wp2;go_ret;rw[HRES.out];refine⟨rfl,HK2.out,fun h=>?_⟩;obtain⟨rv',rs',hp⟩:=HZ2.out h;rw[HSZ.out] at hp;exact⟨_,_,_,_,_,_,_,hp⟩
set_option maxHeartbeats 16000000 in
theorem line_0 {O:Blks}{base gp M:Nat}{hA:Option Addr}{hc:Nat}{vv rv:Value}{vs:List Vh}{rs:List Rh}{D:DataW Unit}{hd:Nat}{t:TabL}{names:List Wd}(gw:Nat)(ws:List ByteArray)(w:World)(hP:PrM O base gp M hA hc vv rv vs rs D ⟨hd,t,names⟩ w)(hS:Sts w (some ⟨gw,0,none⟩) ws)(hgw:¬ O gw)(hw:∀ x ∈ ws,x.size≤2147483648)(hws:ws.length≤1000000)(hlen:ws≠[])(h40:vs.length≤40)(h400:rs.length≤400)(hH:t.hood.length≤1000)(hbase:base≤w.heap.size)(hG:GMat w)(hGO:∀ k,O k→1 < k)(hSG:SymG w)(hSO:∀ k,O k→0 < k)(hh:hd≤999999)(hcase:hd=0) :
  Calls Tryz.prog 48 #[.pointer (some ⟨gp,0,none⟩),.slice (some ⟨gw,0,none⟩) ws.length ws.length] w (LinePost O base gp M w (stepW ⟨hd,t,names⟩ (wdsB ws))):=by
 have c6:=hP.blk.cell_ 6 (.int .i64 (hd:Int)) rfl;have f6:=hP.blk.frozen 6;have hwr:=wrap_s (Nat.le_succ_of_le hh);have k1:Kept (fun g=>g=gp) w (w.setCell ⟨gp,6,none⟩ (.int .i64 ((hd:Int)+1))):=(Kept.refl (fun g=>g=gp) w).setCell (p:=⟨gp,6,none⟩) (Or.inl rfl) _;have hP1:PrM O base gp M hA hc vv rv vs rs D ⟨hd+1,t,names⟩ (w.setCell ⟨gp,6,none⟩ (.int .i64 ((hd:Int)+1))):=hP.box (s':=⟨hd+1,t,names⟩) (hA':=hA) (hc':=hc) (by simp[parC]) rfl rfl rfl hP.hood hP.oh hP.hg;have hS1:=hS.kept k1 (fun ad e _ h=>hgw (by injection e with e;subst e;have h':gw=gp:=h;rw[h'];exact hP.og));have hSG1:SymG (w.setCell ⟨gp,6,none⟩ (.int .i64 ((hd:Int)+1))):=Sts.kept hSG k1 (fun ad e _ h=>by injection e with e;subst e;have h':0=gp:=h;have:=hSO _ hP.og;omega);have hG1:GMat (w.setCell ⟨gp,6,none⟩ (.int .i64 ((hd:Int)+1))):=⟨by simpa using hG.1,fun i hi=>(k1.cell (p:=⟨1,i,none⟩) hG.1 (fun h=>by have h':1=gp:=h;have:=hGO _ hP.og;omega)).trans (hG.2 i hi)⟩
 have hkO:Kept O w (w.setCell ⟨gp,6,none⟩ (.int .i64 ((hd:Int)+1))):=k1.mono (fun g _ e=>by rw[e];exact hP.og);obtain⟨w1,hw1⟩:∃ W,W=w.setCell ⟨gp,6,none⟩ (.int .i64 ((hd:Int)+1)):=⟨_,rfl⟩
 rw[← hw1] at hP1 hS1 hSG1 hG1 hkO;have hsz:w1.heap.size=w.heap.size:=by rw[hw1];simp
 have HP1:=hid hP1;have HS1:=hid hS1;have HSG:=hid hSG1;have HG:=hid hG1;have HKO:=hid hkO;have HSZ:=hid hsz;have HW:=hid hw;have HBD:=hid (And.intro h40 (And.intro h400 (And.intro hH (And.intro hbase (And.intro hws (And.intro hh hGO))))));have HW1:=hid hw1;have hwl:(wdsB ws).length=ws.length:=by unfold wdsB;rw[List.length_map]
 obtain⟨res,hres⟩:∃ r,r=stepW ⟨hd,t,names⟩ (wdsB ws):=⟨_,rfl⟩
 rw[← hres];have hpos:0 < ws.length:=by cases ws with
  | nil=>exact absurd rfl hlen
  | cons _ _=>exact Nat.succ_pos _
 obtain⟨gb,go,e1,-,cw0⟩:=hS1.at_ hpos;injection e1 with e1
 injection e1 with e1 e2
 subst e1 e2;have hg0:=wdsB_getD hpos;obtain⟨x0,hx0⟩:∃ z,z=ws[0]'hpos:=⟨_,rfl⟩
 rw[← hx0] at cw0 hg0;have h9:ws.length≤9223372036854775807:=hS.le;have c61:=hP1.blk.cell_ 6 (.int .i64 ((hd:Int)+1)) (by simp[parC]);clear k1 hP hP1 hS hS1 hgw hSG hSG1 hG hG1 hGO hSO hkO hw1 hsz hw h40 h400 hH hbase hws hlen hx0;have e1:(((hd:Int)+1) == 1)=true:=(head_dec hd 0).1 hcase;have d0:(x0.toList == [115,116,97,116,101,115])=decide (x0.data.toList=[115,116,97,116,101,115]):=str_eq x0 _;unfold stepW headW at hres;dsimp only at hres;rw[if_pos (by omega),hg0,hcase,hwl] at hres;rw[show headsW.getD 0 []=[115,116,97,116,101,115] from rfl] at hres;by_cases h2:ws.length=2
 ·have d2:=(ne2_dec (a:=ws.length)).1 h2;by_cases hx:x0.data.toList=[115,116,97,116,101,115]
  ·rw[decide_eq_true hx] at d0;rw[if_neg (by rintro (h | h);exact h h2;exact h hx),if_pos rfl] at hres;obtain⟨gb,go,e1',-,cw1⟩:=HS1.out.at_ (k:=1) (by omega);injection e1' with e1'
   injection e1' with e1' e2
   subst e1' e2;rw[wdsB_getD (show 1 < ws.length by omega)] at hres;obtain⟨x1,hx1⟩:∃ z,z=ws[1]'(by omega):=⟨_,rfl⟩
   have hxs:=HW.out _ (List.getElem_mem (show 1 < ws.length by omega));rw[← hx1] at cw1 hres hxs;have hl1:1 < ws.length:=by omega
   have HNUM:=hid (number_any x1 w1 hxs);obtain⟨z,hz⟩:∃ z,z=numW x1.data.toList:=⟨_,rfl⟩
   rw[← hz] at hres;have c0:=HP1.out.blk.cell_ 0 (.int .i64 t.st) rfl;have f0:=HP1.out.blk.frozen 0;clear hx1 hxs;by_cases hz0:z < 0
   ·have hv:numV x1.data.toList=(0,false):=by unfold numV;rw[← hz,if_pos hz0]
    rw[hv] at HNUM;rw[if_pos hz0] at hres;have HRES:=hid hres;clear hres hv hz hz0 hx h2 hh hcase hwl hg0;go_enter Tryz.func48,Tryz.ntmps48;go_upto_region 3 with fail
    rw[← HW1.out];clear c6 f6 hwr;go_wp2_with (go_at_call 89;refine HNUM.out.mono ?_;rintro e w' ⟨rfl,hw'⟩;have hw2:=hw'.symm;clear hw';subst hw2;refine Hid.out ?_);refine hid ?_;go_wp2;go_ret;rw[HRES.out];exact LinePost.err (by decide) HKO.out
   ·rw[if_neg hz0] at hres;have hv:numV x1.data.toList=(z,true):=numV_yes hz.symm (Int.not_lt.1 hz0);rw[hv] at HNUM;by_cases hr:z < 2∨8 < z
    ·rw[if_pos hr] at hres;have HRES:=hid hres;rcases hr with hr | hr
     ·clear hres hv hz hz0 hx h2 hh hcase hwl hg0;go_enter Tryz.func48,Tryz.ntmps48;go_upto_region 3 with fail
      rw[← HW1.out];clear c6 f6 hwr;go_wp2_with (go_at_call 89;refine HNUM.out.mono ?_;rintro e w' ⟨rfl,hw'⟩;have hw2:=hw'.symm;clear hw';subst hw2;refine Hid.out ?_);refine hid ?_;go_wp2;go_ret;rw[HRES.out];exact LinePost.err (by decide) HKO.out
     ·have hr2:¬ z < 2:=by omega
      clear hres hv hz hz0 hx h2 hh hcase hwl hg0;go_enter Tryz.func48,Tryz.ntmps48;go_upto_region 3 with fail
      rw[← HW1.out];clear c6 f6 hwr;go_wp2_with (go_at_call 89;refine HNUM.out.mono ?_;rintro e w' ⟨rfl,hw'⟩;have hw2:=hw'.symm;clear hw';subst hw2;refine Hid.out ?_);refine hid ?_;go_wp2;go_ret;rw[HRES.out];exact LinePost.err (by decide) HKO.out
    ·rw[if_neg hr] at hres;have hr1:2≤z:=by omega
     have hr2:z≤8:=by omega
     have HRES:=hid hres;have hpf:=HP1.out.box (s':=⟨1,⟨z,t.sym,t.hood,t.vars,t.rows⟩,names⟩) (k:=0) (u:=.int .i64 z) (hA':=hA) (hc':=hc) (by simp[parC,hcase]) rfl rfl rfl HP1.out.hood HP1.out.oh HP1.out.hg;have hkf:Kept O w (w1.setCell ⟨gp,0,none⟩ (.int .i64 z)):=HKO.out.setCell (p:=⟨gp,0,none⟩) (.inl HP1.out.og) _;have HPF:=hid hpf;have HKF:=hid hkf;clear hres hv hz hz0 hx h2 hh hcase hwl hg0 hr hpf hkf;go_enter Tryz.func48,Tryz.ntmps48;go_upto_region 3 with fail
     rw[← HW1.out];clear c6 f6 hwr;go_wp2_with (go_at_call 89;refine HNUM.out.mono ?_;rintro e w' ⟨rfl,hw'⟩;have hw2:=hw'.symm;clear hw';subst hw2;refine Hid.out ?_);refine hid ?_;go_wp2;go_ret;rw[HRES.out];exact⟨rfl,HKF.out,fun _=>⟨_,_,_,_,_,_,_,HPF.out.wide (fun k h=>.inl h) (fun k h=>h.elim (HPF.out.inO k) (fun h=>h.2))⟩⟩
  ·rw[decide_eq_false hx] at d0;rw[if_pos (.inr hx)] at hres;have HRES:=hid hres;clear hres hx h2 hh hcase hwl hg0;go_enter Tryz.func48,Tryz.ntmps48;go_upto_region 3 with fail
   rw[← HW1.out];clear c6 f6 hwr;go_wp2;go_ret;rw[HRES.out];exact LinePost.err (by decide) HKO.out
 ·have d2:=(ne2_dec (a:=ws.length)).2 h2;rw[if_pos (.inl h2)] at hres;have HRES:=hid hres;clear hres h2 hh hcase hwl hg0;go_enter Tryz.func48,Tryz.ntmps48;go_upto_region 3 with fail
  rw[← HW1.out];clear c6 f6 hwr;go_wp2;go_ret;rw[HRES.out];exact LinePost.err (by decide) HKO.out
set_option maxHeartbeats 16000000 in
theorem line_1 {O:Blks}{base gp M:Nat}{hA:Option Addr}{hc:Nat}{vv rv:Value}{vs:List Vh}{rs:List Rh}{D:DataW Unit}{hd:Nat}{t:TabL}{names:List Wd}(gw:Nat)(ws:List ByteArray)(w:World)(hP:PrM O base gp M hA hc vv rv vs rs D ⟨hd,t,names⟩ w)(hS:Sts w (some ⟨gw,0,none⟩) ws)(hgw:¬ O gw)(hw:∀ x ∈ ws,x.size≤2147483648)(hws:ws.length≤1000000)(hlen:ws≠[])(h40:vs.length≤40)(h400:rs.length≤400)(hH:t.hood.length≤1000)(hbase:base≤w.heap.size)(hG:GMat w)(hGO:∀ k,O k→1 < k)(hSG:SymG w)(hSO:∀ k,O k→0 < k)(hh:hd≤999999)(hcase:hd=1) :
  Calls Tryz.prog 48 #[.pointer (some ⟨gp,0,none⟩),.slice (some ⟨gw,0,none⟩) ws.length ws.length] w (LinePost O base gp M w (stepW ⟨hd,t,names⟩ (wdsB ws))):=by
 have c6:=hP.blk.cell_ 6 (.int .i64 (hd:Int)) rfl;have f6:=hP.blk.frozen 6;have hwr:=wrap_s (Nat.le_succ_of_le hh);have k1:Kept (fun g=>g=gp) w (w.setCell ⟨gp,6,none⟩ (.int .i64 ((hd:Int)+1))):=(Kept.refl (fun g=>g=gp) w).setCell (p:=⟨gp,6,none⟩) (Or.inl rfl) _;have hP1:PrM O base gp M hA hc vv rv vs rs D ⟨hd+1,t,names⟩ (w.setCell ⟨gp,6,none⟩ (.int .i64 ((hd:Int)+1))):=hP.box (s':=⟨hd+1,t,names⟩) (hA':=hA) (hc':=hc) (by simp[parC]) rfl rfl rfl hP.hood hP.oh hP.hg;have hS1:=hS.kept k1 (fun ad e _ h=>hgw (by injection e with e;subst e;have h':gw=gp:=h;rw[h'];exact hP.og));have hSG1:SymG (w.setCell ⟨gp,6,none⟩ (.int .i64 ((hd:Int)+1))):=Sts.kept hSG k1 (fun ad e _ h=>by injection e with e;subst e;have h':0=gp:=h;have:=hSO _ hP.og;omega);have hG1:GMat (w.setCell ⟨gp,6,none⟩ (.int .i64 ((hd:Int)+1))):=⟨by simpa using hG.1,fun i hi=>(k1.cell (p:=⟨1,i,none⟩) hG.1 (fun h=>by have h':1=gp:=h;have:=hGO _ hP.og;omega)).trans (hG.2 i hi)⟩
 have hkO:Kept O w (w.setCell ⟨gp,6,none⟩ (.int .i64 ((hd:Int)+1))):=k1.mono (fun g _ e=>by rw[e];exact hP.og);obtain⟨w1,hw1⟩:∃ W,W=w.setCell ⟨gp,6,none⟩ (.int .i64 ((hd:Int)+1)):=⟨_,rfl⟩
 rw[← hw1] at hP1 hS1 hSG1 hG1 hkO;have hsz:w1.heap.size=w.heap.size:=by rw[hw1];simp
 have HP1:=hid hP1;have HS1:=hid hS1;have HSG:=hid hSG1;have HG:=hid hG1;have HKO:=hid hkO;have HSZ:=hid hsz;have HW:=hid hw;have HBD:=hid (And.intro h40 (And.intro h400 (And.intro hH (And.intro hbase (And.intro hws (And.intro hh hGO))))));have HW1:=hid hw1;have hwl:(wdsB ws).length=ws.length:=by unfold wdsB;rw[List.length_map]
 obtain⟨res,hres⟩:∃ r,r=stepW ⟨hd,t,names⟩ (wdsB ws):=⟨_,rfl⟩
 rw[← hres];have hpos:0 < ws.length:=by cases ws with
  | nil=>exact absurd rfl hlen
  | cons _ _=>exact Nat.succ_pos _
 obtain⟨gb,go,e1,-,cw0⟩:=hS1.at_ hpos;injection e1 with e1
 injection e1 with e1 e2
 subst e1 e2;have hg0:=wdsB_getD hpos;obtain⟨x0,hx0⟩:∃ z,z=ws[0]'hpos:=⟨_,rfl⟩
 rw[← hx0] at cw0 hg0;have h9:ws.length≤9223372036854775807:=hS.le;have c61:=hP1.blk.cell_ 6 (.int .i64 ((hd:Int)+1)) (by simp[parC]);clear k1 hP hP1 hS hS1 hgw hSG hSG1 hG hG1 hGO hSO hkO hw1 hsz hw h40 h400 hH hbase hws hlen hx0;have qT:∀ (W:World) (a:Option Addr) (n c:Nat),(binOp .eql 22 (.slice a n c) (.slice none 0 0)).run Tryz.prog W=.ok (.bool a.isNone) W:=fun W a n c=>Lib.run_eql_slice_nil W _ _ a n c 0 0 Tryz.underlying22;have e1:(((hd:Int)+1) == 1)=false:=(head_dec hd 0).2 (by omega);have e2:(((hd:Int)+1) == 2)=true:=(head_dec hd 1).1 hcase;have d0:(x0.toList == [104,111,111,100])=decide (x0.data.toList=[104,111,111,100]):=str_eq x0 _;unfold stepW headW at hres;dsimp only at hres;rw[if_pos (by omega),hg0,hcase,hwl] at hres;rw[show headsW.getD 1 []=[104,111,111,100] from rfl] at hres;by_cases h2:ws.length=2
 ·have d2:=(ne2_dec (a:=ws.length)).1 h2;by_cases hx:x0.data.toList=[104,111,111,100]
  ·rw[decide_eq_true hx] at d0;rw[if_neg (by rintro (h | h);exact h h2;exact h hx),if_neg (by decide),if_pos rfl] at hres;obtain⟨gb,go,e1',-,cw1⟩:=HS1.out.at_ (k:=1) (by omega);injection e1' with e1'
   injection e1' with e1' e2'
   subst e1' e2';rw[wdsB_getD (show 1 < ws.length by omega)] at hres;obtain⟨x1,hx1⟩:∃ z,z=ws[1]'(by omega):=⟨_,rfl⟩
   rw[← hx1] at cw1 hres;have hl1:1 < ws.length:=by omega
   have HNAM:=hid (cnamed_any x1 w1);have hnl:namedL x1.data.toList=(match placeW x1.data.toList 0 hoodsW with | none=>[] | some k=>hoodsP.getD k []):=rfl;obtain⟨nl,hnl2⟩:∃ l,l=namedL x1.data.toList:=⟨_,rfl⟩
   rw[← hnl2] at HNAM hnl;have HH:Hid (∀ g,O g→g < w1.heap.size):=hid HP1.out.inO;clear hx1 hnl2;cases hpl:placeW x1.data.toList 0 hoodsW with
   | none=>
    rw[hpl] at hres hnl;dsimp only at hres hnl;subst hnl;have HRES:=hid hres;clear hres hx h2 hh hcase hwl hg0 hpl;go_enter Tryz.func48,Tryz.ntmps48;go_upto_region 3 with fail
    rw[← HW1.out];clear c6 f6 hwr;go_wp2_with (go_at_call 55;refine HNAM.out.mono ?_;rintro e w2 ⟨A,c,rfl,hp2,hn2,hb2,hz2⟩;obtain⟨rfl,rfl⟩:=hz2 rfl;have c2:=(HP1.out.ext hb2).blk.cell_ 2 (.slice hA t.hood.length hc) rfl;have f2:=(HP1.out.ext hb2).blk.frozen 2;have HB2:=hid hb2;clear hp2 hn2 hb2 hz2;refine Hid.out ?_);refine hid ?_;go_wp2;go_ret;rw[HRES.out];exact LinePost.err (by decide) (HKO.out.trans ((Kept.of_new O HB2.out).setCell (p:=⟨gp,2,none⟩) (.inl HP1.out.og) _))
   | some k=>
    rw[hpl] at hres hnl;dsimp only at hres hnl;rw[← hnl] at hres;have hk4:k < 4:=by have:=placeW_lt _ _ _ _ hpl;simpa [hoodsW] using this
    have hne:nl≠[]:=by
     rw[hnl];obtain rfl | rfl | rfl | rfl:k=0∨k=1∨k=2∨k=3:=by omega
     all_goals decide
    have hnp:0 < nl.length:=List.length_pos_iff.2 hne;have HRES:=hid hres;have HNP:=hid hnp;clear hres hx h2 hh hwl hg0 hpl hnl hk4 hne hnp;have HCASE:=hid hcase;clear hcase;go_enter Tryz.func48,Tryz.ntmps48;go_upto_region 3 with fail
    rw[← HW1.out];clear c6 f6 hwr;go_wp2_with (go_at_call 55;refine HNAM.out.mono ?_;rintro e w2 ⟨A,c,rfl,hp2,hn2,hb2,-⟩;obtain⟨ab,ao,eA,hab,-,-⟩:=hp2.at_ HNP.out;subst eA;have c2:=(HP1.out.ext hb2).blk.cell_ 2 (.slice hA t.hood.length hc) rfl;have f2:=(HP1.out.ext hb2).blk.frozen 2;have HB2:=hid hb2;have HP2:=hid hp2;have HN2:=hid (And.intro (hn2 _ rfl) hab);clear hp2 hn2 hb2 hab;refine Hid.out ?_);refine hid ?_;have hPw:=(HP1.out.ext HB2.out).wide (O':=fun k=>O k∨(w.heap.size≤k∧k < w2.heap.size)) (fun k h=>.inl h) (fun k h=>h.elim (fun h=>Nat.lt_of_lt_of_le (HH.out k h) HB2.out.size) (fun h=>h.2));have hnO:∀ k,O k→k≠ab:=fun k h e=>absurd (HH.out k h) (by rw[e];exact Nat.not_lt.2 HN2.out.1);have hpf:=hPw.box (s':=⟨2,⟨t.st,t.sym,nl,t.vars,t.rows⟩,names⟩) (k:=2) (u:=.slice (some ⟨ab,ao,none⟩) nl.length c) (hA':=some ⟨ab,ao,none⟩) (hc':=c) (by simp[parC,HCASE.out]) rfl rfl rfl HP2.out
     (fun ad e=>by injection e with e;subst e;exact .inr ⟨by rw[← HSZ.out];exact HN2.out.1,HN2.out.2⟩)
     (fun ad e=>by
      injection e with e
      subst e;exact⟨fun h=>hnO gp HP1.out.og h.symm,fun h=>hnO M HP1.out.om h.symm,fun h=>hnO ab (HP1.out.ov ab h) rfl,fun h=>hnO ab (HP1.out.orv ab h) rfl⟩)
    have hkf:Kept O w (w2.setCell ⟨gp,2,none⟩ (.slice (some ⟨ab,ao,none⟩) nl.length c)):=HKO.out.trans ((Kept.of_new O HB2.out).setCell (p:=⟨gp,2,none⟩) (.inl HP1.out.og) _);have HPF:=hid hpf;have HKF:=hid hkf;clear hPw hnO hpf hkf;go_wp2;go_ret;rw[HRES.out];exact⟨rfl,HKF.out,fun _=>⟨_,_,_,_,_,_,_,HPF.out.wide (fun k h=>h.imp id (fun h=>⟨h.1,by simpa using h.2⟩)) (fun k h=>h.elim (fun h=>HPF.out.inO k (.inl h)) (fun h=>h.2))⟩⟩
  ·rw[decide_eq_false hx] at d0;rw[if_pos (.inr hx)] at hres;have HRES:=hid hres;clear hres hx h2 hh hcase hwl hg0;go_enter Tryz.func48,Tryz.ntmps48;go_upto_region 3 with fail
   rw[← HW1.out];clear c6 f6 hwr;go_wp2;go_ret;rw[HRES.out];exact LinePost.err (by decide) HKO.out
 ·have d2:=(ne2_dec (a:=ws.length)).2 h2;rw[if_pos (.inl h2)] at hres;have HRES:=hid hres;clear hres h2 hh hcase hwl hg0;go_enter Tryz.func48,Tryz.ntmps48;go_upto_region 3 with fail
  rw[← HW1.out];clear c6 f6 hwr;go_wp2;go_ret;rw[HRES.out];exact LinePost.err (by decide) HKO.out
set_option maxHeartbeats 16000000 in
theorem line_2 {O:Blks}{base gp M:Nat}{hA:Option Addr}{hc:Nat}{vv rv:Value}{vs:List Vh}{rs:List Rh}{D:DataW Unit}{hd:Nat}{t:TabL}{names:List Wd}(gw:Nat)(ws:List ByteArray)(w:World)(hP:PrM O base gp M hA hc vv rv vs rs D ⟨hd,t,names⟩ w)(hS:Sts w (some ⟨gw,0,none⟩) ws)(hgw:¬ O gw)(hw:∀ x ∈ ws,x.size≤2147483648)(hws:ws.length≤1000000)(hlen:ws≠[])(h40:vs.length≤40)(h400:rs.length≤400)(hH:t.hood.length≤1000)(hbase:base≤w.heap.size)(hG:GMat w)(hGO:∀ k,O k→1 < k)(hSG:SymG w)(hSO:∀ k,O k→0 < k)(hh:hd≤999999)(hcase:hd=2) :
  Calls Tryz.prog 48 #[.pointer (some ⟨gp,0,none⟩),.slice (some ⟨gw,0,none⟩) ws.length ws.length] w (LinePost O base gp M w (stepW ⟨hd,t,names⟩ (wdsB ws))):=by
 have c6:=hP.blk.cell_ 6 (.int .i64 (hd:Int)) rfl;have f6:=hP.blk.frozen 6;have hwr:=wrap_s (Nat.le_succ_of_le hh);have k1:Kept (fun g=>g=gp) w (w.setCell ⟨gp,6,none⟩ (.int .i64 ((hd:Int)+1))):=(Kept.refl (fun g=>g=gp) w).setCell (p:=⟨gp,6,none⟩) (Or.inl rfl) _;have hP1:PrM O base gp M hA hc vv rv vs rs D ⟨hd+1,t,names⟩ (w.setCell ⟨gp,6,none⟩ (.int .i64 ((hd:Int)+1))):=hP.box (s':=⟨hd+1,t,names⟩) (hA':=hA) (hc':=hc) (by simp[parC]) rfl rfl rfl hP.hood hP.oh hP.hg;have hS1:=hS.kept k1 (fun ad e _ h=>hgw (by injection e with e;subst e;have h':gw=gp:=h;rw[h'];exact hP.og));have hSG1:SymG (w.setCell ⟨gp,6,none⟩ (.int .i64 ((hd:Int)+1))):=Sts.kept hSG k1 (fun ad e _ h=>by injection e with e;subst e;have h':0=gp:=h;have:=hSO _ hP.og;omega);have hG1:GMat (w.setCell ⟨gp,6,none⟩ (.int .i64 ((hd:Int)+1))):=⟨by simpa using hG.1,fun i hi=>(k1.cell (p:=⟨1,i,none⟩) hG.1 (fun h=>by have h':1=gp:=h;have:=hGO _ hP.og;omega)).trans (hG.2 i hi)⟩
 have hkO:Kept O w (w.setCell ⟨gp,6,none⟩ (.int .i64 ((hd:Int)+1))):=k1.mono (fun g _ e=>by rw[e];exact hP.og);obtain⟨w1,hw1⟩:∃ W,W=w.setCell ⟨gp,6,none⟩ (.int .i64 ((hd:Int)+1)):=⟨_,rfl⟩
 rw[← hw1] at hP1 hS1 hSG1 hG1 hkO;have hsz:w1.heap.size=w.heap.size:=by rw[hw1];simp
 have HP1:=hid hP1;have HS1:=hid hS1;have HSG:=hid hSG1;have HG:=hid hG1;have HKO:=hid hkO;have HSZ:=hid hsz;have HW:=hid hw;have HBD:=hid (And.intro h40 (And.intro h400 (And.intro hH (And.intro hbase (And.intro hws (And.intro hh hGO))))));have HW1:=hid hw1;have hwl:(wdsB ws).length=ws.length:=by unfold wdsB;rw[List.length_map]
 obtain⟨res,hres⟩:∃ r,r=stepW ⟨hd,t,names⟩ (wdsB ws):=⟨_,rfl⟩
 rw[← hres];have hpos:0 < ws.length:=by cases ws with
  | nil=>exact absurd rfl hlen
  | cons _ _=>exact Nat.succ_pos _
 obtain⟨gb,go,e1,-,cw0⟩:=hS1.at_ hpos;injection e1 with e1
 injection e1 with e1 e2
 subst e1 e2;have hg0:=wdsB_getD hpos;obtain⟨x0,hx0⟩:∃ z,z=ws[0]'hpos:=⟨_,rfl⟩
 rw[← hx0] at cw0 hg0;have h9:ws.length≤9223372036854775807:=hS.le;have c61:=hP1.blk.cell_ 6 (.int .i64 ((hd:Int)+1)) (by simp[parC]);clear k1 hP hP1 hS hS1 hgw hSG hSG1 hG hG1 hGO hSO hkO hw1 hsz hw h40 h400 hH hbase hws hlen hx0;have e1:(((hd:Int)+1) == 1)=false:=(head_dec hd 0).2 (by omega);have e2:(((hd:Int)+1) == 2)=false:=(head_dec hd 1).2 (by omega);have e3:(((hd:Int)+1) == 3)=true:=(head_dec hd 2).1 hcase;have d0:(x0.toList == [115,121,109,109,101,116,114,121])=decide (x0.data.toList=[115,121,109,109,101,116,114,121]):=str_eq x0 _;unfold stepW headW at hres;dsimp only at hres;rw[if_pos (by omega),hg0,hcase,hwl] at hres;rw[show headsW.getD 2 []=[115,121,109,109,101,116,114,121] from rfl] at hres;by_cases h2:ws.length=2
 ·have d2:=(ne2_dec (a:=ws.length)).1 h2;by_cases hx:x0.data.toList=[115,121,109,109,101,116,114,121]
  ·rw[decide_eq_true hx] at d0;rw[if_neg (by rintro (h | h);exact h h2;exact h hx),if_neg (by decide),if_neg (by decide)] at hres;obtain⟨gb,go,e1',-,cw1⟩:=HS1.out.at_ (k:=1) (by omega);injection e1' with e1'
   injection e1' with e1' e2'
   subst e1' e2';rw[wdsB_getD (show 1 < ws.length by omega)] at hres;obtain⟨x1,hx1⟩:∃ z,z=ws[1]'(by omega):=⟨_,rfl⟩
   rw[← hx1] at cw1 hres;have hl1:1 < ws.length:=by omega
   have hl1i:(1:Int) < (ws.length:Int):=by omega
   have hl1j:((0:Int)≤1):=by decide
   have HIX:Hid (∀ n,Calls Tryz.prog 90 #[.slice (some ⟨0,0,none⟩) 4 4,.string x1] (w1.drewN n) fun e w'=>e=.returned (.int .i64 (placeI x1.data.toList 0 symsW))∧w'=w1.drewN n):=hid (by
    intro n;have h:=sidx_any (some ⟨0,0,none⟩) symsB 4 x1 (w1.drewN n) (Sts.drewN HSG.out n);rw[symsB_eq] at h;exact h)
   have HPE:Hid (∀ n k,Calls Tryz.prog 28 #[.slice hA t.hood.length hc,.int .i64 k] (w1.drewN n) fun e w'=>e=.returned (.bool (permP t.hood k))∧Below w1.heap.size w1 w'):=hid (fun n k=>(permits_any hA t.hood hc k (w1.drewN n) (HP1.out.hood.drewN n) (HG.out.ext (below_drewN (Below.refl _ w1) n))).mono fun e w' h=>⟨h.1,(below_drewN (Below.refl _ w1) n).trans h.2⟩);have HH:Hid (∀ g,O g→g < w1.heap.size):=hid HP1.out.inO;clear hx1;cases hpl:placeW x1.data.toList 0 symsW with
   | none=>
    have hpi:placeI x1.data.toList 0 symsW = -1:=by unfold placeI;rw[hpl]
    rw[hpi] at HIX;rw[hpl] at hres;dsimp only at hres;have HRES:=hid hres;clear hres hx h2 hh hcase hwl hg0 hpl hpi;go_enter Tryz.func48,Tryz.ntmps48;go_upto_region 3 with fail
    rw[← HW1.out];clear c6 f6 hwr;go_wp2;go_quiet ((go_at_call 90;exact Calls.quiet_of ((HIX.out _).mono fun _ _ h=>⟨h.1,0,h.2⟩)))
    go_wp2;go_ret;rw[HRES.out];exact LinePost.err (by decide) (HKO.out.trans (Kept.of_new O (below_drewN (Below.refl _ w1) _)))
   | some k=>
    have hpi:placeI x1.data.toList 0 symsW=(k:Int):=by unfold placeI;rw[hpl]
    rw[hpi] at HIX;rw[hpl] at hres;dsimp only at hres;have hk0:decide ((k:Int) < 0)=false:=decide_eq_false (by omega);have c2:=HP1.out.blk.cell_ 2 (.slice hA t.hood.length hc) rfl;have HRES:=hid hres;clear hres hx h2 hh hwl hg0 hpl hpi;have HCASE:=hid hcase;clear hcase;go_enter Tryz.func48,Tryz.ntmps48;go_upto_region 3 with fail
    rw[← HW1.out];clear c6 f6 hwr;go_wp2;go_quiet ((go_at_call 90;exact Calls.quiet_of ((HIX.out _).mono fun _ _ h=>⟨h.1,0,h.2⟩)))
    cases hpv:permP t.hood (k:Int) with
    | false=>
     rw[if_pos hpv] at HRES;go_wp2_with (go_at_call 28;refine (HPE.out nq (k:Int)).mono ?_;rw[hpv];rintro e w2 ⟨rfl,hb2⟩;have HB2:=hid hb2;clear hb2;refine Hid.out ?_);refine hid ?_;go_wp2;go_ret;rw[HRES.out];exact LinePost.err (by decide) (HKO.out.trans (Kept.of_new O HB2.out))
    | true=>
     rw[if_neg (by rw[hpv];decide)] at HRES;go_wp2_with (go_at_call 28;refine (HPE.out nq (k:Int)).mono ?_;rw[hpv];rintro e w2 ⟨rfl,hb2⟩;have c1:=(HP1.out.ext hb2).blk.cell_ 1 (.int .i64 t.sym) rfl;have f1:=(HP1.out.ext hb2).blk.frozen 1;have HB2:=hid hb2;clear hb2;refine Hid.out ?_);refine hid ?_;have hPw:=(HP1.out.ext HB2.out).wide (O':=fun k=>O k∨(w.heap.size≤k∧k < w2.heap.size)) (fun k h=>.inl h) (fun k h=>h.elim (fun h=>Nat.lt_of_lt_of_le (HH.out k h) HB2.out.size) (fun h=>h.2));have hpf:=hPw.box (s':=⟨3,⟨t.st,(k:Int),t.hood,t.vars,t.rows⟩,names⟩) (k:=1) (u:=.int .i64 (k:Int)) (hA':=hA) (hc':=hc) (by simp[parC,HCASE.out]) rfl rfl rfl hPw.hood hPw.oh hPw.hg;have hkf:Kept O w (w2.setCell ⟨gp,1,none⟩ (.int .i64 (k:Int))):=HKO.out.trans ((Kept.of_new O HB2.out).setCell (p:=⟨gp,1,none⟩) (.inl HP1.out.og) _);have HPF:=hid hpf;have HKF:=hid hkf;clear hPw hpf hkf;go_wp2;go_ret;rw[HRES.out];exact⟨rfl,HKF.out,fun _=>⟨_,_,_,_,_,_,_,HPF.out.wide (fun k h=>h.imp id (fun h=>⟨h.1,by simpa using h.2⟩)) (fun k h=>h.elim (fun h=>HPF.out.inO k (.inl h)) (fun h=>h.2))⟩⟩
  ·rw[decide_eq_false hx] at d0;rw[if_pos (.inr hx)] at hres;have HRES:=hid hres;clear hres hx h2 hh hcase hwl hg0;go_enter Tryz.func48,Tryz.ntmps48;go_upto_region 3 with fail
   rw[← HW1.out];clear c6 f6 hwr;go_wp2;go_ret;rw[HRES.out];exact LinePost.err (by decide) HKO.out
 ·have d2:=(ne2_dec (a:=ws.length)).2 h2;rw[if_pos (.inl h2)] at hres;have HRES:=hid hres;clear hres h2 hh hcase hwl hg0;go_enter Tryz.func48,Tryz.ntmps48;go_upto_region 3 with fail
  rw[← HW1.out];clear c6 f6 hwr;go_wp2;go_ret;rw[HRES.out];exact LinePost.err (by decide) HKO.out
set_option maxHeartbeats 16000000 in
theorem pline_any {O:Blks}{base gp M:Nat}{hA:Option Addr}{hc:Nat}{vv rv:Value}{vs:List Vh}{rs:List Rh}{D:DataW Unit}{hd:Nat}{t:TabL}{names:List Wd}(gw:Nat)(ws:List ByteArray)(w:World)(hP:PrM O base gp M hA hc vv rv vs rs D ⟨hd,t,names⟩ w)(hS:Sts w (some ⟨gw,0,none⟩) ws)(hgw:¬ O gw)(hw:∀ x ∈ ws,x.size≤2147483648)(hws:ws.length≤1000000)(hlen:ws≠[])(h40:vs.length≤40)(h400:rs.length≤400)(hH:t.hood.length≤1000)(hbase:base≤w.heap.size)(hG:GMat w)(hGO:∀ k,O k→1 < k)(hSG:SymG w)(hSO:∀ k,O k→0 < k)(hh:hd≤999999) :
  Calls Tryz.prog 48 #[.pointer (some ⟨gp,0,none⟩),.slice (some ⟨gw,0,none⟩) ws.length ws.length] w (LinePost O base gp M w (stepW ⟨hd,t,names⟩ (wdsB ws))):=by
 by_cases h3:3≤hd
 ·exact line_big gw ws w hP hS hgw hw hws hlen h40 h400 hH hbase hG hGO hSG hSO hh h3
 ·obtain h | h | h:hd=0∨hd=1∨hd=2:=by omega
  ·exact line_0 gw ws w hP hS hgw hw hws hlen h40 h400 hH hbase hG hGO hSG hSO hh h
  ·exact line_1 gw ws w hP hS hgw hw hws hlen h40 h400 hH hbase hG hGO hSG hSO hh h
  ·exact line_2 gw ws w hP hS hgw hw hws hlen h40 h400 hH hbase hG hGO hSG hSO hh h
end Go.Proofs.YtcmbdhopmncmnaaGreatDoor
namespace Go.Proofs.YtcmbdhopmncmnaaGreatDoor
open Go.RowKit
set_option maxRecDepth 100000
set_option linter.unusedVariables false
set_option linter.unusedSimpArgs false
theorem Tryz.sizeTab:(Tryz.prog.info? 26).map (·.size)=some 5:=by kernel_rfl
def zeroTab:Array Value:=#[.int .i64 0,.int .i64 0,.slice none 0 0,.slice none 0 0,.slice none 0 0]
def hoodsB:List ByteArray:=[⟨#[109,111,111,114,101]⟩,⟨#[110,101,117,109,97,110,110]⟩,⟨#[104,101,120]⟩,⟨#[108,105,110,101]⟩]
theorem sts_lit (w:World)(bs:List ByteArray)(hl:bs.length≤maxLen:=by decide):Sts (w.alloc (.cells (bs.map Value.string).toArray 9)) (some ⟨w.heap.size,0,none⟩) bs:=by
 have h:=World.ownsRow_lit (base:=w.heap.size) (e:=9) (size:=1) w (bs.map Value.string).toArray bs.length (Nat.le_refl _) hl (by simp);have h2:OwnS 9 (w.alloc (.cells (bs.map Value.string).toArray 9)) w.heap.size (.slice (some ⟨w.heap.size,0,none⟩) bs.length bs.length) bs:=by unfold OwnS;simpa using h
 obtain⟨A,c,e,h3,-⟩:=h2.sts;injection e with e1 e2 e3
 subst e1;exact h3
theorem syms_at {k:Nat}(hk:k < 4):symsB[k]'hk=⟨(symsW.getD k []).toArray⟩:=by
 obtain rfl | rfl | rfl | rfl:k=0∨k=1∨k=2∨k=3:=by omega
 all_goals rfl
theorem hoodsB_at {k:Nat}(hk:k < hoodsB.length):hoodsB[k]=⟨(hoodsW.getD k []).toArray⟩∧hoodsB[k].data.toList=hoodsW.getD k []:=by
 have hk4:k < 4:=hk;obtain rfl | rfl | rfl | rfl:k=0∨k=1∨k=2∨k=3:=by omega
 all_goals exact⟨rfl,rfl⟩
end Go.Proofs.YtcmbdhopmncmnaaGreatDoor
namespace Go.Proofs.YtcmbdhopmncmnaaGreatDoor
open Go.RowKit Go.Shelf
set_option maxRecDepth 100000
set_option linter.unusedVariables false
set_option linter.unusedSimpArgs false
def ffRen:Go.Shelf.Ren:=⟨fun | 229=>87 | n=>n,fun | 9=>9 | 40=>108 | 31=>70 | 152=>128 | 3=>3 | 0=>0 | 4=>4 | 21=>21 | 154=>130 | n=>n,fun | n=>n⟩
theorem ffLays:Go.Proofs.Lays.n229 Tryz.prog ffRen:={
 mixed:=by kernel_rfl
 f229:=Tryz.func87.trans (congrArg some (by kernel_rfl))
 t0:=Tryz.underlying0
 a0:=Tryz.isAgg0
 z0:=Tryz.sizeOf0
 v0:=Tryz.zeroValue0
 t3:=Tryz.underlying3
 a3:=Tryz.isAgg3
 z3:=Tryz.sizeOf3
 v3:=Tryz.zeroValue3
 t4:=Tryz.underlying4
 a4:=Tryz.isAgg4
 z4:=Tryz.sizeOf4
 v4:=Tryz.zeroValue4
 t9:=Tryz.underlying9
 a9:=Tryz.isAgg9
 z9:=Tryz.sizeOf9
 v9:=Tryz.zeroValue9
 t21:=Tryz.underlying21
 a21:=Tryz.isAgg21
 z21:=Tryz.sizeOf21
 v21:=Tryz.zeroValue21
 t31:=Tryz.underlying70
 a31:=Tryz.isAgg70
 z31:=Tryz.sizeOf70
 v31:=Tryz.zeroValue70
 t40:=Tryz.underlying108
 a40:=Tryz.isAgg108
 z40:=Tryz.sizeOf108
 v40:=Tryz.zeroValue108
 t152:=Tryz.underlying128
 a152:=Tryz.isAgg128
 z152:=Tryz.sizeOf128
 v152:=Tryz.zeroValue128
 t154:=Tryz.underlying130
 a154:=Tryz.isAgg130
 z154:=Tryz.sizeOf130
 v154:=Tryz.zeroValue130 }
theorem infoSpan:(Tryz.prog.info? (ffRen.t 154)).map (fun i=>(i.zero,i.size,i.bytes))=some (some (.agg #[.int .i64 0,.int .i64 0]),2,16):=by kernel_rfl
theorem infoStr:(Tryz.prog.info? (ffRen.t 9)).map (fun i=>(i.zero,i.size,i.bytes))=some (some (.string ⟨#[]⟩),1,16):=by kernel_rfl
theorem sepR_int (x:Nat):sepR x=((x:Int) == 32 || (x:Int) == 9):=by
 unfold sepR
 congr 1
 ·rw[Bool.eq_iff_iff,beq_iff_eq,beq_iff_eq];omega
 ·rw[Bool.eq_iff_iff,beq_iff_eq,beq_iff_eq];omega
theorem sep_any (x:Nat)(w:World):Calls Tryz.prog 88 #[.int .i32 (x:Int)] w fun e w'=>e=.returned (.bool (sepR x))∧w'=w:=by
 rw[sepR_int];obtain⟨z,hz⟩:∃ z:Int,z=(x:Int):=⟨_,rfl⟩
 rw[← hz];clear hz;by_cases h1:z=32
 ·subst h1;go_enter Tryz.func88,Tryz.ntmps88;go_wp2;go_ret;exact⟨rfl,rfl⟩
 ·have e1:(z == 32)=false:=beq_eq_false_iff_ne.2 h1;by_cases h2:z=9
  ·subst h2;clear h1;go_enter Tryz.func88,Tryz.ntmps88;go_wp2;go_ret;exact⟨rfl,rfl⟩
  ·have e2:(z == 9)=false:=beq_eq_false_iff_ne.2 h2;rw[e1,e2];clear h1 h2;go_enter Tryz.func88,Tryz.ntmps88;go_wp2;go_ret;exact⟨rfl,rfl⟩
theorem sts_own {T:TypeId}{w:World}{base A c:Nat}{bs:List ByteArray}(h:w.ownsRow base T 1 (.slice (some ⟨A,0,none⟩) bs.length c) bs.length (bs.map Value.string))(hl:bs.length≤9223372036854775807):Sts w (some ⟨A,0,none⟩) bs:=⟨Reads.of_own h,hl⟩
def fieldsS (s:ByteArray):List ByteArray:=Lib.goFieldsP sepR s
theorem fieldsS_eq (s:ByteArray):wdsB (fieldsS s)=fieldsB [] s.data.toList:=fields_bytes s
theorem ffunc_any (s:ByteArray)(w:World)(hs:s.size≤4294967296) :
  Calls Tryz.prog 87 #[.string s,.func (.func 88) #[] #[]] w fun e w'=>∃ A,e=.returned (.slice (some ⟨A,0,none⟩) (fieldsS s).length (fieldsS s).length)∧w.heap.size≤A∧A < w'.heap.size∧Sts w' (some ⟨A,0,none⟩) (fieldsS s)∧Below w.heap.size w w':=by
 refine (Any.strings_FieldsFunc_runes ffLays 88 #[] (enters_of Tryz.func88 (by kernel_rfl) rfl) sepR s w hs ?_ infoSpan infoStr).mono ?_
 ·intro W x _ _;exact (sep_any x W).mono fun e w' h=>⟨h.1,0,h.2⟩
 ·rintro e w' ⟨A,rfl,hA,hown,hb⟩;have hl:(fieldsS s).length≤9223372036854775807:=by
   have h:=congrArg List.length (fieldsS_eq s);unfold wdsB at h;rw[List.length_map] at h;have h2:=(fields_len s.data.toList []).1;have h3:s.data.toList.length=s.size:=rfl;omega
  refine⟨A,rfl,hA,?_,sts_own hown hl,hb⟩;rcases hown.2 with ⟨h,_⟩ | ⟨g,cap,cur,h,_,hg,_⟩
  ·cases h
  ·injection h with h
   injection h with h
   injection h with h
   subst h;exact (Array.getElem?_eq_some_iff.1 hg).1
def GCell (w:World):Prop:=∃ m,w.cell? ⟨2,0,none⟩=some (.int .i64 m)
theorem GCell.ext {w w':World}(h:GCell w)(hb:Below w.heap.size w w'):GCell w':=by
 obtain⟨m,hm⟩:=h;exact⟨m,by rw[hb.cell (World.block_lt_of_cell? _ _ hm)];exact hm⟩
theorem GCell.kept {S:Nat→Prop}{w w':World}(h:GCell w)(hk:Kept S w w')(hs:¬ S 2):GCell w':=by
 obtain⟨m,hm⟩:=h;exact⟨m,(hk.cell (World.block_lt_of_cell? _ _ hm) hs).trans hm⟩
theorem takeW_index:∀ l:List UInt8,(Lib.indexByte l 35 = -1∧uncom l=l)∨∃ k:Nat,Lib.indexByte l 35=k∧uncom l=l.take k
 | []=>.inl ⟨rfl,rfl⟩
 | b :: l=>by
  by_cases hb:b=35
  ·subst hb;exact .inr ⟨0,rfl,rfl⟩
  ·have hu:uncom (b :: l)=b :: uncom l:=by
    unfold uncom;rw[List.takeWhile_cons,if_pos (by rw[bne_iff_ne];exact hb)]
   rw[hu];unfold Lib.indexByte;rw[if_neg (by simpa using hb)];rcases takeW_index l with ⟨h1,h2⟩ | ⟨k,h1,h2⟩
   ·rw[h1];exact .inl ⟨rfl,congrArg (b :: ·) h2⟩
   ·rw[h1,if_neg (by simp only[beq_iff_eq];omega)];exact .inr ⟨k+1,rfl,congrArg (b :: ·) h2⟩
theorem cut_uncom (l:List UInt8):(Lib.cut l [35]).1=uncom l:=by
 unfold Lib.cut;rw[Lib.index_one];rcases takeW_index l with ⟨h1,h2⟩ | ⟨k,h1,h2⟩
 ·rw[h1,if_neg (by decide),h2]
 ·rw[h1,if_pos (Int.natCast_nonneg k),h2];rfl
theorem cuth_any (s:ByteArray)(w:World)(hg:GCell w)(hs:s.size < 4294967281):Calls Tryz.prog 86 #[.string s,.string ⟨#[35]⟩] w fun e w'=>(∃ u v,e=.returned (.tuple #[.string ⟨(uncom s.data.toList).toArray⟩,u,v]))∧∃ n,w'=w.drewN n:=by
 obtain⟨m,hm⟩:=hg;refine (Tryz.strings_Cut s ⟨#[35]⟩ m w hs hm).mono ?_;rintro e w' ⟨rfl,n,rfl⟩;exact⟨⟨_,_,by rw[← cut_uncom]⟩,n,rfl⟩
def linesS (s:ByteArray):List ByteArray:=Lib.splitB ⟨#[10]⟩ 0 (Lib.countB s ⟨#[10]⟩) s
theorem linesS_eq (s:ByteArray):wdsB (linesS s)=lines11 s.data.toList:=split_all s
theorem linesS_len (s:ByteArray):(linesS s).length=Lib.countB s ⟨#[10]⟩+1:=Lib.splitB_all ⟨#[10]⟩ (by decide) 0 _ s rfl
theorem linesS_size (s:ByteArray):(linesS s).length≤s.size+1∧∀ x ∈ linesS s,x.size≤s.size:=by
 have h:=lines_len s.data.toList;rw[← linesS_eq] at h;unfold wdsB at h;rw[List.length_map] at h;exact⟨h.1,fun x hx=>h.2 _ (List.mem_map.2 ⟨x,hx,rfl⟩)⟩
theorem split_any (s:ByteArray)(w:World)(hg:GCell w)(hs:s.size < 4294967281):Calls Tryz.prog 85 #[.string s,.string ⟨#[10]⟩] w fun e w'=>e=.returned (.slice (some ⟨w.heap.size,0,none⟩) (linesS s).length (linesS s).length)∧Sts w' (some ⟨w.heap.size,0,none⟩) (linesS s)∧Below w.heap.size w w'∧w.heap.size < w'.heap.size:=by
 obtain⟨m,hm⟩:=hg;refine (Tryz.strings_Split s ⟨#[10]⟩ m w hs hm (by decide)).mono ?_;rintro e w' ⟨rfl,rfl⟩;have hl:=linesS_len s;have h2:=(linesS_size s).1;refine⟨by rw[hl],⟨⟨by simp,fun _=>⟨_,rfl,by simp,fun j u hu=>?_⟩⟩,by omega⟩,(Below.refl _ w).alloc (Nat.le_refl _) _,by simp⟩;rw[addr_add];have h3:=cell_of_row _ _ (0+j) _ _ _ (heap_alloc_new w (.cells ((linesS s).map Value.string).toArray 9 (0,0)));refine h3.trans ?_;rw[Nat.zero_add];simpa using hu
end Go.Proofs.YtcmbdhopmncmnaaGreatDoor
