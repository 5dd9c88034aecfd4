/-
  texts Rbt: parts of the proof; conditions stand with each theorem.
-/
import Derived.Test.YtlegfdllipkggaaGreatDoorWG3
import Derived.Test.YtlegfdllipkggaaGreatDoorWG2
namespace Go.Proofs.YtlegfdllipkggaaGreatDoor
open Lib(hid)
open Go.RowKit Go.Maps
set_option maxRecDepth 100000
set_option linter.unusedVariables false
set_option linter.unusedSimpArgs false

def RetTree (st:Int)(ps:List (Int × Int))(ns:List Nd)(w:World)(e:Ending)(w':World):Prop:=
 ∃ hv nv os,e=.returned (.agg #[.int .i64 st,hv,nv])∧OwnP 56 w' w.heap.size hv ps∧OwnNA w' w.heap.size nv os∧os.map Hd.nd=ns∧Below w.heap.size w w'
theorem Tryz.sizeTree:(Tryz.prog.info? 31).map (·.size)=some 3:=by kernel_rfl
def RbRel (B Pb M:Nat)(ch:Int→List Int→List Int)(l:List Nd)(W:World)(toV i:Value)(wr:World):Prop:=
 ∃ (k:Nat) (cs:Array Value) (nv:Value) (hs:List Hd) (D:DataW Unit),k≤l.length∧i=.int .i64 k∧RbW B Pb M ch l k k toV cs nv hs D wr∧Below B W wr
def nxTo (tz:List Int)(lv:Int)(zs:List Int)(m:Nat):List Int:=if 1 < lv then (zs.take m).map (fun k=>tz.getD k.toNat 0) ++ zs.drop m else zs
theorem nxTo_zero (tz:List Int)(lv:Int)(zs:List Int):nxTo tz lv zs 0=zs:=by unfold nxTo;split <;> simp
theorem nxTo_all (tz:List Int)(lv:Int)(zs:List Int):nxTo tz lv zs zs.length=nxOf tz (lv,zs):=by
 unfold nxTo nxOf
 split <;> simp
theorem nxTo_len (tz:List Int)(lv:Int)(zs:List Int)(m:Nat):(nxTo tz lv zs m).length=zs.length:=by
 unfold nxTo
 split
 ·rw[List.length_append,List.length_map,List.length_take,List.length_drop];omega
 ·rfl
theorem nxTo_step {tz:List Int}{lv:Int}{zs:List Int}{m:Nat}(hl:1 < lv)(hm:m < zs.length):(nxTo tz lv zs m).set m (tz.getD (zs[m].toNat) 0)=nxTo tz lv zs (m+1):=by
 unfold nxTo;rw[if_pos hl,if_pos hl,set_mid (by rw[List.length_map,List.length_take];omega) hm,List.take_succ_eq_append_getElem hm,List.map_append];rfl
theorem nxTo_low {tz:List Int}{lv:Int}{zs:List Int}(m:Nat)(hl:¬ 1 < lv):nxTo tz lv zs m=zs:=by
 unfold nxTo;rw[if_neg hl]
theorem nxTo_get {tz:List Int}{lv:Int}{zs:List Int}{m:Nat}(hm:m < zs.length):(nxTo tz lv zs m).getD m 0=zs[m]:=by
 unfold nxTo
 split
 ·exact get_mid (by rw[List.length_map,List.length_take];omega) hm
 ·rw[List.getD_eq_getElem?_getD,List.getElem?_eq_getElem hm];rfl
def NxRel (N g cx n:Nat)(base:Nat)(tz:List Int)(lv:Int)(zs:List Int)(W:World)(i:Value)(wr:World):Prop:=
 ∃ m:Nat,m≤zs.length∧i=.int .i64 m∧OwnIA wr base (.slice (some ⟨g,0,none⟩) n cx) (nxTo tz lv zs m)∧Kept (fun x=>x=g) W wr
theorem rb_succ {ch:Int→List Int→List Int}{l:List Nd}{k:Nat}{lv:Int}{zs:List Int}(hk:k < l.length)(hnd:ndAt l k=(lv,zs)) :
  rebTo ch l (k+1)=((addN (rebTo ch l k).1 (lv,ch lv (nxOf (rebTo ch l k).2 (lv,zs)))).2,(rebTo ch l k).2 ++ [((addN (rebTo ch l k).1 (lv,ch lv (nxOf (rebTo ch l k).2 (lv,zs)))).1:Int)]):=by
 rw[rebTo_succ ch l hk,← ndAt_get l hk,hnd];rfl
theorem madeB (w:World)(st:Int)(A:Option Addr)(n c:Nat)(Ab:Option Addr)(m d:Nat)(w1:World)
  (h:w1=(((w.alloc (.cells #[.int .i64 st,.slice A n c,.slice Ab m d] 31)).alloc (.cells #[.int .i64 0,.slice none 0 0,.slice none 0 0] 31)).alloc (.map #[] 0)).alloc (.cells #[.slice none 0 0,.map (some (w.heap.size+1+1))] 103)) :
  Below w.heap.size w w1∧Blk w1 w.heap.size 31 #[.int .i64 st,.slice A n c,.slice Ab m d]∧Blk w1 (w.heap.size+1) 31 #[.int .i64 0,.slice none 0 0,.slice none 0 0]∧
   Bld (w.heap.size+1+1) (w.heap.size+1+1+1) (w.heap.size+1+1) 103 #[.slice none 0 0,.map (some (w.heap.size+1+1))] (.slice none 0 0) [] (.map []) w1∧w.heap.size+1+1 < w1.heap.size:=by
 obtain⟨a1,ha1⟩:∃ a1,a1=w.alloc (.cells #[.int .i64 st,.slice A n c,.slice Ab m d] 31):=⟨_,rfl⟩
 obtain⟨a2,ha2⟩:∃ a2,a2=a1.alloc (.cells #[.int .i64 0,.slice none 0 0,.slice none 0 0] 31):=⟨_,rfl⟩
 obtain⟨a3,ha3⟩:∃ a3,a3=a2.alloc (.map #[] 0):=⟨_,rfl⟩
 rw[← ha1,← ha2,← ha3] at h;have s1:a1.heap.size=w.heap.size+1:=by rw[ha1];simp
 have s2:a2.heap.size=w.heap.size+1+1:=by rw[ha2];simp[s1]
 have s3:a3.heap.size=w.heap.size+1+1+1:=by rw[ha3];simp[s2]
 have b1:Below w.heap.size w a1:=by rw[ha1];exact below_new _ _
 have b2:Below a1.heap.size a1 a2:=by rw[ha2];exact below_new _ _
 have b3:Below a2.heap.size a2 a3:=by rw[ha3];exact below_new _ _
 have b4:Below a3.heap.size a3 w1:=by rw[h];exact below_new _ _
 have p1:Blk a1 w.heap.size 31 #[.int .i64 st,.slice A n c,.slice Ab m d]:=by rw[ha1];exact Blk.new _ _ _
 have p2:Blk a2 a1.heap.size 31 #[.int .i64 0,.slice none 0 0,.slice none 0 0]:=by rw[ha2];exact Blk.new _ _ _
 have p3:MapA a3 a2.heap.size 0 (.map []):=by rw[ha3];exact World.ownsMap_made _ _ _ _
 have p4:Blk w1 a3.heap.size 103 #[.slice none 0 0,.map (some (w.heap.size+1+1))]:=by rw[h];exact Blk.new _ _ _
 have p3':MapA w1 a2.heap.size 0 (.map []):=(Kept.of_new (fun _=>False) b4).map p3 (fun h=>h);have p2':=(p2.below b3 p2.lt).below b4 (by have:=p2.lt;omega);have p1':=((p1.below b2 p1.lt).below b3 (by have:=p1.lt;omega)).below b4 (by have:=p1.lt;omega);rw[s1] at p2';rw[s2] at p3';rw[s3] at p4;refine⟨((b1.trans (b2.mono b1.size)).trans (b3.mono (by omega))).trans (b4.mono (by omega)),p1',p2',⟨p4,rfl,rfl,OwnN.nil _ _ _ _,p3',Known.nil,by omega,by omega⟩,p3'.lt⟩
structure RbJ (W:World)(gX:Nat)(g:Nat)(cx:Nat)(n:Nat)(lv:Int)(At:Option Addr)(k:Nat)(ct:Nat)(idx:Nat)(FVv:Value)(C1:World→Prop)(C2:World→Prop)(C4:Value→World→Prop)(b0 b1 b2 b3 b4 b5 b6 b7 b8 b9 b10 b11:Bool)(v42 v43 v44 v45 v46 v47 v48 v49 v50 v51 v52 v6:Value)(w:World):Prop where
 h0:b0=true→v42=.slice At k ct
 h1:b1=true→v43=.pointer (some ⟨gX,0,none⟩)
 h2:b2=true→v44=.int .i64 lv
 h3:b3=true→v45=FVv
 h4:b4=true→v46=.pointer (some ⟨gX,0,none⟩)
 h5:b5=true→v47=.int .i64 lv
 h6:b6=true→v48=.slice (some ⟨g,0,none⟩) n cx
 h7:b7=true→v49=.slice (some ⟨g,0,none⟩) n cx
 kx:w.cell? ⟨gX,0,none⟩=some (.int .i64 lv)
 ord:(b8=true→b7=true)∧(b9=true→b8=true)∧(b10=true→b9=true)∧(b11=true→b10=true)
 wa:b7=false→w=W.drew
 w1:b7=true→b8=false→C1 w
 w2:b8=true→v50=.int .i64 idx∧(b9=false→C2 w)
 w3:b9=true→b10=false→∃ w2,C2 w2∧w=w2.alloc (.cells #[.int .i64 idx] 3)∧v51=.slice (some ⟨w2.heap.size,0,none⟩) 1 1
 w4:b10=true→C4 v52 w
 h0x:b11=true→b0=true
 w6:(b11=false→v6=.slice At k ct)∧(b11=true→v6=v52)
structure RbE (W:World)(Pt:Nat)(Pb:Nat)(Pr:Nat)(st:Int)(A:Option Addr)(c:Nat)(ps:List (Int × Int))(An:Option Addr)(on:Nat)(cn:Nat)(bt:Nat)(ot:Nat)(n:Nat)(ct:Nat)(N1:Nat)(r:Int)(ns:List Nd)(b0 b1 b2 b3 b4 b5 b6 b7 b8 b9 b10 b11 b12 b13 b14 b15:Bool)(v54 v55 v56 v57 v58 v59 v60 v61 v62 v63 v64 v65 v66 v67 v68:Value)(w:World):Prop where
 h0:b0=true→v54=.pointer (some ⟨Pt,0,none⟩)
 h1:b1=true→v55=.int .i64 st
 h2:b2=true→v56=.pointer (some ⟨Pt,1,none⟩)
 h3:b3=true→v57=.slice A ps.length c
 h5:b5=true→v59=.pointer (some ⟨Pb,0,none⟩)
 h6:b6=true→v60=.slice An on cn
 h7:b7=true→v61=.slice (some ⟨bt,ot,none⟩) n ct
 h8:b8=true→v62=.slice (some ⟨bt,ot,none⟩) n ct
 h9:b9=true→v63=.int .i64 n
 h10:b10=true→v64=.int .i64 N1
 h11:b11=true→v65=.pointer (some ⟨bt,ot+N1,none⟩)
 h12:b12=true→v66=.int .i64 r
 below:b15=false→Below W.heap.size W w
 hord:b15=true→b1=true∧b3=true∧b4=true∧b6=true∧b12=true∧b13=true∧b14=true
 h4:b4=true→b15=false→OwnP 56 w W.heap.size v58 ps
 h13:b13=true→b15=false→∃ os2,OwnNA w W.heap.size v67 os2∧os2.map Hd.nd=ns
 h14:b14=true→b15=false→∃ hv nv os2,v68=.agg #[.int .i64 st,hv,nv]∧OwnP 56 w W.heap.size hv ps∧OwnNA w W.heap.size nv os2∧os2.map Hd.nd=ns
 h15:b15=true→∃ hv nv os2 w5,Below W.heap.size W w5∧OwnP 56 w5 W.heap.size hv ps∧OwnNA w5 W.heap.size nv os2∧os2.map Hd.nd=ns∧hv.oneCell'=true∧nv.oneCell'=true∧w=((w5.setCell ⟨Pr,0,none⟩ (.int .i64 st)).setCell ⟨Pr,1,none⟩ hv).setCell ⟨Pr,2,none⟩ nv

set_option maxHeartbeats 16000000 in
theorem rebuilt_red (ch:Int→List Int→List Int)(st:Int)(A:Option Addr)(c:Nat)(ps:List (Int × Int))(Ab:Option Addr)(d:Nat)(hs:List Hd)(w:World)(hp:Pts w A ps)(hN:Nds w Ab hs)
  (q:Nat) (hq0:0 < q) (hq1:q≤1000) (hV:VNd q (hs.map Hd.nd)) (hlv:∀ i,i < hs.length→(ndAt (hs.map Hd.nd) i).1≤99) (hc:Chg q ch) (hn0:0 < hs.length) (hn1:hs.length≤1000000) (hps:ps.length≤1000) (ht:TabB w.heap.size w)
  (hch:∀ (W:World) (base g cx:Nat) (zs:List Int) (lv:Int),Below w.heap.size w W→w.heap.size≤g→zs.length=q→(lv=1→∀ z ∈ zs,0≤z∧z < (q:Int))→1≤lv→lv≤99→OwnIA W base (.slice (some ⟨g,0,none⟩) zs.length cx) zs→
   Calls Tryz.prog 58 #[.int .i64 lv,.slice (some ⟨g,0,none⟩) zs.length cx] W fun e W'=>e=.returned (.slice (some ⟨g,0,none⟩) zs.length cx)∧OwnIA W' base (.slice (some ⟨g,0,none⟩) zs.length cx) (ch lv zs)∧Kept (fun x=>x=g) W W') :
  Calls Tryz.prog 57 #[.agg #[.int .i64 st,.slice A ps.length c,.slice Ab hs.length d],.func (.func 58) #[] #[]] w (RetTree st ps (redN ch (hs.map Hd.nd)) w):=by
 have HP:=hid hp;have HN:=hid hN;have HV:=hid hV;have HLV:=hid hlv;have HC:=hid hc;have HT:=hid ht;have HCH:=hid hch;have HQ:=hid (And.intro hq0 hq1);have HPS:=hid hps;have HN0:=hid hn0;have hn2:=hN.le;have hp2:=hp.le;have hmm:=@run_makeMap Tryz.prog;clear hp hN hV hlv hc ht hch hq0 hq1 hps hn0 hp2;go_enter Tryz.func57,Tryz.ntmps57;go_upto_region 3 with fail
 obtain⟨w1,hw1⟩:∃ w1,w1=(((w.alloc (.cells #[.int .i64 st,.slice A ps.length c,.slice Ab hs.length d] 31)).alloc (.cells #[.int .i64 0,.slice none 0 0,.slice none 0 0] 31)).alloc (.map #[] 0)).alloc (.cells #[.slice none 0 0,.map (some (w.heap.size+1+1))] 103):=⟨_,rfl⟩
 obtain⟨hb1,hpt,hpr,hbl,hml⟩:=madeB w st A ps.length c Ab hs.length d w1 hw1;rw[← hw1];have hct:=hpt.cell_ 2 (.slice Ab hs.length d) rfl;have HB1:=hid hb1;have HPT:=hid hpt;have HPR:=hid hpr;have HBL0:Hid (RbW (w.heap.size+1+1) (w.heap.size+1+1+1) (w.heap.size+1+1) ch (hs.map Hd.nd) 0 0 (.slice none 0 0) #[.slice none 0 0,.map (some (w.heap.size+1+1))] (.slice none 0 0) [] (.map []) w1):=hid ⟨OwnI.nil _ _ _,hbl,rfl,fun x hx=>absurd hx (by simp)⟩;have HN1:=hid hn1;obtain⟨Pb,hPb⟩:∃ Pb,Pb=w.heap.size+1+1+1:=⟨_,rfl⟩
 obtain⟨M,hM⟩:∃ M,M=w.heap.size+1+1:=⟨_,rfl⟩
 obtain⟨Pr,hPr⟩:∃ Pr,Pr=w.heap.size+1:=⟨_,rfl⟩
 obtain⟨Pt,hPt⟩:∃ Pt,Pt=w.heap.size:=⟨_,rfl⟩
 rw[← hPb,← hM] at HBL0;rw[← hM] at hml;have HM1:Hid (M < w1.heap.size∧w.heap.size+2=M):=hid ⟨hml,by omega⟩;rw[← hPr] at HPR;rw[← hPt] at HPT hct;rw[← hPb,← hM,← hPr];have HPB:=hid (And.intro hPb (And.intro hM (And.intro hPr hPt)))
 conv in (Value.pointer (some ⟨w.heap.size,0,none⟩))=>rw[← hPt]
 clear hw1 hb1 hpt hpr hbl hml hmm hn1 hPb hM hPr hPt;go_wp2;clear hct;go_loopw [6,17] (fun tv i wr=>RbRel M Pb M ch (hs.map Hd.nd) w1 tv i wr) (fun _ i _=>hs.length - (intOf i).toNat)
 case atStart=>exact⟨0,_,_,_,_,Nat.zero_le _,rfl,HBL0.out,Below.refl _ _⟩
 case round=>
  obtain⟨k,cs,nv,os,D,hk,rfl,hrw,hbw⟩:=hrel;rw[List.length_map] at hk;by_cases hlt:k < hs.length
  ·obtain⟨nb,no,e1,hnb,hc0,hc1,hzI⟩:=(HN.out.ext (HB1.out.trans (hbw.mono (by have:=HM1.out;omega)))).at_ hlt;have hndk:=nd_at hs hlt;have hzq:=HV.out.lev.len k (by rw[List.length_map];exact hlt);have hl1:=HV.out.lev.one k (by rw[List.length_map];exact hlt);have hl99:=HLV.out k hlt;obtain⟨x,hx⟩:∃ x,x=hs[k]:=⟨_,rfl⟩
   rw[← hx] at hc0 hc1 hzI hndk;obtain⟨lv,zA,zc,zs⟩:=x;dsimp only at hc0 hc1 hzI;change ndAt (hs.map Hd.nd) k=(lv,zs) at hndk;rw[hndk] at hzq hl1 hl99;dsimp only at hzq hl1 hl99;have HND:=hid hndk;have HL1:=hid (And.intro hl1 hl99);have HZQ:=hid hzq;have HRW:=hid hrw;have HBW:=hid hbw;have HZI:=hid hzI;have hw1:wrap64 ((k:Int)+1)=(k:Int)+1:=by have:=HN1.out;unfold wrap64;omega
   clear hx hndk hzq hl1 hl99 hrw hbw hzI hn2;subst e1;obtain⟨At,ct,hu6,hti,-⟩:=HRW.out.tr.ints;have hrb:=RbI.all HV.out HC.out k (by rw[List.length_map];exact hk);rw[hrb.tl] at hu6;have HRB:=hid hrb;have HNX:=hid (hrb.nx HV.out HC.out (by rw[List.length_map];exact hlt));rw[HND.out] at HNX;have HTI:=hid hti;clear hrb hti;subst hu6;go_upto_region 6 with fail
   obtain⟨wx,hwx⟩:∃ wx,wx=wr.alloc (.cells #[.int .i64 lv,.slice zA zs.length zc] 58):=⟨_,rfl⟩
   obtain⟨gX,hgX⟩:∃ gX,gX=wr.heap.size:=⟨_,rfl⟩
   have hbx:Below wr.heap.size wr wx:=by rw[hwx];exact below_new _ _
   have hG:Blk wx gX 58 #[.int .i64 lv,.slice zA zs.length zc]:=by rw[hwx,hgX];exact Blk.new _ _ _
   have hcl:=clone_ints zA zc zs wx (HZI.out.ext hbx) (by have:=HZQ.out;have:=HQ.out;omega);have HCL:=hid hcl;have HG:=hid hG;have HBX:=hid hbx;have HGX:=hid hgX;have hcX1:=hG.cell_ 1 (.slice zA zs.length zc) rfl;rw[← hwx,← hgX];clear hwx hgX hbx hG hcl hc0 hc1 hnb;go_wp2_with (go_at_call 79;refine HCL.out.mono ?_);rintro e w2 v rfl ho2 hb2;have hzp:0 < zs.length:=by have:=HZQ.out;have:=HQ.out;omega
   obtain⟨g,cx,hv,hg,-⟩:=ho2.some_ hzp;subst hv;have HG2:=hid (HG.out.below hb2 HG.out.lt);have HRW2:=hid ((HRW.out.ext HBX.out).ext hb2);have HO2:=hid (ho2.down (base':=M) (by have:=HBX.out.size;have:=HBW.out.size;have:=HM1.out;omega));have HGG:Hid (wr.heap.size≤g∧gX < g):=hid ⟨by have:=HBX.out.size;omega,by have:=HG.out.lt;omega⟩;have HB2:Hid (Below wr.heap.size wr w2):=hid (HBX.out.trans (hb2.mono HBX.out.size));have HZP:=hid hzp;have HLT:=hid hlt;clear ho2 hb2 hg hzp HCL hcX1 hlt hk;go_wp2;go_loopw [26] (fun i wi=>NxRel gX g cx zs.length M (rebTo ch (hs.map Hd.nd) k).2 lv zs w2 i wi) (fun i _=>zs.length - (intOf i).toNat)
   case atStart=>exact⟨0,Nat.zero_le _,rfl,by rw[nxTo_zero];exact HO2.out,Kept.refl _ _⟩
   case round=>
    obtain⟨m,hm,rfl,hoi,hki⟩:=hrel;have HOI:=hid hoi;have HKI:=hid hki;have HRWi:=hid (HRW2.out.one HRW.out HGG.out.1 hki);have HGi:=hid (hki.blk HG2.out (by have:=HGG.out.2;omega));have hcXi:=HGi.out.cell_ 0 (.int .i64 lv) rfl;clear hoi hki;by_cases hml:m < zs.length
    ·have hwm:wrap64 ((m:Int)+1)=(m:Int)+1:=by have:=HZQ.out;have:=HQ.out;unfold wrap64;omega
     obtain⟨hcm,hfm⟩:=HOI.out.cellk (k:=m) (by rw[nxTo_len];exact hml);rw[nxTo_get hml] at hcm;obtain⟨z,hz⟩:∃ z,z=zs[m]:=⟨_,rfl⟩
     rw[← hz] at hcm;by_cases hl:1 < lv
     ·have d1:decide (1 < lv)=true:=decide_eq_true hl;have hkz:=HV.out.lev.kids k (by rw[List.length_map];exact HLT.out) (by rw[HND.out];exact hl) z (by rw[HND.out,hz];exact List.getElem_mem hml);have hoz:=HV.out.ordk k (by rw[List.length_map];exact HLT.out) (by rw[HND.out];exact hl) z (by rw[HND.out,hz];exact List.getElem_mem hml);have hti2:=OwnI.reads HRWi.out.tr;obtain⟨bt,ot,eAt,-,hctz⟩:=hti2.at_ (k:=z.toNat) (by rw[HRB.out.tl];omega);obtain⟨y,hy⟩:∃ y,y=(rebTo ch (hs.map Hd.nd) k).2.getD z.toNat 0:=⟨_,rfl⟩
      have hyy:(rebTo ch (hs.map Hd.nd) k).2[z.toNat]'(by rw[HRB.out.tl];omega)=y:=by rw[hy,List.getD_eq_getElem?_getD,List.getElem?_eq_getElem (by rw[HRB.out.tl];omega)];rfl
      rw[hyy] at hctz;have hz0:=hkz.1;have hst:=HOI.out.set (nxTo_len _ _ _ _).symm m y;rw[hy,hz,nxTo_step hl hml,← hz,← hy] at hst;have HST:=hid hst;have HKS:=hid (HKI.out.setCell (p:=⟨g,m,none⟩) (.inl rfl) (.int .i64 y));subst eAt;clear hkz hl hy hyy hz hti2 hst;go_wp2;go_roundw
      case rel=>exact⟨m+1,hml,(by rw[hwm];rfl),HST.out,HKS.out⟩
      case measure=>rw[hwm];simp[intOf];omega
     ·have d1:decide (1 < lv)=false:=decide_eq_false hl;have HLO:=hid (nxTo_low (tz:=(rebTo ch (hs.map Hd.nd) k).2) (zs:=zs) (m+1) hl);have HLO0:=hid (nxTo_low (tz:=(rebTo ch (hs.map Hd.nd) k).2) (zs:=zs) m hl);clear hl hz;go_wp2;go_roundw
      case rel=>exact⟨m+1,hml,(by rw[hwm];rfl),by rw[HLO.out];have h:=HOI.out;rw[HLO0.out] at h;exact h,HKI.out⟩
      case measure=>rw[hwm];simp[intOf];omega
    ·obtain rfl:m=zs.length:=by omega
     clear hm hml;go_upto_region 13 with fail
     have hnl:(nxOf (rebTo ch (hs.map Hd.nd) k).2 (lv,zs)).length=zs.length:=by rw[HNX.out.1,HZQ.out]
     have hcl:(ch lv (nxOf (rebTo ch (hs.map Hd.nd) k).2 (lv,zs))).length=zs.length:=by rw[HNX.out.2.1,HZQ.out]
     have hon:OwnIA wr M (.slice (some ⟨g,0,none⟩) zs.length cx) (nxOf (rebTo ch (hs.map Hd.nd) k).2 (lv,zs)):=by have h:=HOI.out;rw[nxTo_all] at h;exact h
     have hrk:=rb_succ (ch:=ch) (l:=hs.map Hd.nd) (k:=k) (by rw[List.length_map];exact HLT.out) HND.out;obtain⟨nx,hnx⟩:∃ nx,nx=nxOf (rebTo ch (hs.map Hd.nd) k).2 (lv,zs):=⟨_,rfl⟩
     rw[← hnx] at hnl hcl hon hrk HNX;have hWw:Below M w1 wr:=(HBW.out.trans (HB2.out.mono (by have:=HBW.out.size;have:=HM1.out;omega))).trans ((Kept.refl (fun x=>x=g) w2).trans HKI.out |>.to_below (by have:=HBW.out.size;have:=HB2.out.size;have:=HM1.out;omega) (fun x hx e=>by have:=HGG.out.1;have:=HBW.out.size;have:=HM1.out;omega));have hWo:Below w.heap.size w wr:=HB1.out.trans (hWw.mono (by have:=HM1.out;omega));have hMw:M≤wr.heap.size:=by have:=hWw.size;have:=HM1.out;omega
     have hcall:=HCH.out wr.drew M g cx nx lv hWo.drew (by have:=HGG.out.1;have:=HBW.out.size;have:=HM1.out;omega) HNX.out.1 (fun e=>HNX.out.2.2.2 (by omega)) HL1.out.1 HL1.out.2 (by rw[hnl];exact hon);rw[hnl] at hcall;obtain⟨C1,hC1⟩:∃ C1:World→Prop,C1=fun W'=>OwnIA W' M (.slice (some ⟨g,0,none⟩) zs.length cx) (ch lv nx)∧Kept (fun x=>x=g) wr W':=⟨_,rfl⟩
     obtain⟨idx,hidx⟩:∃ idx:Nat,idx=(addN (rebTo ch (hs.map Hd.nd) k).1 (lv,ch lv nx)).1:=⟨_,rfl⟩
     obtain⟨C2,hC2⟩:∃ C2:World→Prop,C2=fun W'=>(∃ cs' nv' os' D',RbW M Pb M ch (hs.map Hd.nd) k (k+1) (.slice At k ct) cs' nv' os' D' W')∧Below M w1 W'∧W'.cell? ⟨gX,0,none⟩=some (.int .i64 lv)∧gX < W'.heap.size:=⟨_,rfl⟩
     obtain⟨C4,hC4⟩:∃ C4:Value→World→Prop,C4=fun v W'=>(∃ cs' nv' os' D',RbW M Pb M ch (hs.map Hd.nd) (k+1) (k+1) v cs' nv' os' D' W')∧Below M w1 W'∧W'.cell? ⟨gX,0,none⟩=some (.int .i64 lv):=⟨_,rfl⟩
     have HC7:Hid (Calls Tryz.prog 58 #[.int .i64 lv,.slice (some ⟨g,0,none⟩) zs.length cx] wr.drew (fun e w'=>e=.returned (.slice (some ⟨g,0,none⟩) zs.length cx)∧C1 w')):=hid (by
      refine hcall.mono ?_;rintro e w9 ⟨he,h1,h2⟩;rw[hC1];exact⟨he,h1,⟨⟨h2.below.os,h2.below.tape,h2.below.output,h2.below.size,h2.below.block⟩,h2.block⟩⟩)
     have HK1:Hid (∀ w',C1 w'→w'.cell? ⟨gX,0,none⟩=some (.int .i64 lv)):=hid (fun w' h=>by
      rw[hC1] at h;exact (h.2.blk HGi.out (by have:=HGG.out.2;omega)).cell_ 0 _ rfl)
     have HC8:Hid (∀ w',C1 w'→Calls Tryz.prog 80 #[.pointer (some ⟨Pb,0,none⟩),.int .i64 lv,.slice (some ⟨g,0,none⟩) zs.length cx] w' (fun e w''=>e=.returned (.int .i64 idx)∧C2 w'')):=hid (fun w' h=>by
      rw[hC1] at h;have hr1:=HRWi.out.one HRW.out HGG.out.1 h.2;have hbw1:Below M w1 w':=hWw.trans (h.2.to_below hMw (fun x hx e=>by have:=HGG.out.1;have:=HBW.out.size;have:=HM1.out;omega));have hMw1:M≤w'.heap.size:=by have:=hbw1.size;have:=HM1.out;omega
      have hbo1:Below w.heap.size w w':=HB1.out.trans (hbw1.mono (by have:=HM1.out;omega));have hg1:=h.2.blk HGi.out (by have:=HGG.out.2;omega);have hno:=node_any M Pb M 103 cs nv os D w' hr1.b hMw1 ((HT.out.on hbo1).up (by have:=HM1.out;omega)) (some ⟨g,0,none⟩) cx (ch lv nx) lv (by rw[hcl];exact h.1) (fun z hz=>by
        have hrl:=HRB.out.le;have:=HN1.out;have:=HLT.out;have:=HQ.out;by_cases hl:1 < lv
        ·obtain⟨a1,a2,-⟩:=HNX.out.2.2.1 hl z (HC.out.sub lv nx HNX.out.1 hl z hz);omega
        ·have e1:lv=1:=by have:=HL1.out.1;omega
         rw[e1] at hz;have:=HC.out.low nx HNX.out.1 (HNX.out.2.2.2 (by omega)) z hz;omega) (by have:=HL1.out;omega) (by rw[hcl];have:=HZQ.out;have:=HQ.out;omega) (by have h2:=HRB.out.le;rw[← HRWi.out.eq,List.length_map] at h2;have:=HN1.out;have:=HLT.out;omega) (by decide) (by decide)
      rw[hcl] at hno;refine hno.mono ?_;rintro e w9 ⟨nv',os',D',cs',he,hbl,hos,hkp,hmv,-,hmem⟩;rw[HRWi.out.eq] at he hos;rw[hC2];refine⟨by rw[he,hidx],⟨cs',nv',os',D',hkp.own hr1.tr (fun x e1 e2=>?_),hbl,by rw[hos,hrk],fun x hx y e1 e2=>?_⟩,hbw1.trans (hkp.to_below hMw1 (fun x hx e=>?_)),(hkp.blk hg1 (fun e=>?_)).cell_ 0 _ rfl,Nat.lt_of_lt_of_le hg1.lt hkp.below.size⟩
      ·rcases e2 with e2 | e2 | e2
       ·subst e2;exact own_blk_ne' hr1.tr hr1.b.blk (by decide) e1
       ·subst e2;exact own_map_ne hr1.tr hr1.b.map e1
       ·exact own_ne hr1.tr hr1.b.own.1 (by decide) e1 e2
      ·rcases hmem x hx with hx | hx
       ·exact hr1.ap x hx y e1 e2
       ·subst hx;injection e1 with e1
        have:=(own_lt' HRW.out.tr e2).1;have:=HGG.out.1;dsimp only at e1;omega
      ·rcases e with e | e | e
       ·have:=hr1.b.bp;omega
       ·have:=hr1.b.bm;omega
       ·have:=(own_lt' hr1.b.own.1 e).2;omega
      ·rcases e with e | e | e
       ·subst e;exact Blk.ne_ hg1 hr1.b.blk (by decide) rfl
       ·subst e;exact blk_map_ne hg1 hr1.b.map rfl
       ·have h1:=(own_lt' HRW.out.b.own.1 e).1;have:=HGX.out;omega)
     have HK2:Hid (∀ w',C2 w'→w'.cell? ⟨gX,0,none⟩=some (.int .i64 lv)∧gX < w'.heap.size):=hid (fun w' h=>by rw[hC2] at h;exact h.2.2);have HC10:Hid (∀ w',C2 w'→OwnIA w' M (.slice At k ct) (rebTo ch (hs.map Hd.nd) k).2∧M≤w'.heap.size∧∀ v' w9,OwnIA w9 M v' ((rebTo ch (hs.map Hd.nd) k).2 ++ [(idx:Int)])→Kept (fun g=>(Value.slice At k ct).ownBlock=some g) w' w9→(v'.ownBlock=(Value.slice At k ct).ownBlock∨∃ g,v'.ownBlock=some g∧w'.heap.size≤g)→C4 v' w9):=hid (fun w' h=>by
      rw[hC2] at h;obtain⟨⟨cs',nv',os',D',hr⟩,hb,hcx,hlx⟩:=h;have hMw1:M≤w'.heap.size:=by have:=hb.size;have:=HM1.out;omega
      refine⟨hr.tr,hMw1,fun v' w9 h1 h2 h3=>?_⟩;rw[hC4];refine⟨⟨cs',nv',os',D',hr.push (by rw[hrk,hidx]) h1 h2 h3⟩,hb.trans (h2.to_below hMw1 (fun x hx e=>by have:=(own_lt' hr.tr e).2;omega)),?_⟩;rw[h2.cell (p:=⟨gX,0,none⟩) hlx (fun e=>by
       have h4:gX < _:=(own_lt' HRW.out.tr e).1;have:=HGX.out;omega)]
      exact hcx)
     have HK4:Hid (∀ v w',C4 v w'→w'.cell? ⟨gX,0,none⟩=some (.int .i64 lv)):=hid (fun v w' h=>by rw[hC4] at h;exact h.2.2);have HFIN:Hid (∀ v w',C4 v w'→RbRel M Pb M ch (hs.map Hd.nd) w1 v (.int .i64 ((k:Int)+1)) w'):=hid (fun v w' h=>by
      rw[hC4] at h;obtain⟨⟨cs',nv',os',D',hr⟩,hb,-⟩:=h;exact⟨k+1,cs',nv',os',D',by rw[List.length_map];exact HLT.out,rfl,hr,hb⟩)
     have htl:Hid ((rebTo ch (hs.map Hd.nd) k).2.length < 1000000000000):=hid (by rw[HRB.out.tl];have:=HN1.out;have:=HLT.out;omega);have HCXI:=hid hcXi;clear hnl hcl hon hrk hnx hWw hWo hMw hcall hC1 hidx hC2 hC4 hcXi;refine wp_region_J (by kernel_rfl) (fun listed act w'=>∃ b0 b1 b2 b3 b4 b5 b6 b7 b8 b9 b10 b11 v42 v43 v44 v45 v46 v47 v48 v49 v50 v51 v52 v6,listed=#[b0,b1,b2,b3,b4,b5,b6,b7,b8,b9,b10,b11]∧act=Act.mk #[.agg #[.int .i64 st,.slice A ps.length c,.slice (some ⟨nb,no,none⟩) hs.length d],.func (.func 58) #[] #[],.pointer (some ⟨Pt,0,none⟩),undef,.pointer (some ⟨Pr,0,none⟩),.pointer (some ⟨Pb,0,none⟩),v6,undef,.pointer (some ⟨gX,0,none⟩),.slice (some ⟨g,0,none⟩) zs.length cx,u10,u11,.map (some M),.agg #[.slice none 0 0,.map (some M)],.pointer (some ⟨Pt,2,none⟩),.slice (some ⟨nb,no,none⟩) hs.length d,.int .i64 hs.length,.int .i64 k,.bool true,.pointer (some ⟨nb,no+k*2,none⟩),.agg #[.int .i64 lv,.slice zA zs.length zc],.pointer (some ⟨gX,1,none⟩),.slice zA zs.length zc,.slice (some ⟨g,0,none⟩) zs.length cx,.slice (some ⟨g,0,none⟩) zs.length cx,.int .i64 zs.length,.int .i64 zs.length,.bool false,u28,u29,u30,u31,u32,u33,u34,u35,u36,u37,u38,u39,u40,u41,v42,v43,v44,v45,v46,v47,v48,v49,v50,v51,v52,u53,undef,undef,undef,undef,undef,undef,undef,undef,undef,undef,undef,undef,undef,undef,undef] []∧RbJ wr gX g cx zs.length lv At k ct idx (.func (.func 58) #[] #[]) C1 C2 C4 b0 b1 b2 b3 b4 b5 b6 b7 b8 b9 b10 b11 v42 v43 v44 v45 v46 v47 v48 v49 v50 v51 v52 v6 w') ?_ ?_ ?_
     ·exact (e_8 (e_8 (e_8 ⟨rfl,rfl,(by constructor;(case kx=>exact HCXI.out);(case wa=>exact (fun _=>rfl));(case w6=>exact⟨fun _=>rfl,fun h=>(by cases h)⟩);all_goals simp)⟩)))
     ·rintro i listed act w' hi ⟨b0,b1,b2,b3,b4,b5,b6,b7,b8,b9,b10,b11,v42,v43,v44,v45,v46,v47,v48,v49,v50,v51,v52,v6,rfl,rfl,H⟩;have hi16:i < 12:=by
       obtain⟨-,o,ho,-⟩:=mem_ready.1 hi;exact (Array.getElem?_eq_some_iff.1 ho).1
      obtain rfl | rfl | rfl | rfl | rfl | rfl | rfl | rfl | rfl | rfl | rfl | rfl:i=0∨i=1∨i=2∨i=3∨i=4∨i=5∨i=6∨i=7∨i=8∨i=9∨i=10∨i=11:=by omega
      all_goals simp[mem_ready,Region.binds] at hi
      ·cases hb11:b11 with
       | true=>exact absurd (H.h0x hb11) (by simp[hi])
       | false=>
        obtain rfl:=H.w6.1 hb11;subst hb11;refine wpOp_hidden rfl fun K hK=>?_;go_wp2;refine OnlyN.mk (hK.out _ _ (e_8 (e_8 (e_8 ⟨rfl,rfl,{ H with h0:=fun _=>rfl,h0x:=fun _=>rfl }⟩))))
      ·refine wpOp_hidden rfl fun K hK=>?_;go_wp2;refine OnlyN.mk (hK.out _ _ (e_8 (e_8 (e_8 ⟨rfl,rfl,{ H with h1:=fun _=>rfl }⟩))))
      ·obtain rfl:=H.h1 (by simp[hi]);have ckx:=H.kx;refine wpOp_hidden rfl fun K hK=>?_;go_wp2;refine OnlyN.mk (hK.out _ _ (e_8 (e_8 (e_8 ⟨rfl,rfl,{ H with h2:=fun _=>rfl }⟩))))
      ·refine wpOp_hidden rfl fun K hK=>?_;go_wp2;refine OnlyN.mk (hK.out _ _ (e_8 (e_8 (e_8 ⟨rfl,rfl,{ H with h3:=fun _=>rfl }⟩))))
      ·refine wpOp_hidden rfl fun K hK=>?_;go_wp2;refine OnlyN.mk (hK.out _ _ (e_8 (e_8 (e_8 ⟨rfl,rfl,{ H with h4:=fun _=>rfl }⟩))))
      ·obtain rfl:=H.h4 (by simp[hi]);have ckx:=H.kx;refine wpOp_hidden rfl fun K hK=>?_;go_wp2;refine OnlyN.mk (hK.out _ _ (e_8 (e_8 (e_8 ⟨rfl,rfl,{ H with h5:=fun _=>rfl }⟩))))
      ·refine wpOp_hidden rfl fun K hK=>?_;go_wp2;refine OnlyN.mk (hK.out _ _ (e_8 (e_8 (e_8 ⟨rfl,rfl,{ H with h6:=fun _=>rfl }⟩))))
      ·obtain rfl:=H.h3 (by simp[hi]);obtain rfl:=H.h5 (by simp[hi]);obtain rfl:=H.h6 (by simp[hi]);have hw:=H.wa (by simp[hi]);subst hw;have b8f:b8=false:=by
        cases hb:b8 with
        | false=>rfl
        | true=>exact absurd (H.ord.1 hb) (by simp[hi])
       have b9f:b9=false:=by
        cases hb:b9 with
        | false=>rfl
        | true=>exact absurd (H.ord.2.1 hb) (by simp[b8f])
       have b10f:b10=false:=by
        cases hb:b10 with
        | false=>rfl
        | true=>exact absurd (H.ord.2.2.1 hb) (by simp[b9f])
       subst b8f b9f b10f;refine wpOp_hidden rfl fun K hK=>?_;go_wp2_with (go_at_call 58;refine HC7.out.mono ?_);rintro e w9 rfl hc1;have HQ1:=hid hc1;clear hc1;go_wp2;refine OnlyN.mk (hK.out _ _ (e_8 (e_8 (e_8 ⟨rfl,rfl,{ H with h7:=fun _=>rfl,kx:=HK1.out _ HQ1.out,ord:=⟨fun h=>rfl,H.ord.2⟩,wa:=fun h=>(by cases h),w1:=fun _ _=>HQ1.out,w2:=fun h=>(by cases h),w3:=fun h=>(by cases h),w4:=fun h=>(by cases h) }⟩))))
      ·obtain rfl:=H.h2 (by simp[hi]);obtain rfl:=H.h7 (by simp[hi]);have b9f:b9=false:=by
        cases hb:b9 with
        | false=>rfl
        | true=>exact absurd (H.ord.2.1 hb) (by simp[hi])
       have b10f:b10=false:=by
        cases hb:b10 with
        | false=>rfl
        | true=>exact absurd (H.ord.2.2.1 hb) (by simp[b9f])
       subst b9f b10f;have HCB:=hid (HC8.out _ (H.w1 (by simp[hi]) (by simp[hi])));refine wpOp_hidden rfl fun K hK=>?_;go_wp2_with (go_at_call 80;refine HCB.out.mono ?_);rintro e w9 rfl hc2;have HQ2:=hid hc2;clear hc2 HCB;go_wp2;refine OnlyN.mk (hK.out _ _ (e_8 (e_8 (e_8 ⟨rfl,rfl,{ H with kx:=(HK2.out _ HQ2.out).1,ord:=⟨fun _=>(by simp[hi]),fun h=>rfl,H.ord.2.2⟩,wa:=fun h=>absurd h (by simp[hi]),w1:=fun _ h=>(by cases h),w2:=fun _=>⟨rfl,fun _=>HQ2.out⟩,w3:=fun h=>(by cases h),w4:=fun h=>(by cases h) }⟩))))
      ·have b10f:b10=false:=by
        cases hb:b10 with
        | false=>rfl
        | true=>exact absurd (H.ord.2.2.1 hb) (by simp[hi])
       subst b10f;obtain⟨hv50,hc2⟩:=H.w2 (by simp[hi]);subst hv50;have HQ2:=hid (hc2 (by simp[hi]));clear hc2;refine wpOp_hidden rfl fun K hK=>?_;go_wp2;refine OnlyN.mk (hK.out _ _ (e_8 (e_8 (e_8 ⟨rfl,rfl,{ H with kx:=((World.cell?_alloc_lt w' _ ⟨gX,0,none⟩ (HK2.out _ HQ2.out).2).trans (HK2.out _ HQ2.out).1),ord:=⟨H.ord.1,fun _=>(by simp[hi]),fun h=>(by cases h),H.ord.2.2.2⟩,wa:=fun h=>absurd (H.ord.1 (by simp[hi])) (by simp[h]),w1:=fun _ h=>absurd h (by simp[hi]),w2:=fun _=>⟨rfl,fun h=>(by cases h)⟩,w3:=fun _ _=>⟨_,HQ2.out,rfl,rfl⟩,w4:=fun h=>(by cases h) }⟩))))
      ·obtain rfl:=H.h0 (by simp[hi]);obtain⟨w2',hc2,hww,hv51⟩:=H.w3 (by simp[hi]) (by simp[hi]);subst hww hv51;obtain⟨ho10,hb10,hpush⟩:=HC10.out _ hc2;have HPUSH:=hid hpush;have hln10:=htl.out;clear hpush hc2;refine wpOp_hidden rfl fun K hK=>?_;refine wpList_pushIk rfl _ _ _ rfl M 3 Tryz.underlying38 Tryz.infoInt _ _ rfl ho10 (idx:Int) rfl hln10 hb10 ?_;intro v9 w9 hv9 hk9 hm9;have HQ4:=hid (HPUSH.out _ _ hv9 hk9 hm9);clear hv9 hk9 hm9 ho10 hb10;go_wp2;refine OnlyN.mk (hK.out _ _ (e_8 (e_8 (e_8 ⟨rfl,rfl,{ H with kx:=HK4.out _ _ HQ4.out,ord:=⟨H.ord.1,H.ord.2.1,fun _=>(by simp[hi]),fun h=>rfl⟩,wa:=fun h=>absurd (H.ord.1 (H.ord.2.1 (by simp[hi]))) (by simp[h]),w1:=fun _ h=>absurd (H.ord.2.1 (by simp[hi])) (by simp[h]),w2:=fun h=>⟨(H.w2 h).1,fun h2=>absurd h2 (by simp[hi])⟩,w3:=fun _ h=>(by cases h),w4:=fun _=>HQ4.out,w6:=⟨H.w6.1,fun h=>absurd (H.ord.2.2.2 h) (by simp[hi])⟩ }⟩))))
      ·refine wpOp_hidden rfl fun K hK=>?_;go_wp2;refine OnlyN.mk (hK.out _ _ (e_8 (e_8 (e_8 ⟨rfl,rfl,{ H with ord:=⟨H.ord.1,H.ord.2.1,H.ord.2.2.1,fun _=>(by simp[hi])⟩,h0x:=fun _=>(by simp[hi]),w6:=⟨fun h=>(by cases h),fun _=>rfl⟩ }⟩))))
     ·rintro listed act w' hr ⟨b0,b1,b2,b3,b4,b5,b6,b7,b8,b9,b10,b11,v42,v43,v44,v45,v46,v47,v48,v49,v50,v51,v52,v6,rfl,rfl,H⟩;have hn:=List.eq_nil_iff_forall_not_mem.1 hr;have r0:=hn 0;simp[mem_ready,Region.binds] at r0;subst r0;have r1:=hn 1;simp[mem_ready,Region.binds] at r1;subst r1;have r2:=hn 2;simp[mem_ready,Region.binds] at r2;subst r2;have r3:=hn 3;simp[mem_ready,Region.binds] at r3;subst r3;have r4:=hn 4;simp[mem_ready,Region.binds] at r4;subst r4;have r5:=hn 5;simp[mem_ready,Region.binds] at r5;subst r5;have r6:=hn 6;simp[mem_ready,Region.binds] at r6;subst r6;have r7:=hn 7;simp[mem_ready,Region.binds] at r7;subst r7;have r8:=hn 8;simp[mem_ready,Region.binds] at r8;subst r8;have r9:=hn 9;simp[mem_ready,Region.binds] at r9;subst r9;have r10:=hn 10;simp[mem_ready,Region.binds] at r10;subst r10;have r11:=hn 11;simp[mem_ready,Region.binds] at r11;subst r11;dsimp only;obtain rfl:=H.w6.2 rfl;have HF9:=hid (HFIN.out _ _ (H.w4 rfl));clear H hr hn;go_wp2;go_roundw
      case rel=>rw[hw1];exact HF9.out
      case measure=>rw[hw1];have:=HLT.out;simp[intOf];omega

  ·obtain rfl:k=hs.length:=by omega
   have hrb:=RbI.all HV.out HC.out hs.length (by rw[List.length_map];exact Nat.le_refl _);have hWo:Below w.heap.size w wr:=HB1.out.trans (hbw.mono (by have:=HM1.out;omega));have hMw:M≤wr.heap.size:=by have:=hbw.size;have:=HM1.out;omega
   have hpos:=HN0.out;obtain⟨N1,hN1e⟩:∃ N1,N1=hs.length - 1:=⟨_,rfl⟩
   have hN1l:N1 < hs.length:=by omega
   obtain⟨a1,a2,a3⟩:=hrb.eqv N1 hN1l;obtain⟨At,ct,hu6,hti,-⟩:=hrw.tr.ints;obtain⟨bt,ot,eAt,hbt,hct⟩:=hti.at_ (k:=N1) (by rw[hrb.tl];exact hN1l);rw[hrb.tl] at hu6;obtain⟨An,cn,hnv,hnd,-⟩:=hrw.b.own.nds;obtain⟨r,hr⟩:∃ r,r=(rebTo ch (hs.map Hd.nd) hs.length).2.getD N1 0:=⟨_,rfl⟩
   have hrr:(rebTo ch (hs.map Hd.nd) hs.length).2[N1]'(by rw[hrb.tl];exact hN1l)=r:=by rw[hr,List.getD_eq_getElem?_getD,List.getElem?_eq_getElem (by rw[hrb.tl];exact hN1l)];rfl
   rw[hrr] at hct;rw[← hr] at a1 a2 a3;have hlr:(ndAt (os.map Hd.nd) r.toNat).1≤(100:Nat):=by
    have h99:=HLV.out N1 hN1l;rw[hrw.eq,a3.1,chg_at ch (by rw[List.length_map];exact hN1l)];show (ndAt (hs.map Hd.nd) N1).1≤_;omega
   have hLev:Lev q (os.map Hd.nd) (· < (os.map Hd.nd).length):=by rw[hrw.eq];exact hrb.v.lev
   have hosl:os.length < 1000000000000:=by have h1:=hrb.le;rw[← hrw.eq,List.length_map] at h1;have:=HN1.out;omega
   have hred:redN ch (hs.map Hd.nd)=ord (os.map Hd.nd) 100 r.toNat:=by
    unfold redN;rw[List.length_map,hrw.eq,hr,hN1e]
   have HORD:Hid (∀ W',Below wr.heap.size wr W'→Calls Tryz.prog 82 #[.slice An os.length cn,.int .i64 r] W' (RetNds (redN ch (hs.map Hd.nd)) W')):=hid (fun W' hb=>by
    have h:=ordered_any An cn os W' (hnd.ext hb) q (· < (os.map Hd.nd).length) HQ.out.1 HQ.out.2 hLev hosl 100 r.toNat hlr (by rw[hrw.eq];exact a2);rw[toNat_cast a1,← hred] at h;exact h)
   have HCP:Hid (∀ W',Below wr.heap.size wr W'→Calls Tryz.prog 81 #[.slice A ps.length c] W' fun e w'=>∃ v,e=.returned v∧OwnP 56 w' W'.heap.size v ps∧Below W'.heap.size W' w'):=hid (fun W' hb=>clone_pts A c ps W' ((HP.out.ext hWo).ext hb) (by have:=HPS.out;omega));have hpb:=HPB.out;have hptw:=HPT.out.below hbw (by omega);have hprw:=HPR.out.below hbw (by omega);have hc0:=hptw.cell_ 0 (.int .i64 st) rfl;have hc1:=hptw.cell_ 1 (.slice A ps.length c) rfl;have hcb:=hrw.b.blk.cell_ 0 nv hrw.b.c0;rw[hnv] at hcb;have HCE:=hid (And.intro hptw.lt (And.intro hc0 (And.intro hc1 (And.intro hrw.b.blk.lt (And.intro hcb (And.intro hbt hct))))));have HPRW:=hid hprw;have HWO:=hid hWo;have HPR2:Hid (w.heap.size≤Pr):=hid (by omega);have hwN:wrap64 ((hs.length:Int) - 1)=(N1:Int):=by have:=HN1.out;unfold wrap64;omega
   have HWN:=hid (And.intro hwN hN1l);clear hrb hWo hMw hpos hN1e hN1l a1 a2 a3 hti hnd hr hrr hlr hLev hosl hred hpb hptw hprw hc0 hc1 hcb hbt hct hwN hrw hbw hk hlt hn2 hnv;subst hu6 eAt;go_upto_region 15 with fail
   refine wp_region_J (by kernel_rfl) (fun listed act w'=>∃ b0 b1 b2 b3 b4 b5 b6 b7 b8 b9 b10 b11 b12 b13 b14 b15 v54 v55 v56 v57 v58 v59 v60 v61 v62 v63 v64 v65 v66 v67 v68,listed=#[b0,b1,b2,b3,b4,b5,b6,b7,b8,b9,b10,b11,b12,b13,b14,b15]∧act=Act.mk #[.agg #[.int .i64 st,.slice A ps.length c,.slice Ab hs.length d],.func (.func 58) #[] #[],.pointer (some ⟨Pt,0,none⟩),undef,.pointer (some ⟨Pr,0,none⟩),.pointer (some ⟨Pb,0,none⟩),.slice (some ⟨bt,ot,none⟩) hs.length ct,undef,u8,u9,u10,u11,.map (some M),.agg #[.slice none 0 0,.map (some M)],.pointer (some ⟨Pt,2,none⟩),.slice Ab hs.length d,.int .i64 hs.length,.int .i64 hs.length,.bool false,u19,u20,u21,u22,u23,u24,u25,u26,u27,u28,u29,u30,u31,u32,u33,u34,u35,u36,u37,u38,u39,u40,u41,u42,u43,u44,u45,u46,u47,u48,u49,u50,u51,u52,u53,v54,v55,v56,v57,v58,v59,v60,v61,v62,v63,v64,v65,v66,v67,v68] []∧RbE wr Pt Pb Pr st A c ps An os.length cn bt ot hs.length ct N1 r (redN ch (hs.map Hd.nd)) b0 b1 b2 b3 b4 b5 b6 b7 b8 b9 b10 b11 b12 b13 b14 b15 v54 v55 v56 v57 v58 v59 v60 v61 v62 v63 v64 v65 v66 v67 v68 w') ?_ ?_ ?_
   ·exact (e_8 (e_8 (e_8 (e_4 (e_2 (e_1 ⟨rfl,rfl,(by constructor;(case below=>exact (fun _=>(Below.refl _ wr).drew));all_goals simp)⟩))))))
   ·rintro i listed act w' hi ⟨b0,b1,b2,b3,b4,b5,b6,b7,b8,b9,b10,b11,b12,b13,b14,b15,v54,v55,v56,v57,v58,v59,v60,v61,v62,v63,v64,v65,v66,v67,v68,rfl,rfl,H⟩;have hi16:i < 16:=by
     obtain⟨-,o,ho,-⟩:=mem_ready.1 hi;exact (Array.getElem?_eq_some_iff.1 ho).1
    obtain rfl | rfl | rfl | rfl | rfl | rfl | rfl | rfl | rfl | rfl | rfl | rfl | rfl | rfl | rfl | rfl:i=0∨i=1∨i=2∨i=3∨i=4∨i=5∨i=6∨i=7∨i=8∨i=9∨i=10∨i=11∨i=12∨i=13∨i=14∨i=15:=by omega
    all_goals simp[mem_ready,Region.binds] at hi
    ·refine wpOp_hidden rfl fun K hK=>?_;go_wp2;refine OnlyN.mk (hK.out _ _ (e_8 (e_8 (e_8 (e_4 (e_2 (e_1 ⟨rfl,rfl,{ H with h0:=fun _=>rfl }⟩)))))))
    ·have b15f:b15=false:=by
      cases hb:b15 with
      | false=>rfl
      | true=>exact absurd (H.hord hb).1 (by simp[hi])
     have cc0:=((H.below b15f).cell (p:=⟨Pt,0,none⟩) HCE.out.1).trans HCE.out.2.1;obtain rfl:=H.h0 (by simp[hi]);clear b15f;refine wpOp_hidden rfl fun K hK=>?_;go_wp2;refine OnlyN.mk (hK.out _ _ (e_8 (e_8 (e_8 (e_4 (e_2 (e_1 ⟨rfl,rfl,{ H with h1:=fun _=>rfl,hord:=fun h=>⟨rfl,(H.hord h).2.1,(H.hord h).2.2.1,(H.hord h).2.2.2.1,(H.hord h).2.2.2.2.1,(H.hord h).2.2.2.2.2.1,(H.hord h).2.2.2.2.2.2⟩ }⟩)))))))
    ·refine wpOp_hidden rfl fun K hK=>?_;go_wp2;refine OnlyN.mk (hK.out _ _ (e_8 (e_8 (e_8 (e_4 (e_2 (e_1 ⟨rfl,rfl,{ H with h2:=fun _=>rfl }⟩)))))))
    ·have b15f:b15=false:=by
      cases hb:b15 with
      | false=>rfl
      | true=>exact absurd (H.hord hb).2.1 (by simp[hi])
     have cc1:=((H.below b15f).cell (p:=⟨Pt,1,none⟩) HCE.out.1).trans HCE.out.2.2.1;obtain rfl:=H.h2 (by simp[hi]);clear b15f;refine wpOp_hidden rfl fun K hK=>?_;go_wp2;refine OnlyN.mk (hK.out _ _ (e_8 (e_8 (e_8 (e_4 (e_2 (e_1 ⟨rfl,rfl,{ H with h3:=fun _=>rfl,hord:=fun h=>⟨(H.hord h).1,rfl,(H.hord h).2.2.1,(H.hord h).2.2.2.1,(H.hord h).2.2.2.2.1,(H.hord h).2.2.2.2.2.1,(H.hord h).2.2.2.2.2.2⟩ }⟩)))))))
    ·have b15f:b15=false:=by
      cases hb:b15 with
      | false=>rfl
      | true=>exact absurd (H.hord hb).2.2.1 (by simp[hi])
     obtain rfl:=H.h3 (by simp[hi]);have HB0:=hid (H.below b15f);have HCX:=hid (HCP.out w' HB0.out);clear b15f;refine wpOp_hidden rfl fun K hK=>?_;go_wp2_with (go_at_call 81;refine HCX.out.mono ?_);rintro e w9 v9 rfl ho9 hb9;have HO9:=hid (ho9.down HB0.out.size);have HB9:=hid hb9;clear ho9 hb9 HCX;go_wp2;refine OnlyN.mk (hK.out _ _ (e_8 (e_8 (e_8 (e_4 (e_2 (e_1 ⟨rfl,rfl,{ H with below:=fun h=>(H.below h).trans (HB9.out.mono (H.below h).size),hord:=fun h=>⟨(H.hord h).1,(H.hord h).2.1,rfl,(H.hord h).2.2.2.1,(H.hord h).2.2.2.2.1,(H.hord h).2.2.2.2.2.1,(H.hord h).2.2.2.2.2.2⟩,h4:=fun _ _=>HO9.out,h13:=fun h h2=>(by obtain⟨os2,x1,x2⟩:=H.h13 h h2;exact⟨os2,x1.ext HB9.out,x2⟩),h14:=fun h h2=>(by obtain⟨hv,nv,os2,x1,x2,x3,x4⟩:=H.h14 h h2;exact⟨hv,nv,os2,x1,x2.ext HB9.out,x3.ext HB9.out,x4⟩),h15:=fun h=>absurd (H.hord h).2.2.1 (by simp[hi]) }⟩)))))))
    ·refine wpOp_hidden rfl fun K hK=>?_;go_wp2;refine OnlyN.mk (hK.out _ _ (e_8 (e_8 (e_8 (e_4 (e_2 (e_1 ⟨rfl,rfl,{ H with h5:=fun _=>rfl }⟩)))))))
    ·have b15f:b15=false:=by
      cases hb:b15 with
      | false=>rfl
      | true=>exact absurd (H.hord hb).2.2.2.1 (by simp[hi])
     have cc2:=((H.below b15f).cell (p:=⟨Pb,0,none⟩) HCE.out.2.2.2.1).trans HCE.out.2.2.2.2.1;obtain rfl:=H.h5 (by simp[hi]);clear b15f;refine wpOp_hidden rfl fun K hK=>?_;go_wp2;refine OnlyN.mk (hK.out _ _ (e_8 (e_8 (e_8 (e_4 (e_2 (e_1 ⟨rfl,rfl,{ H with h6:=fun _=>rfl,hord:=fun h=>⟨(H.hord h).1,(H.hord h).2.1,(H.hord h).2.2.1,rfl,(H.hord h).2.2.2.2.1,(H.hord h).2.2.2.2.2.1,(H.hord h).2.2.2.2.2.2⟩ }⟩)))))))
    ·refine wpOp_hidden rfl fun K hK=>?_;go_wp2;refine OnlyN.mk (hK.out _ _ (e_8 (e_8 (e_8 (e_4 (e_2 (e_1 ⟨rfl,rfl,{ H with h7:=fun _=>rfl }⟩)))))))
    ·refine wpOp_hidden rfl fun K hK=>?_;go_wp2;refine OnlyN.mk (hK.out _ _ (e_8 (e_8 (e_8 (e_4 (e_2 (e_1 ⟨rfl,rfl,{ H with h8:=fun _=>rfl }⟩)))))))
    ·obtain rfl:=H.h8 (by simp[hi]);refine wpOp_hidden rfl fun K hK=>?_;go_wp2;refine OnlyN.mk (hK.out _ _ (e_8 (e_8 (e_8 (e_4 (e_2 (e_1 ⟨rfl,rfl,{ H with h9:=fun _=>rfl }⟩)))))))
    ·obtain rfl:=H.h9 (by simp[hi]);have hwN:=HWN.out.1;refine wpOp_hidden rfl fun K hK=>?_;go_wp2;refine OnlyN.mk (hK.out _ _ (e_8 (e_8 (e_8 (e_4 (e_2 (e_1 ⟨rfl,rfl,{ H with h10:=fun _=>rfl }⟩)))))))
    ·obtain rfl:=H.h7 (by simp[hi]);obtain rfl:=H.h10 (by simp[hi]);have hN1l:=HWN.out.2;refine wpOp_hidden rfl fun K hK=>?_;go_wp2;refine OnlyN.mk (hK.out _ _ (e_8 (e_8 (e_8 (e_4 (e_2 (e_1 ⟨rfl,rfl,{ H with h11:=fun _=>rfl }⟩)))))))
    ·have b15f:b15=false:=by
      cases hb:b15 with
      | false=>rfl
      | true=>exact absurd (H.hord hb).2.2.2.2.1 (by simp[hi])
     have cc3:=((H.below b15f).cell (p:=⟨bt,ot+N1,none⟩) HCE.out.2.2.2.2.2.1).trans HCE.out.2.2.2.2.2.2;obtain rfl:=H.h11 (by simp[hi]);clear b15f;refine wpOp_hidden rfl fun K hK=>?_;go_wp2;refine OnlyN.mk (hK.out _ _ (e_8 (e_8 (e_8 (e_4 (e_2 (e_1 ⟨rfl,rfl,{ H with h12:=fun _=>rfl,hord:=fun h=>⟨(H.hord h).1,(H.hord h).2.1,(H.hord h).2.2.1,(H.hord h).2.2.2.1,rfl,(H.hord h).2.2.2.2.2.1,(H.hord h).2.2.2.2.2.2⟩ }⟩)))))))
    ·have b15f:b15=false:=by
      cases hb:b15 with
      | false=>rfl
      | true=>exact absurd (H.hord hb).2.2.2.2.2.1 (by simp[hi])
     obtain rfl:=H.h6 (by simp[hi]);obtain rfl:=H.h12 (by simp[hi]);have HB0:=hid (H.below b15f);have HCX:=hid (HORD.out w' HB0.out);clear b15f;refine wpOp_hidden rfl fun K hK=>?_;go_wp2_with (go_at_call 82;refine HCX.out.mono ?_);rintro e w9 ⟨v9,os9,rfl,ho9,he9,hb9⟩;have HO9:=hid (And.intro (show OwnNA w9 wr.heap.size v9 os9 from ⟨own_down ho9.1 HB0.out.size,fun x hx=>(ho9.2 x hx).down HB0.out.size⟩) he9);have HB9:=hid hb9;clear ho9 he9 hb9 HCX;go_wp2;refine OnlyN.mk (hK.out _ _ (e_8 (e_8 (e_8 (e_4 (e_2 (e_1 ⟨rfl,rfl,{ H with below:=fun h=>(H.below h).trans (HB9.out.mono (H.below h).size),hord:=fun h=>⟨(H.hord h).1,(H.hord h).2.1,(H.hord h).2.2.1,(H.hord h).2.2.2.1,(H.hord h).2.2.2.2.1,rfl,(H.hord h).2.2.2.2.2.2⟩,h4:=fun h h2=>((H.h4 h h2).ext HB9.out),h13:=fun _ _=>⟨os9,HO9.out.1,HO9.out.2⟩,h14:=fun h h2=>(by obtain⟨hv,nv,os2,x1,x2,x3,x4⟩:=H.h14 h h2;exact⟨hv,nv,os2,x1,x2.ext HB9.out,x3.ext HB9.out,x4⟩),h15:=fun h=>absurd (H.hord h).2.2.2.2.2.1 (by simp[hi]) }⟩)))))))
    ·have b15f:b15=false:=by
      cases hb:b15 with
      | false=>rfl
      | true=>exact absurd (H.hord hb).2.2.2.2.2.2 (by simp[hi])
     obtain rfl:=H.h1 (by simp[hi]);have h4:=H.h4 (by simp[hi]) b15f;obtain⟨os9,h13,h13e⟩:=H.h13 (by simp[hi]) b15f;obtain⟨Ah,ch9,ehv,-,-⟩:=h4.pts;obtain⟨An9,cn9,env,-,-⟩:=h13.nds;have HO4:=hid h4;have HO13:=hid (And.intro h13 h13e);clear h4 h13 h13e b15f;subst ehv env;refine wpOp_hidden rfl fun K hK=>?_;go_wp2;refine OnlyN.mk (hK.out _ _ (e_8 (e_8 (e_8 (e_4 (e_2 (e_1 ⟨rfl,rfl,{ H with hord:=fun h=>⟨(H.hord h).1,(H.hord h).2.1,(H.hord h).2.2.1,(H.hord h).2.2.2.1,(H.hord h).2.2.2.2.1,(H.hord h).2.2.2.2.2.1,rfl⟩,h14:=fun _ _=>⟨_,_,os9,rfl,HO4.out,HO13.out.1,HO13.out.2⟩,h15:=fun h=>absurd (H.hord h).2.2.2.2.2.2 (by simp[hi]) }⟩)))))))
    ·obtain⟨hv,nv9,os9,hv68,h4,h13,h13e⟩:=H.h14 (by simp[hi]) (by simp[hi]);subst hv68;obtain⟨Ah,ch9,ehv,hpts9,-⟩:=h4.pts;obtain⟨An9,cn9,env,hnds9,-⟩:=h13.nds;have HO4:=hid h4;have HO13:=hid (And.intro h13 h13e);have hpw:=HPRW.out.below (H.below (by simp[hi])) HPRW.out.lt;have HBL:=hid (H.below (by simp[hi]));have cc0:=hpw.cell_ 0 (.int .i64 0) rfl;have cc1:=hpw.cell_ 1 (.slice none 0 0) rfl;have cc2:=hpw.cell_ 2 (.slice none 0 0) rfl;have ff0:=hpw.frozen 0;have ff1:=hpw.frozen 1;have ff2:=hpw.frozen 2;subst ehv env;clear h4 h13 h13e hpts9 hnds9 hpw;refine wpOp_hidden rfl fun K hK=>?_;go_wp2;refine OnlyN.mk (hK.out _ _ (e_8 (e_8 (e_8 (e_4 (e_2 (e_1 ⟨rfl,rfl,{ H with below:=fun h=>(by cases h),hord:=fun _=>(by simp[hi]),h4:=fun _ h=>(by cases h),h13:=fun _ h=>(by cases h),h14:=fun _ h=>(by cases h),h15:=fun _=>⟨_,_,os9,_,HBL.out,HO4.out,HO13.out.1,HO13.out.2,rfl,rfl,rfl⟩ }⟩)))))))
   ·rintro listed act w' hr ⟨b0,b1,b2,b3,b4,b5,b6,b7,b8,b9,b10,b11,b12,b13,b14,b15,v54,v55,v56,v57,v58,v59,v60,v61,v62,v63,v64,v65,v66,v67,v68,rfl,rfl,H⟩;have hn:=List.eq_nil_iff_forall_not_mem.1 hr;have r0:=hn 0;simp[mem_ready,Region.binds] at r0;subst r0;have r1:=hn 1;simp[mem_ready,Region.binds] at r1;subst r1;have r2:=hn 2;simp[mem_ready,Region.binds] at r2;subst r2;have r3:=hn 3;simp[mem_ready,Region.binds] at r3;subst r3;have r4:=hn 4;simp[mem_ready,Region.binds] at r4;subst r4;have r5:=hn 5;simp[mem_ready,Region.binds] at r5;subst r5;have r6:=hn 6;simp[mem_ready,Region.binds] at r6;subst r6;have r7:=hn 7;simp[mem_ready,Region.binds] at r7;subst r7;have r8:=hn 8;simp[mem_ready,Region.binds] at r8;subst r8;have r9:=hn 9;simp[mem_ready,Region.binds] at r9;subst r9;have r10:=hn 10;simp[mem_ready,Region.binds] at r10;subst r10;have r11:=hn 11;simp[mem_ready,Region.binds] at r11;subst r11;have r12:=hn 12;simp[mem_ready,Region.binds] at r12;subst r12;have r13:=hn 13;simp[mem_ready,Region.binds] at r13;subst r13;have r14:=hn 14;simp[mem_ready,Region.binds] at r14;subst r14;have r15:=hn 15;simp[mem_ready,Region.binds] at r15;subst r15;dsimp only;obtain⟨hv,nv9,os9,w5,hb5,h4,h13,h13e,-,-,hw5⟩:=H.h15 rfl;have hpw:=HPRW.out.below hb5 HPRW.out.lt;have hp3:Blk w' Pr 31 #[.int .i64 st,hv,nv9]:=by rw[hw5];exact ((hpw.set_ 0 (.int .i64 st)).set_ 1 hv).set_ 2 nv9
    have hk3:Kept (fun g=>g=Pr) w5 w':=by rw[hw5];exact (((Kept.refl (fun g=>g=Pr) w5).setCell (p:=⟨Pr,0,none⟩) (Or.inl rfl) _).setCell (p:=⟨Pr,1,none⟩) (Or.inl rfl) _).setCell (p:=⟨Pr,2,none⟩) (Or.inl rfl) _
    have hwsz:=HWO.out.size;have ho4:OwnP 56 w' w.heap.size hv ps:=hk3.own (own_down h4 hwsz) (fun g e e2=>by subst e2;exact own_blk_ne' h4 hpw (by decide) e);have ho13:OwnNA w' w.heap.size nv9 os9:=OwnN.kept ⟨own_down h13.1 hwsz,fun x hx=>(h13.2 x hx).down hwsz⟩ hk3 (fun g e e2=>by subst e2;exact own_blk_ne' h13.1 hpw (by decide) e) (fun x hx g e e2=>by subst e2;exact own_blk_ne' (h13.2 x hx) hpw (by decide) e);have hbe:Below w.heap.size w w':=(HWO.out.trans (hb5.mono hwsz)).trans (hk3.to_below (by have:=hb5.size;omega) (fun g hg e=>by have:=HPR2.out;omega));obtain⟨Ah,ch9,ehv,-,-⟩:=ho4.pts;obtain⟨An9,cn9,env,-,-⟩:=ho13.nds;have cc0:=hp3.cell_ 0 (.int .i64 st) rfl;have cc1:=hp3.cell_ 1 hv rfl;have cc2:=hp3.cell_ 2 nv9 rfl;have HFIN:=hid (And.intro ho4 (And.intro ho13 (And.intro h13e hbe)));have HP3:=hid hp3;obtain⟨w6,hw6⟩:∃ w6:World,w6=w':=⟨_,rfl⟩
    subst ehv env;clear H hr hn hb5 h4 h13 h13e hpw hk3 hwsz ho4 ho13 hbe hp3 hw5;go_wp2;exact bodyPost_ret (results_cell_row Tryz.results57 _ _ Pr 31 #[.int .i64 st,.slice Ah ps.length ch9,.slice An9 os9.length cn9] (0,0) _ rfl HP3.out Tryz.underlying31 rfl Tryz.sizeTree) rfl ⟨_,_,os9,rfl,HFIN.out.1,HFIN.out.2.1,HFIN.out.2.2.1,HFIN.out.2.2.2⟩
end Go.Proofs.YtlegfdllipkggaaGreatDoor
