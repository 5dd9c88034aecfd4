/-
  texts PermW RDecP: parts of the proof; conditions stand with each theorem.
-/
import Derived.Test.YtcmbdhopmncmnaaGreatDoorWPlace
import Derived.Test.YtcmbdhopmncmnaaGreatDoorWG5
import Derived.DeepKeys5
import Derived.Laws.EntriesVeiled
namespace Go.Proofs.YtcmbdhopmncmnaaGreatDoor
open Lib(hid)
open Go.RowKit Go.Maps
set_option maxRecDepth 100000
set_option linter.unusedVariables false
set_option linter.unusedSimpArgs false
theorem run_loadVar_one {P:Program}{w:World}{ty:TypeId}{d:TypeDesc}{a:Addr}{v:Value}(hu:P.underlying ty=some d)(hd:(match d with | .struct _ | .array _ _=>true | _=>false)=false)(hc:w.cell? a=some v) :
  (loadVar ty a).run P w=.ok v w:=by
 have hagg:(isAgg ty).run P w=.ok false w:=by
  unfold isAgg;rw[Sem.run_bind,run_underlying hu w];cases d <;> simp_all
 simp[loadVar,Sem.run_bind,hagg,hc,Result.andThen]
theorem results_cc {P:Program}{fn:Func}{p u:Tmp}{tp tu:TypeId}{dp du:TypeDesc}{a b:Addr}{va vb:Value}{w:World}(h:fn.results=#[.cell p tp,.cell u tu])(tmps:Array Value)
  (hp:tmps.getD p undef=.pointer (some a)) (hq:tmps.getD u undef=.pointer (some b)) (hup:P.underlying tp=some dp) (hdp:(match dp with | .struct _ | .array _ _=>true | _=>false)=false) (huq:P.underlying tu=some du) (hdq:(match du with | .struct _ | .array _ _=>true | _=>false)=false)
  (ha:w.cell? a=some va) (hb:w.cell? b=some vb):(results fn tmps).run P w=.ok (.tuple #[va,vb]) w:=by
 have hp':tmps[p]?.getD undef=.pointer (some a):=by simpa using hp
 have hq':tmps[u]?.getD undef=.pointer (some b):=by simpa using hq
 simp[results,h,hp',hq',asAddr,run_loadVar_one hup hdp ha,run_loadVar_one huq hdq hb,Sem.run_bind,Result.andThen]
theorem NegOr.accept {vars:List (List Int)}{bs:List Int}{e s:Int}(h:NegOr bs)(hs:0≤s):NegOr (acceptP vars bs e s).2.2:=by
 rcases acceptP_cases vars bs e s with h1 | h1 | ⟨-,-,h1⟩
 ·rw[h1];exact h
 ·rw[h1];exact h
 ·rw[h1];exact h.set hs
theorem mv {w w':World}{g:Nat}{ty:TypeId}{cs:Array Value}(h:Blk w g ty cs)(hb:Below w.heap.size w w'):Blk w' g ty cs:=h.below hb h.lt
theorem sizeN (w:World)(o:Obj):(w.alloc o).heap.size=w.heap.size+1:=by simp
structure Pm5 (W0:World)(gt gr gin gX gF:Nat)(iA:Option Addr)(ic:Nat)(inn:List Int)(zA:Option Addr)(zc:Nat)(ins:List Int)(out:Int)(hA vA rA:Option Addr)(hc vc rc:Nat)(t:TabH)(w:World):Prop where
 low:Below W0.heap.size W0 w
 bt:Blk w gt 26 #[.int .i64 t.st,.int .i64 t.sym,.slice hA t.hood.length hc,.slice vA t.vs.length vc,.slice rA t.rs.length rc]
 br:Blk w gr 48 #[.slice zA ins.length zc,.int .i64 out]
 bi:Blk w gin 30 #[.slice iA inn.length ic]
 bx:Blk w gX 3 #[.int .i64 0]
 bf:Blk w gF 4 #[.bool false]
structure PmS (W0:World)(gt gr gin gX gF:Nat)(iA:Option Addr)(ic:Nat)(inn:List Int)(zA:Option Addr)(zc:Nat)(ins:List Int)(out:Int)(hA vA rA:Option Addr)(hc vc rc:Nat)(t:TabH)(gc gb g:Nat)(c:Int)(bs:List Int)(w:World):Prop where
 p5:Pm5 W0 gt gr gin gX gF iA ic inn zA zc ins out hA vA rA hc vc rc t w
 bc:Blk w gc 3 #[.int .i64 c]
 bb:Blk w gb 120 #[.pointer (some ⟨g,0,none⟩)]
 bd:BindB w g bs
section
variable {W0 : World} {gt gr gin gX gF : Nat} {iA : Option Addr} {ic : Nat} {inn : List Int} {zA : Option Addr} {zc : Nat} {ins : List Int} {out : Int} {hA vA rA : Option Addr} {hc vc rc : Nat} {t : TabH} {gc gb g : Nat} {c : Int} {bs bs' : List Int} {w w' : World}
theorem Pm5.ext (h:Pm5 W0 gt gr gin gX gF iA ic inn zA zc ins out hA vA rA hc vc rc t w)(hb:Below w.heap.size w w'):Pm5 W0 gt gr gin gX gF iA ic inn zA zc ins out hA vA rA hc vc rc t w':=⟨h.low.trans (hb.mono h.low.size),h.bt.below hb h.bt.lt,h.br.below hb h.br.lt,h.bi.below hb h.bi.lt,h.bx.below hb h.bx.lt,h.bf.below hb h.bf.lt⟩
theorem PmS.ext (h:PmS W0 gt gr gin gX gF iA ic inn zA zc ins out hA vA rA hc vc rc t gc gb g c bs w)(hb:Below w.heap.size w w'):PmS W0 gt gr gin gX gF iA ic inn zA zc ins out hA vA rA hc vc rc t gc gb g c bs w':=⟨h.p5.ext hb,h.bc.below hb h.bc.lt,h.bb.below hb h.bb.lt,h.bd.ext hb⟩
theorem PmS.bind (h:PmS W0 gt gr gin gX gF iA ic inn zA zc ins out hA vA rA hc vc rc t gc gb g c bs w)(hg:W0.heap.size≤g)(k:Kept (fun x=>x=g) w w')(hb:BindB w' g bs'):PmS W0 gt gr gin gX gF iA ic inn zA zc ins out hA vA rA hc vc rc t gc gb g c bs' w':=
 ⟨⟨h.p5.low.trans (k.to_below h.p5.low.size (fun x hx e=>by omega)),k.blk h.p5.bt (h.p5.bt.ne_ h.bd.2 (by decide)),k.blk h.p5.br (h.p5.br.ne_ h.bd.2 (by decide)),k.blk h.p5.bi (h.p5.bi.ne_ h.bd.2 (by decide)),k.blk h.p5.bx (h.p5.bx.ne_ h.bd.2 (by decide)),k.blk h.p5.bf (h.p5.bf.ne_ h.bd.2 (by decide))⟩,
  k.blk h.bc (h.bc.ne_ h.bd.2 (by decide)),k.blk h.bb (h.bb.ne_ h.bd.2 (by decide)),hb⟩
end
structure Pw4J (V:World)(g:Nat)(tv:Value)(gr:Nat)(zb:Nat)(zo:Nat)(zn:Nat)(zc:Nat)(ib:Nat)(io:Nat)(nn:Nat)(ic:Nat)(cn:Nat)(ee:Int)(ss:Int)(ok:Bool)(fv:Bool)(bb:List Int)(b0 b1 b2 b3 b4 b5 b6 b7 b8 b9 b10 b11 b12 b13 b14 b15 b16:Bool)(v21 v22 v23 v24 v25 v26 v27 v28 v29 v30 v31 v32 v20 v33 v34 v10 v11:Value)(w:World):Prop where
 h0:b0=true→v21=.pointer (some ⟨g,0,none⟩)
 h1:b1=true→v22=tv
 h2:b2=true→v23=.pointer (some ⟨gr,0,none⟩)
 h3:b3=true→v24=.slice (some ⟨zb,zo,none⟩) zn zc
 h4:b4=true→v25=.int .i64 (cn:Int)
 h5:b5=true→v26=.pointer (some ⟨zb,zo+cn,none⟩)
 h6:b6=true→v27=.int .i64 ee
 h7:b7=true→v28=.slice (some ⟨ib,io,none⟩) nn ic
 h8:b8=true→v29=.int .i64 (cn:Int)
 h9:b9=true→v30=.pointer (some ⟨ib,io+cn,none⟩)
 h10:b10=true→v31=.int .i64 ss
 h11:b11=true→v32=.tuple #[.bool ok,.bool fv]
 h12:b12=true→v20=.tuple #[.bool ok,.bool fv]
 h13:b13=true→v33=.bool ok
 h14:b14=true→v34=.bool fv
 h15:b15=true→v10=.bool ok
 h16:b16=true→v11=.bool fv
 wa:b11=false→w=V.drew
 wd:b11=true→BindB w g bb∧Kept (fun x=>x=g) V.drew w
 o3:b3=true→b2=true
 o5:b5=true→b3=true∧b4=true
 o6:b6=true→b5=true
 o9:b9=true→b7=true∧b8=true
 o10:b10=true→b9=true
 o11:b11=true→b0=true∧b1=true∧b6=true∧b10=true
 o12:b12=true→b11=true
 o13:b13=true→b12=true
 o14:b14=true→b12=true
 o15:b15=true→b13=true
 o16:b16=true→b14=true∧b15=true
set_option maxHeartbeats 16000000 in
theorem permOK:PermOK:=by
 intro hA hc vA vc rA rc t zA zc ins out iA ic inn w hR hst;obtain⟨w0,hw0⟩:∃ w0,w0=((((w.alloc (.cells #[.int .i64 t.st,.int .i64 t.sym,.slice hA t.hood.length hc,.slice vA t.vs.length vc,.slice rA t.rs.length rc] 26)).alloc (.cells #[.slice zA ins.length zc,.int .i64 out] 48)).alloc (.cells #[.slice iA inn.length ic] 30)).alloc (.cells #[.int .i64 0] 3)).alloc (.cells #[.bool false] 4):=⟨_,rfl⟩
 obtain⟨v1,hv1⟩:∃ v,v=w.alloc (.cells #[.int .i64 t.st,.int .i64 t.sym,.slice hA t.hood.length hc,.slice vA t.vs.length vc,.slice rA t.rs.length rc] 26):=⟨_,rfl⟩
 obtain⟨v2,hv2⟩:∃ v,v=v1.alloc (.cells #[.slice zA ins.length zc,.int .i64 out] 48):=⟨_,rfl⟩
 obtain⟨v3,hv3⟩:∃ v,v=v2.alloc (.cells #[.slice iA inn.length ic] 30):=⟨_,rfl⟩
 obtain⟨v4,hv4⟩:∃ v,v=v3.alloc (.cells #[.int .i64 0] 3):=⟨_,rfl⟩
 have hw0':w0=v4.alloc (.cells #[.bool false] 4):=by rw[hw0,hv4,hv3,hv2,hv1]
 have b1:Below w.heap.size w v1:=by rw[hv1];exact below_new _ _
 have b2:Below v1.heap.size v1 v2:=by rw[hv2];exact below_new _ _
 have b3:Below v2.heap.size v2 v3:=by rw[hv3];exact below_new _ _
 have b4:Below v3.heap.size v3 v4:=by rw[hv4];exact below_new _ _
 have b5:Below v4.heap.size v4 w0:=by rw[hw0'];exact below_new _ _
 have z1:v1.heap.size=w.heap.size+1:=by rw[hv1];exact sizeN _ _
 have z2:v2.heap.size=w.heap.size+1+1:=by rw[hv2,sizeN,z1]
 have z3:v3.heap.size=w.heap.size+1+1+1:=by rw[hv3,sizeN,z2]
 have z4:v4.heap.size=w.heap.size+1+1+1+1:=by rw[hv4,sizeN,z3]
 have z5:w0.heap.size=w.heap.size+1+1+1+1+1:=by rw[hw0',sizeN,z4]
 have c1:Blk v1 w.heap.size 26 #[.int .i64 t.st,.int .i64 t.sym,.slice hA t.hood.length hc,.slice vA t.vs.length vc,.slice rA t.rs.length rc]:=by rw[hv1];exact Blk.new _ _ _
 have c2:Blk v2 v1.heap.size 48 #[.slice zA ins.length zc,.int .i64 out]:=by rw[hv2];exact Blk.new _ _ _
 have c3:Blk v3 v2.heap.size 30 #[.slice iA inn.length ic]:=by rw[hv3];exact Blk.new _ _ _
 have c4:Blk v4 v3.heap.size 3 #[.int .i64 0]:=by rw[hv4];exact Blk.new _ _ _
 have c5:Blk w0 v4.heap.size 4 #[.bool false]:=by rw[hw0'];exact Blk.new _ _ _
 rw[z1] at c2;rw[z2] at c3;rw[z3] at c4;rw[z4] at c5;have hp0:Pm5 w w.heap.size (w.heap.size+1) (w.heap.size+1+1) (w.heap.size+1+1+1) (w.heap.size+1+1+1+1) iA ic inn zA zc ins out hA vA rA hc vc rc t w0:=
  ⟨b1.trans ((b2.trans ((b3.trans ((b4.trans (b5.mono b4.size)).mono b3.size)).mono b2.size)).mono b1.size),mv (mv (mv (mv c1 b2) b3) b4) b5,mv (mv (mv c2 b3) b4) b5,mv (mv c3 b4) b5,mv c4 b5,c5⟩
 obtain⟨gt,hgt⟩:∃ g,g=w.heap.size:=⟨_,rfl⟩
 obtain⟨gr,hgr⟩:∃ g,g=w.heap.size+1:=⟨_,rfl⟩
 obtain⟨gin,hgin⟩:∃ g,g=w.heap.size+1+1:=⟨_,rfl⟩
 obtain⟨gX,hgX⟩:∃ g,g=w.heap.size+1+1+1:=⟨_,rfl⟩
 obtain⟨gF,hgF⟩:∃ g,g=w.heap.size+1+1+1+1:=⟨_,rfl⟩
 have hp1:Pm5 w gt gr gin gX gF iA ic inn zA zc ins out hA vA rA hc vc rc t w0:=by rw[hgt,hgr,hgin,hgX,hgF];exact hp0
 have HP0:=hid hp1;have HW0:=hid (And.intro hw0 (And.intro hgt (And.intro hgr (And.intro hgin (And.intro hgX hgF)))));have HN0:Hid (w.heap.size≤gt∧gr=gt+1∧gin=gt+2∧gX=gt+3∧gF=gt+4∧w0.heap.size=gt+5):=hid (by omega);have HR:=hid hR;have HST:=hid hst;have hn25:inn.length≤25:=by rw[hR.li];exact (hoodB_len hR.hood).2
 have HN25:=hid hn25;have HLL:Hid (ins.length=inn.length):=hid (by rw[hR.lz,hR.li]);obtain⟨vars,hvars⟩:∃ v,v=t.vs.map Vh.zs:=⟨_,rfl⟩
 rw[← hvars];have HVS:=hid hvars;obtain⟨res,hres⟩:∃ r,r=permutedP t.hood vars ins out inn:=⟨_,rfl⟩
 rw[← hres];have HRES:=hid hres;obtain⟨c,hcc⟩:∃ c,c=ctrP t.hood:=⟨_,rfl⟩
 have HC:=hid hcc;have hcall:=centre_any hA t.hood hc w0 (hR.pts.ext (hp0.low));rw[← hcc] at hcall;have HCALL:=hid hcall;have HCR:Hid (0≤c→c.toNat < inn.length):=hid (fun h=>by
  rcases ctr_lt15 t.hood with h1 | ⟨-,h2⟩
  ·rw[← hcc] at h1;omega
  ·rw[hcc,hR.li];exact h2)
 have x2:=hp1.bt.cell_ 2 (.slice hA t.hood.length hc) rfl;unfold tabV;clear hv1 hv2 hv3 hv4 hw0' b1 b2 b3 b4 b5 z1 z2 z3 z4 z5 c1 c2 c3 c4 c5 hp0 hp1 hw0 hgt hgr hgin hgX hgF hR hst hn25 hvars hres hcc hcall;go_enter Tryz.func75,Tryz.ntmps75;go_upto_region 1 with fail
 rw[← HW0.out.1,← HW0.out.2.2.2.2.2,← HW0.out.2.2.2.2.1,← HW0.out.2.2.2.1,← HW0.out.2.2.1,← HW0.out.2.1];clear HW0;go_wp2_with (go_at_call 45;refine HCALL.out.mono ?_;rintro e w1 ⟨rfl,hb1⟩;refine Hid.out ?_);refine hid ?_;have HP1:=hid (HP0.out.ext hb1);have HN1:Hid (w0.heap.size≤w1.heap.size):=hid hb1.size;clear hb1 x2 HCALL HP0;go_upto_region 2 with fail
 obtain⟨gc,hgc⟩:∃ g,g=w1.heap.size:=⟨_,rfl⟩
 obtain⟨w2,hw2⟩:∃ W,W=w1.alloc (.cells #[.int .i64 c] 3):=⟨_,rfl⟩
 have hb2:Below w1.heap.size w1 w2:=by rw[hw2];exact below_new _ _
 have hbc:Blk w2 gc 3 #[.int .i64 c]:=by rw[hw2,hgc];exact Blk.new _ _ _
 have HBC:=hid hbc;have HP2:=hid (HP1.out.ext hb2);have HNN:=hid (none_any w2);rw[← hgc,← hw2];have HN2:Hid (gt+5≤gc∧gc < w2.heap.size):=hid (by
  have h1:w2.heap.size=w1.heap.size+1:=by rw[hw2];exact sizeN _ _
  have h2:=HN0.out;have h3:=HN1.out;omega)
 clear hgc hw2 hb2 hbc HP1 HN1;go_wp2_with (go_at_call 111;refine HNN.out.mono ?_;rintro e w3 ⟨g,rfl,hg3,hbd3,hb3⟩;refine Hid.out ?_);refine hid ?_;have HP3:=hid (HP2.out.ext hb3);have HBC3:=hid (mv HBC.out hb3);have HBD3:=hid hbd3;have HN3:Hid (gc < g∧g < w3.heap.size∧w2.heap.size≤g):=hid ⟨Nat.lt_of_lt_of_le HN2.out.2 hg3,hbd3.lt,hg3⟩;clear hg3 hbd3 hb3 HP2 HBC HNN;go_upto_region 3 with fail
 obtain⟨gb,hgb⟩:∃ g,g=w3.heap.size:=⟨_,rfl⟩
 obtain⟨w4,hw4⟩:∃ W,W=w3.alloc (.cells #[.pointer (some ⟨g,0,none⟩)] 120):=⟨_,rfl⟩
 have hb4:Below w3.heap.size w3 w4:=by rw[hw4];exact below_new _ _
 have hbb:Blk w4 gb 120 #[.pointer (some ⟨g,0,none⟩)]:=by rw[hw4,hgb];exact Blk.new _ _ _
 have hm4:PmS w gt gr gin gX gF iA ic inn zA zc ins out hA vA rA hc vc rc t gc gb g c negL w4:=⟨HP3.out.ext hb4,mv HBC3.out hb4,hbb,HBD3.out.ext hb4⟩
 have HM4:=hid hm4;rw[← hgb,← hw4];have HN4:Hid (g < gb∧gb < w4.heap.size):=hid ⟨by rw[hgb];exact HN3.out.2.1,hbb.lt⟩;clear hgb hw4 hb4 hbb hm4 HP3 HBC3 HBD3;have x8:=HM4.out.bc.cell_ 0 (.int .i64 c) rfl;by_cases h0:0≤c
 ·have d0:decide (0≤c)=true:=decide_eq_true h0;have HC0:=hid h0;clear h0;go_upto_region 4 with fail
  have hcn:=HCR.out HC0.out;obtain⟨cn,rfl⟩:∃ n:Nat,c=(n:Int):=⟨c.toNat,by have:=HC0.out;omega⟩
  rw[Int.toNat_natCast] at hcn;have hcz':cn < ins.length:=by rw[HLL.out];exact hcn
  obtain⟨zb,zo,ez,-,hcz⟩:=(HR.out.rz.ext HM4.out.p5.low).at_ hcz';obtain⟨ib,io,ei,-,hci⟩:=(HR.out.ri.ext HM4.out.p5.low).at_ hcn;have hel:=HR.out.ez (ins[cn]'hcz') (List.getElem_mem hcz');have hsn:=HST.out (inn[cn]'hcn) (List.getElem_mem hcn);obtain⟨e,hee⟩:∃ e,e=ins[cn]'hcz':=⟨_,rfl⟩
  obtain⟨s,hss⟩:∃ s,s=inn[cn]'hcn:=⟨_,rfl⟩
  have hge:ins.getD cn 0=e:=by rw[hee,List.getD_eq_getElem?_getD,List.getElem?_eq_getElem hcz'];rfl
  have hgs:inn.getD cn 0=s:=by rw[hss,List.getD_eq_getElem?_getD,List.getElem?_eq_getElem hcn];rfl
  rw[← hee] at hcz hel;rw[← hss] at hci hsn;have HEL:=hid hel;have HS0:=hid hsn.1;subst ez ei;have HCZ:=hid hcz;have HCI:=hid hci;have HVW:Hid (Vrs w4 vA t.vs):=hid (HR.out.vrs.ext HM4.out.p5.low);have hcall:=fun (W:World) (hW:BindB W g negL) (hV2:Vrs W vA t.vs)=>accept_any g hA hc vA vc rA rc t negL e s W hW hV2 HEL.out.1 HR.out.v40 HEL.out.2;rw[← HVS.out] at hcall;unfold tabV at hcall;obtain⟨ok,hok⟩:∃ x,x=(acceptP vars negL e s).1:=⟨_,rfl⟩
  obtain⟨fv,hfv⟩:∃ x,x=(acceptP vars negL e s).2.1:=⟨_,rfl⟩
  obtain⟨b',hb'⟩:∃ x,x=(acceptP vars negL e s).2.2:=⟨_,rfl⟩
  have hres:res=if ok=true then placeP vars ins out inn (cn:Int) inn.length b' (List.replicate inn.length false) (0,false) else (0,false):=by
   rw[HRES.out];unfold permutedP;rw[← HC.out,if_pos HC0.out,Int.toNat_natCast,hge,hgs,← hok,← hb']
  have HRS0:=hid hres;have HNG:Hid (NegOr b'):=hid (by rw[hb'];exact NegOr.neg.accept HS0.out);rw[← hok,← hfv,← hb'] at hcall;have HCALL:=hid hcall;have HG4:Hid (w.heap.size≤g):=hid (by have h0:=HN0.out;have h2:=HN2.out;have h3:=HN3.out;omega);clear hcz hci hel hsn hee hss hge hgs hok hfv hb' hres hcall x8;refine wp_region_J (by kernel_rfl) (fun listed act w'=>∃ b0 b1 b2 b3 b4 b5 b6 b7 b8 b9 b10 b11 b12 b13 b14 b15 b16 v21 v22 v23 v24 v25 v26 v27 v28 v29 v30 v31 v32 v20 v33 v34 v10 v11,listed=#[b0,b1,b2,b3,b4,b5,b6,b7,b8,b9,b10,b11,b12,b13,b14,b15,b16]∧act=Act.mk #[.agg #[.int .i64 t.st,.int .i64 t.sym,.slice hA t.hood.length hc,.slice vA t.vs.length vc,.slice rA t.rs.length rc],.agg #[.slice (some ⟨zb,zo,none⟩) ins.length zc,.int .i64 out],.slice (some ⟨ib,io,none⟩) inn.length ic,.pointer (some ⟨gt,0,none⟩),.pointer (some ⟨gr,0,none⟩),.pointer (some ⟨gin,0,none⟩),.pointer (some ⟨gX,0,none⟩),.pointer (some ⟨gF,0,none⟩),.pointer (some ⟨gc,0,none⟩),.pointer (some ⟨gb,0,none⟩),v10,v11,undef,undef,.pointer (some ⟨gt,2,none⟩),.slice hA t.hood.length hc,.int .i64 (cn:Int),.pointer (some ⟨g,0,none⟩),.int .i64 (cn:Int),.bool true,v20,v21,v22,v23,v24,v25,v26,v27,v28,v29,v30,v31,v32,v33,v34,undef,undef,undef,undef,undef,undef,undef,undef,undef,undef] []∧Pw4J w4 (g) (.agg #[.int .i64 t.st,.int .i64 t.sym,.slice hA t.hood.length hc,.slice vA t.vs.length vc,.slice rA t.rs.length rc]) (gr) (zb) (zo) (ins.length) (zc) (ib) (io) (inn.length) (ic) (cn) (e) (s) (ok) (fv) (b') b0 b1 b2 b3 b4 b5 b6 b7 b8 b9 b10 b11 b12 b13 b14 b15 b16 v21 v22 v23 v24 v25 v26 v27 v28 v29 v30 v31 v32 v20 v33 v34 v10 v11 w') ?_ ?_ ?_
  ·exact (e_8 (e_8 (e_8 (e_8 (e_2 ⟨rfl,rfl,(by constructor;(case wa=>exact (fun _=>rfl));all_goals simp)⟩)))))
  ·rintro i listed act w' hi ⟨b0,b1,b2,b3,b4,b5,b6,b7,b8,b9,b10,b11,b12,b13,b14,b15,b16,v21,v22,v23,v24,v25,v26,v27,v28,v29,v30,v31,v32,v20,v33,v34,v10,v11,rfl,rfl,H⟩;have hi16:i < 17:=by
    obtain⟨-,o,ho,-⟩:=mem_ready.1 hi;exact (Array.getElem?_eq_some_iff.1 ho).1
   obtain rfl | rfl | rfl | rfl | rfl | rfl | rfl | rfl | rfl | rfl | rfl | rfl | rfl | rfl | rfl | rfl | rfl:i=0∨i=1∨i=2∨i=3∨i=4∨i=5∨i=6∨i=7∨i=8∨i=9∨i=10∨i=11∨i=12∨i=13∨i=14∨i=15∨i=16:=by omega
   all_goals simp[mem_ready,Region.binds] at hi
   ·have bcf:b11=false:=by
     cases hb:b11 with
     | false=>rfl
     | true=>exact absurd (H.o11 hb).1 (by simp[hi])
    obtain rfl:=H.wa bcf;have BCF:=hid bcf;clear bcf;have cc:(World.drew w4).cell? ⟨gb,0,none⟩=some (.pointer (some ⟨g,0,none⟩)):=HM4.out.bb.cell_ 0 _ rfl;refine wpOp_hidden rfl fun K hK=>?_;go_wp2;refine OnlyN.mk (hK.out _ _ (e_8 (e_8 (e_8 (e_8 (e_2 ⟨rfl,rfl,{ H with h0:=fun _=>rfl,o11:=fun h=>⟨rfl,(H.o11 h).2.1,(H.o11 h).2.2.1,(H.o11 h).2.2.2⟩ }⟩))))))
   ·have bcf:b11=false:=by
     cases hb:b11 with
     | false=>rfl
     | true=>exact absurd (H.o11 hb).2.1 (by simp[hi])
    obtain rfl:=H.wa bcf;have BCF:=hid bcf;clear bcf;have hcc:Blk (World.drew w4) gt 26 #[.int .i64 t.st,.int .i64 t.sym,.slice hA t.hood.length hc,.slice vA t.vs.length vc,.slice rA t.rs.length rc]:=HM4.out.p5.bt;have cc0:=hcc.cell_ 0 (.int .i64 t.st) rfl;have cc1:=hcc.cell_ 1 (.int .i64 t.sym) rfl;have cc2:=hcc.cell_ 2 (.slice hA t.hood.length hc) rfl;have cc3:=hcc.cell_ 3 (.slice vA t.vs.length vc) rfl;have cc4:=hcc.cell_ 4 (.slice rA t.rs.length rc) rfl;clear hcc;refine wpOp_hidden rfl fun K hK=>?_;go_wp2;refine OnlyN.mk (hK.out _ _ (e_8 (e_8 (e_8 (e_8 (e_2 ⟨rfl,rfl,{ H with h1:=fun _=>rfl,o11:=fun h=>⟨(H.o11 h).1,rfl,(H.o11 h).2.2.1,(H.o11 h).2.2.2⟩ }⟩))))))
   ·refine wpOp_hidden rfl fun K hK=>?_;go_wp2;refine OnlyN.mk (hK.out _ _ (e_8 (e_8 (e_8 (e_8 (e_2 ⟨rfl,rfl,{ H with h2:=fun _=>rfl,o3:=fun h=>rfl }⟩))))))
   ·obtain rfl:=H.h2 (by simp[hi]);have bcf:b11=false:=by
     cases hb:b11 with
     | false=>rfl
     | true=>exact absurd (H.o5 (H.o6 (H.o11 hb).2.2.1)).1 (by simp[hi])
    obtain rfl:=H.wa bcf;have BCF:=hid bcf;clear bcf;have cc:(World.drew w4).cell? ⟨gr,0,none⟩=some (.slice (some ⟨zb,zo,none⟩) ins.length zc):=HM4.out.p5.br.cell_ 0 _ rfl;refine wpOp_hidden rfl fun K hK=>?_;go_wp2;refine OnlyN.mk (hK.out _ _ (e_8 (e_8 (e_8 (e_8 (e_2 ⟨rfl,rfl,{ H with h3:=fun _=>rfl,o3:=fun _=>(by simp[hi]),o5:=fun h=>⟨rfl,(H.o5 h).2⟩ }⟩))))))
   ·have bcf:b11=false:=by
     cases hb:b11 with
     | false=>rfl
     | true=>exact absurd (H.o5 (H.o6 (H.o11 hb).2.2.1)).2 (by simp[hi])
    obtain rfl:=H.wa bcf;have BCF:=hid bcf;clear bcf;have cc:(World.drew w4).cell? ⟨gc,0,none⟩=some (.int .i64 (cn:Int)):=HM4.out.bc.cell_ 0 _ rfl;refine wpOp_hidden rfl fun K hK=>?_;go_wp2;refine OnlyN.mk (hK.out _ _ (e_8 (e_8 (e_8 (e_8 (e_2 ⟨rfl,rfl,{ H with h4:=fun _=>rfl,o5:=fun h=>⟨(H.o5 h).1,rfl⟩ }⟩))))))
   ·obtain rfl:=H.h3 (by simp[hi]);obtain rfl:=H.h4 (by simp[hi]);refine wpOp_hidden rfl fun K hK=>?_;go_wp2;refine OnlyN.mk (hK.out _ _ (e_8 (e_8 (e_8 (e_8 (e_2 ⟨rfl,rfl,{ H with h5:=fun _=>rfl,o5:=fun _=>(by simp[hi]),o6:=fun h=>rfl }⟩))))))
   ·obtain rfl:=H.h5 (by simp[hi]);have bcf:b11=false:=by
     cases hb:b11 with
     | false=>rfl
     | true=>exact absurd (H.o11 hb).2.2.1 (by simp[hi])
    obtain rfl:=H.wa bcf;have BCF:=hid bcf;clear bcf;have cc:(World.drew w4).cell? ⟨zb,zo+cn,none⟩=some (.int .i64 e):=HCZ.out;refine wpOp_hidden rfl fun K hK=>?_;go_wp2;refine OnlyN.mk (hK.out _ _ (e_8 (e_8 (e_8 (e_8 (e_2 ⟨rfl,rfl,{ H with h6:=fun _=>rfl,o6:=fun _=>(by simp[hi]),o11:=fun h=>⟨(H.o11 h).1,(H.o11 h).2.1,rfl,(H.o11 h).2.2.2⟩ }⟩))))))
   ·have bcf:b11=false:=by
     cases hb:b11 with
     | false=>rfl
     | true=>exact absurd (H.o9 (H.o10 (H.o11 hb).2.2.2)).1 (by simp[hi])
    obtain rfl:=H.wa bcf;have BCF:=hid bcf;clear bcf;have cc:(World.drew w4).cell? ⟨gin,0,none⟩=some (.slice (some ⟨ib,io,none⟩) inn.length ic):=HM4.out.p5.bi.cell_ 0 _ rfl;refine wpOp_hidden rfl fun K hK=>?_;go_wp2;refine OnlyN.mk (hK.out _ _ (e_8 (e_8 (e_8 (e_8 (e_2 ⟨rfl,rfl,{ H with h7:=fun _=>rfl,o9:=fun h=>⟨rfl,(H.o9 h).2⟩ }⟩))))))
   ·have bcf:b11=false:=by
     cases hb:b11 with
     | false=>rfl
     | true=>exact absurd (H.o9 (H.o10 (H.o11 hb).2.2.2)).2 (by simp[hi])
    obtain rfl:=H.wa bcf;have BCF:=hid bcf;clear bcf;have cc:(World.drew w4).cell? ⟨gc,0,none⟩=some (.int .i64 (cn:Int)):=HM4.out.bc.cell_ 0 _ rfl;refine wpOp_hidden rfl fun K hK=>?_;go_wp2;refine OnlyN.mk (hK.out _ _ (e_8 (e_8 (e_8 (e_8 (e_2 ⟨rfl,rfl,{ H with h8:=fun _=>rfl,o9:=fun h=>⟨(H.o9 h).1,rfl⟩ }⟩))))))
   ·obtain rfl:=H.h7 (by simp[hi]);obtain rfl:=H.h8 (by simp[hi]);refine wpOp_hidden rfl fun K hK=>?_;go_wp2;refine OnlyN.mk (hK.out _ _ (e_8 (e_8 (e_8 (e_8 (e_2 ⟨rfl,rfl,{ H with h9:=fun _=>rfl,o9:=fun _=>(by simp[hi]),o10:=fun h=>rfl }⟩))))))
   ·obtain rfl:=H.h9 (by simp[hi]);have bcf:b11=false:=by
     cases hb:b11 with
     | false=>rfl
     | true=>exact absurd (H.o11 hb).2.2.2 (by simp[hi])
    obtain rfl:=H.wa bcf;have BCF:=hid bcf;clear bcf;have cc:(World.drew w4).cell? ⟨ib,io+cn,none⟩=some (.int .i64 s):=HCI.out;refine wpOp_hidden rfl fun K hK=>?_;go_wp2;refine OnlyN.mk (hK.out _ _ (e_8 (e_8 (e_8 (e_8 (e_2 ⟨rfl,rfl,{ H with h10:=fun _=>rfl,o10:=fun _=>(by simp[hi]),o11:=fun h=>⟨(H.o11 h).1,(H.o11 h).2.1,(H.o11 h).2.2.1,rfl⟩ }⟩))))))
   ·obtain rfl:=H.h0 (by simp[hi]);obtain rfl:=H.h1 (by simp[hi]);obtain rfl:=H.h6 (by simp[hi]);obtain rfl:=H.h10 (by simp[hi]);obtain rfl:=H.wa (by simp[hi]);refine wpOp_hidden rfl fun K hK=>?_;have hB7:BindB (World.drew w4) g negL:=HM4.out.bd.ext (Below.refl _ w4).drew;have hcall7:=HCALL.out (World.drew w4) hB7 (HVW.out.ext (Below.refl _ w4).drew);have HC7:=hid hcall7;clear hcall7 hB7;go_wp2_with (go_at_call 112;refine HC7.out.mono ?_;rintro en w9 ⟨rfl,hb9,hk9⟩;refine Hid.out ?_);refine hid ?_;have HB9:=hid hb9;have HK9:=hid hk9;clear hb9 hk9 HC7;go_wp2;refine OnlyN.mk (hK.out _ _ (e_8 (e_8 (e_8 (e_8 (e_2 ⟨rfl,rfl,{ H with h11:=fun _=>rfl,wa:=fun h=>(by cases h),wd:=fun _=>⟨HB9.out,HK9.out⟩,o11:=fun _=>(by simp[hi]),o12:=fun h=>rfl }⟩))))))
   ·obtain rfl:=H.h11 (by simp[hi]);refine wpOp_hidden rfl fun K hK=>?_;go_wp2;refine OnlyN.mk (hK.out _ _ (e_8 (e_8 (e_8 (e_8 (e_2 ⟨rfl,rfl,{ H with h12:=fun _=>rfl,o12:=fun _=>(by simp[hi]),o13:=fun h=>rfl,o14:=fun h=>rfl }⟩))))))
   ·obtain rfl:=H.h12 (by simp[hi]);refine wpOp_hidden rfl fun K hK=>?_;go_wp2;refine OnlyN.mk (hK.out _ _ (e_8 (e_8 (e_8 (e_8 (e_2 ⟨rfl,rfl,{ H with h13:=fun _=>rfl,o13:=fun _=>(by simp[hi]),o15:=fun h=>rfl }⟩))))))
   ·obtain rfl:=H.h12 (by simp[hi]);refine wpOp_hidden rfl fun K hK=>?_;go_wp2;refine OnlyN.mk (hK.out _ _ (e_8 (e_8 (e_8 (e_8 (e_2 ⟨rfl,rfl,{ H with h14:=fun _=>rfl,o14:=fun _=>(by simp[hi]),o16:=fun h=>⟨rfl,(H.o16 h).2⟩ }⟩))))))
   ·obtain rfl:=H.h13 (by simp[hi]);refine wpOp_hidden rfl fun K hK=>?_;go_wp2;refine OnlyN.mk (hK.out _ _ (e_8 (e_8 (e_8 (e_8 (e_2 ⟨rfl,rfl,{ H with h15:=fun _=>rfl,o15:=fun _=>(by simp[hi]),o16:=fun h=>⟨(H.o16 h).1,rfl⟩ }⟩))))))
   ·obtain rfl:=H.h14 (by simp[hi]);obtain rfl:=H.h15 (by simp[hi]);refine wpOp_hidden rfl fun K hK=>?_;go_wp2;refine OnlyN.mk (hK.out _ _ (e_8 (e_8 (e_8 (e_8 (e_2 ⟨rfl,rfl,{ H with h16:=fun _=>rfl,o16:=fun _=>(by simp[hi]) }⟩))))))
  ·rintro listed act w' hr ⟨b0,b1,b2,b3,b4,b5,b6,b7,b8,b9,b10,b11,b12,b13,b14,b15,b16,v21,v22,v23,v24,v25,v26,v27,v28,v29,v30,v31,v32,v20,v33,v34,v10,v11,rfl,rfl,H⟩;have hn:=List.eq_nil_iff_forall_not_mem.1 hr;have r0:=hn 0;simp[mem_ready,Region.binds] at r0;subst r0;have r1:=hn 1;simp[mem_ready,Region.binds] at r1;subst r1;have r2:=hn 2;simp[mem_ready,Region.binds] at r2;subst r2;have r3:=hn 3;simp[mem_ready,Region.binds] at r3;subst r3;have r4:=hn 4;simp[mem_ready,Region.binds] at r4;subst r4;have r5:=hn 5;simp[mem_ready,Region.binds] at r5;subst r5;have r6:=hn 6;simp[mem_ready,Region.binds] at r6;subst r6;have r7:=hn 7;simp[mem_ready,Region.binds] at r7;subst r7;have r8:=hn 8;simp[mem_ready,Region.binds] at r8;subst r8;have r9:=hn 9;simp[mem_ready,Region.binds] at r9;subst r9;have r10:=hn 10;simp[mem_ready,Region.binds] at r10;subst r10;have r11:=hn 11;simp[mem_ready,Region.binds] at r11;subst r11;have r12:=hn 12;simp[mem_ready,Region.binds] at r12;subst r12;have r13:=hn 13;simp[mem_ready,Region.binds] at r13;subst r13;have r14:=hn 14;simp[mem_ready,Region.binds] at r14;subst r14;have r15:=hn 15;simp[mem_ready,Region.binds] at r15;subst r15;have r16:=hn 16;simp[mem_ready,Region.binds] at r16;subst r16;try dsimp only
   obtain⟨hb9,hk9⟩:=H.wd rfl;obtain rfl:=H.h15 rfl;obtain rfl:=H.h16 rfl;obtain⟨w5,rfl⟩:∃ w5:World,w5=w':=⟨_,rfl⟩
   have HM5:=hid ((HM4.out.ext (Below.refl _ w4).drew).bind HG4.out hk9 hb9);clear H hr hn hb9 hk9;cases ok with
   | false=>
    have HRS:Hid (res=(0,false)):=hid (by rw[HRS0.out];rfl);have z6:=HM5.out.p5.bx.cell_ 0 (.int .i64 0) rfl;have z7:=HM5.out.p5.bf.cell_ 0 (.bool false) rfl;have f6:=HM5.out.p5.bx.frozen 0;have f7:=HM5.out.p5.bf.frozen 0;have hfx:gX < gF:=by have:=HN0.out;omega
    go_wp2;have hfx2:gF≠gX:=by omega
    have hbx:=(HM5.out.p5.bx.set_ 0 (.int .i64 0)).far (p:=⟨gF,0,none⟩) hfx2.symm (.bool false);have hbf:=(HM5.out.p5.bf.far (p:=⟨gX,0,none⟩) hfx2 (.int .i64 0)).set_ 0 (.bool false);have hlo:Below w.heap.size w ((w5.setCell ⟨gX,0,none⟩ (.int .i64 0)).setCell ⟨gF,0,none⟩ (.bool false)):=(HM5.out.p5.low.setCell (p:=⟨gX,0,none⟩) (by have:=HN0.out;show w.heap.size≤gX;omega) _).setCell (p:=⟨gF,0,none⟩) (by have:=HN0.out;show w.heap.size≤gF;omega) _;(try simp only[Exit.inBlock,Exit.then]);refine bodyPost_ret (results_cc rfl _ rfl rfl Tryz.underlying3 rfl Tryz.underlying4 rfl (hbx.cell_ 0 (.int .i64 0) rfl) (hbf.cell_ 0 (.bool false) rfl)) rfl ?_;exact⟨by rw[HRS.out],hlo⟩
   | true=>
    have HRS:Hid (res=placeP vars ins out inn (cn:Int) inn.length b' (List.replicate inn.length false) (0,false)):=hid (by rw[HRS0.out];rfl);go_upto_region 7 with fail
    obtain⟨i0,hi0,hz0,hz1,hz2⟩:=info_parts Tryz.infoBool;have hmw:w5.heap.size≤w5.heap.size:=Nat.le_refl _;have hn25:=HN25.out;have x5:=HM5.out.p5.bi.cell_ 0 (.slice (some ⟨ib,io,none⟩) inn.length ic) rfl;go_wp2_with (at_make;refine wpList_make_full _ rfl _ _ 124 rfl w5.heap.size 4 i0 _ 1 Tryz.underlying124 hi0 hz0 hz1 .i64 .i64 inn.length inn.length inn.length rfl rfl rfl rfl (by rw[hz2];omega) (by unfold maxLen;omega) hmw ?_);intro w6 ho6 hg6;have hsz6:w5.heap.size < w6.heap.size:=(own_lt' ho6 rfl).1;rw[toList_madeCells_one] at ho6;have hb6:Below w5.heap.size w5 w6:=(Below.refl _ w5).grown hg6 (Nat.le_refl _) (by intro k hk;cases hk);obtain⟨ub,hub⟩:∃ g,g=w5.heap.size:=⟨_,rfl⟩
    rw[← hub] at ho6 hsz6;clear hg6 hi0 hz0 hz1 hz2 hmw x5 hn25;have ho6':OwnBl w6 w.heap.size (.slice (some ⟨ub,0,none⟩) inn.length inn.length) (List.replicate inn.length false):=by
     unfold OwnBl;rw[List.length_replicate,List.map_replicate];exact own_weak ho6 (by rw[hub];exact HM5.out.p5.low.size)
    have HO6:=hid ho6';have HM6:=hid (HM5.out.ext hb6);have HN6:Hid (gb < ub∧ub < w6.heap.size):=hid ⟨by rw[hub];exact HM5.out.bb.lt,hsz6⟩;go_upto_region 8 with fail
    rw[← hub];clear hub ho6 ho6' hb6 hsz6;obtain⟨gu,hgu⟩:∃ g,g=w6.heap.size:=⟨_,rfl⟩
    obtain⟨w7,hw7⟩:∃ W,W=w6.alloc (.cells #[.slice (some ⟨ub,0,none⟩) inn.length inn.length] 124):=⟨_,rfl⟩
    rw[← hgu,← hw7];have hb7:Below w6.heap.size w6 w7:=by rw[hw7];exact below_new _ _
    have hbu:Blk w7 gu 124 #[.slice (some ⟨ub,0,none⟩) inn.length inn.length]:=by rw[hw7,hgu];exact Blk.new _ _ _
    have HBU7:=hid hbu;have HM7:=hid (HM6.out.ext hb7);have ho7:OwnBl w7 w.heap.size (.slice (some ⟨ub,0,none⟩) inn.length inn.length) (List.replicate inn.length false):=own_below HO6.out hb7;have HO7:=hid ho7;have HN7:Hid (ub < gu∧gu < w7.heap.size):=hid ⟨by rw[hgu];exact HN6.out.2,hbu.lt⟩;clear hgu hw7 hb7 hbu ho7 HO6 HM6;go_upto_region 9 with fail
    obtain⟨gp,hgp⟩:∃ g,g=w7.heap.size:=⟨_,rfl⟩
    obtain⟨w8,hw8⟩:∃ W,W=w7.alloc (.cells #[.nilFunc] 125):=⟨_,rfl⟩
    rw[← hgp,← hw8];have hb8:Below w7.heap.size w7 w8:=by rw[hw8];exact below_new _ _
    have hbp:Blk w8 gp 125 #[.nilFunc]:=by rw[hw8,hgp];exact Blk.new _ _ _
    have q8:=hbp.cell_ 0 .nilFunc rfl;have f8:=hbp.frozen 0;have hb9:Below w7.heap.size w7 (w8.setCell ⟨gp,0,none⟩ (.func (.func 113) #[] #[.pointer (some ⟨gin,0,none⟩),.pointer (some ⟨gb,0,none⟩),.pointer (some ⟨gr,0,none⟩),.pointer (some ⟨gF,0,none⟩),.pointer (some ⟨gX,0,none⟩),.pointer (some ⟨gc,0,none⟩),.pointer (some ⟨gp,0,none⟩),.pointer (some ⟨gu,0,none⟩),.pointer (some ⟨gt,0,none⟩)])):=hb8.setCell (p:=⟨gp,0,none⟩) (by rw[hgp];exact Nat.le_refl _) _;have hbp9:=hbp.set_ 0 (.func (.func 113) #[] #[.pointer (some ⟨gin,0,none⟩),.pointer (some ⟨gb,0,none⟩),.pointer (some ⟨gr,0,none⟩),.pointer (some ⟨gF,0,none⟩),.pointer (some ⟨gX,0,none⟩),.pointer (some ⟨gc,0,none⟩),.pointer (some ⟨gp,0,none⟩),.pointer (some ⟨gu,0,none⟩),.pointer (some ⟨gt,0,none⟩)]);have HBP9:=hid hbp9;have HM9:=hid (HM7.out.ext hb9);have HBU9:=hid (mv HBU7.out hb9);have ho9:OwnBl (w8.setCell ⟨gp,0,none⟩ (.func (.func 113) #[] #[.pointer (some ⟨gin,0,none⟩),.pointer (some ⟨gb,0,none⟩),.pointer (some ⟨gr,0,none⟩),.pointer (some ⟨gF,0,none⟩),.pointer (some ⟨gX,0,none⟩),.pointer (some ⟨gc,0,none⟩),.pointer (some ⟨gp,0,none⟩),.pointer (some ⟨gu,0,none⟩),.pointer (some ⟨gt,0,none⟩)])) w.heap.size (.slice (some ⟨ub,0,none⟩) inn.length inn.length) (List.replicate inn.length false):=own_below HO7.out hb9;have HO9:=hid ho9;have HN8:Hid (gu < gp):=hid (by rw[hgp];exact HN7.out.2);clear hgp hw8 hb8 hbp hb9 hbp9 ho9 HO7 HM7 HBU7;go_upto_region 10 with fail
    clear q8 f8;obtain⟨w9,hw9⟩:∃ W,W=w8.setCell ⟨gp,0,none⟩ (.func (.func 113) #[] #[.pointer (some ⟨gin,0,none⟩),.pointer (some ⟨gb,0,none⟩),.pointer (some ⟨gr,0,none⟩),.pointer (some ⟨gF,0,none⟩),.pointer (some ⟨gX,0,none⟩),.pointer (some ⟨gc,0,none⟩),.pointer (some ⟨gp,0,none⟩),.pointer (some ⟨gu,0,none⟩),.pointer (some ⟨gt,0,none⟩)]):=⟨_,rfl⟩
    rw[← hw9] at HBP9 HM9 HBU9 HO9 ⊢;clear hw9;have hpls:PlS w gin gb gr gF gX gc gp gu gt g ub (some ⟨ib,io,none⟩) ic inn (some ⟨zb,zo,none⟩) zc ins out (cn:Int) hA vA rA hc vc rc t b' (List.replicate inn.length false) (0,false) w9:=
     ⟨HM9.out.p5.low,HM9.out.p5.bi,HM9.out.bb,HM9.out.p5.br,HM9.out.bc,HBP9.out,HBU9.out,HM9.out.p5.bt,HM9.out.p5.bf,HM9.out.p5.bx,HM9.out.bd,HO9.out⟩
    have hpld:PlD w.heap.size gin gb gr gF gX gc gp gu gt g ub:=by
     have n0:=HN0.out;have n2:=HN2.out;have n3:=HN3.out;have n4:=HN4.out;have n6:=HN6.out;have n7:=HN7.out;have n8:=HN8.out;refine⟨fun x hx=>?_,fun x hx=>?_,?_⟩
     ·rcases hx with e | e | e | e <;> omega
     ·rcases hx with e | e | e | e <;> omega
     ·omega
    have hcall:=place_any w gin gb gr gF gX gc gp gu gt g ub (some ⟨ib,io,none⟩) ic inn (some ⟨zb,zo,none⟩) zc ins out (cn:Int) hA vA rA hc vc rc t hpld HST.out HR.out.rz HR.out.ri HR.out.vrs HR.out.v40 HLL.out HN25.out HR.out.ez HR.out.eo inn.length b' (List.replicate inn.length false) (0,false) w9 (Nat.le_refl _) (by simp) HNG.out hpls;rw[← HVS.out,Nat.sub_self,← HRS.out] at hcall;have HCALL:=hid hcall;have y7:=HBP9.out.cell_ 0 _ rfl;clear hpls hpld hcall;go_wp2_with (go_at_call 113;refine HCALL.out.mono ?_;rintro e w10 ⟨rfl,hp10,hk10⟩;refine Hid.out ?_);refine hid ?_;have HP10:=hid hp10;clear hp10 hk10 y7 HCALL HM9 HBU9 HO9 HBP9;have z6:=HP10.out.bx.cell_ 0 (.int .i64 res.1) rfl;have z7:=HP10.out.bf.cell_ 0 (.bool res.2) rfl;have f6:=HP10.out.bx.frozen 0;have f7:=HP10.out.bf.frozen 0;have hfx:gX < gF:=by have:=HN0.out;omega
    go_upto_region 11 with fail
    go_region
    clear z6 z7 f6 f7;go_wp2;have hfx2:gF≠gX:=by omega
    have hbx:=((HP10.out.bx.set_ 0 (.int .i64 res.1)).far (p:=⟨gF,0,none⟩) hfx2.symm (.bool res.2)).drew;have hbf:=((HP10.out.bf.far (p:=⟨gX,0,none⟩) hfx2 (.int .i64 res.1)).set_ 0 (.bool res.2)).drew;have hlo:Below w.heap.size w (((w10.setCell ⟨gX,0,none⟩ (.int .i64 res.1)).setCell ⟨gF,0,none⟩ (.bool res.2)).drew):=((HP10.out.low.setCell (p:=⟨gX,0,none⟩) (by have:=HN0.out;show w.heap.size≤gX;omega) _).setCell (p:=⟨gF,0,none⟩) (by have:=HN0.out;show w.heap.size≤gF;omega) _).drew;(try simp only[Exit.inBlock,Exit.then]);refine bodyPost_ret (results_cc rfl _ rfl rfl Tryz.underlying3 rfl Tryz.underlying4 rfl (hbx.cell_ 0 (.int .i64 res.1) rfl) (hbf.cell_ 0 (.bool res.2) rfl)) rfl ?_;exact⟨rfl,hlo⟩
 ·have d0:decide (0≤c)=false:=decide_eq_false h0;have HRS:Hid (res=placeP vars ins out inn c inn.length negL (List.replicate inn.length false) (0,false)):=hid (by
   rw[HRES.out];unfold permutedP;rw[← HC.out,if_neg h0])
  clear h0;go_upto_region 7 with fail
  clear x8 d0;obtain⟨i0,hi0,hz0,hz1,hz2⟩:=info_parts Tryz.infoBool;have hmw:w4.heap.size≤w4.heap.size:=Nat.le_refl _;have hn25:=HN25.out;have x5:=HM4.out.p5.bi.cell_ 0 (.slice iA inn.length ic) rfl;go_wp2_with (at_make;refine wpList_make_full _ rfl _ _ 124 rfl w4.heap.size 4 i0 _ 1 Tryz.underlying124 hi0 hz0 hz1 .i64 .i64 inn.length inn.length inn.length rfl rfl rfl rfl (by rw[hz2];omega) (by unfold maxLen;omega) hmw ?_);intro w6 ho6 hg6;have hsz6:w4.heap.size < w6.heap.size:=(own_lt' ho6 rfl).1;rw[toList_madeCells_one] at ho6;have hb6:Below w4.heap.size w4 w6:=(Below.refl _ w4).grown hg6 (Nat.le_refl _) (by intro k hk;cases hk);obtain⟨ub,hub⟩:∃ g,g=w4.heap.size:=⟨_,rfl⟩
  rw[← hub] at ho6 hsz6;clear hg6 hi0 hz0 hz1 hz2 hmw x5 hn25;have ho6':OwnBl w6 w.heap.size (.slice (some ⟨ub,0,none⟩) inn.length inn.length) (List.replicate inn.length false):=by
   unfold OwnBl;rw[List.length_replicate,List.map_replicate];exact own_weak ho6 (by rw[hub];exact HM4.out.p5.low.size)
  have HO6:=hid ho6';have HM6:=hid (HM4.out.ext hb6);have HN6:Hid (gb < ub∧ub < w6.heap.size):=hid ⟨by rw[hub];exact HM4.out.bb.lt,hsz6⟩;go_upto_region 8 with fail
  rw[← hub];clear hub ho6 ho6' hb6 hsz6;obtain⟨gu,hgu⟩:∃ g,g=w6.heap.size:=⟨_,rfl⟩
  obtain⟨w7,hw7⟩:∃ W,W=w6.alloc (.cells #[.slice (some ⟨ub,0,none⟩) inn.length inn.length] 124):=⟨_,rfl⟩
  rw[← hgu,← hw7];have hb7:Below w6.heap.size w6 w7:=by rw[hw7];exact below_new _ _
  have hbu:Blk w7 gu 124 #[.slice (some ⟨ub,0,none⟩) inn.length inn.length]:=by rw[hw7,hgu];exact Blk.new _ _ _
  have HBU7:=hid hbu;have HM7:=hid (HM6.out.ext hb7);have ho7:OwnBl w7 w.heap.size (.slice (some ⟨ub,0,none⟩) inn.length inn.length) (List.replicate inn.length false):=own_below HO6.out hb7;have HO7:=hid ho7;have HN7:Hid (ub < gu∧gu < w7.heap.size):=hid ⟨by rw[hgu];exact HN6.out.2,hbu.lt⟩;clear hgu hw7 hb7 hbu ho7 HO6 HM6;go_upto_region 9 with fail
  obtain⟨gp,hgp⟩:∃ g,g=w7.heap.size:=⟨_,rfl⟩
  obtain⟨w8,hw8⟩:∃ W,W=w7.alloc (.cells #[.nilFunc] 125):=⟨_,rfl⟩
  rw[← hgp,← hw8];have hb8:Below w7.heap.size w7 w8:=by rw[hw8];exact below_new _ _
  have hbp:Blk w8 gp 125 #[.nilFunc]:=by rw[hw8,hgp];exact Blk.new _ _ _
  have q8:=hbp.cell_ 0 .nilFunc rfl;have f8:=hbp.frozen 0;have hb9:Below w7.heap.size w7 (w8.setCell ⟨gp,0,none⟩ (.func (.func 113) #[] #[.pointer (some ⟨gin,0,none⟩),.pointer (some ⟨gb,0,none⟩),.pointer (some ⟨gr,0,none⟩),.pointer (some ⟨gF,0,none⟩),.pointer (some ⟨gX,0,none⟩),.pointer (some ⟨gc,0,none⟩),.pointer (some ⟨gp,0,none⟩),.pointer (some ⟨gu,0,none⟩),.pointer (some ⟨gt,0,none⟩)])):=hb8.setCell (p:=⟨gp,0,none⟩) (by rw[hgp];exact Nat.le_refl _) _;have hbp9:=hbp.set_ 0 (.func (.func 113) #[] #[.pointer (some ⟨gin,0,none⟩),.pointer (some ⟨gb,0,none⟩),.pointer (some ⟨gr,0,none⟩),.pointer (some ⟨gF,0,none⟩),.pointer (some ⟨gX,0,none⟩),.pointer (some ⟨gc,0,none⟩),.pointer (some ⟨gp,0,none⟩),.pointer (some ⟨gu,0,none⟩),.pointer (some ⟨gt,0,none⟩)]);have HBP9:=hid hbp9;have HM9:=hid (HM7.out.ext hb9);have HBU9:=hid (mv HBU7.out hb9);have ho9:OwnBl (w8.setCell ⟨gp,0,none⟩ (.func (.func 113) #[] #[.pointer (some ⟨gin,0,none⟩),.pointer (some ⟨gb,0,none⟩),.pointer (some ⟨gr,0,none⟩),.pointer (some ⟨gF,0,none⟩),.pointer (some ⟨gX,0,none⟩),.pointer (some ⟨gc,0,none⟩),.pointer (some ⟨gp,0,none⟩),.pointer (some ⟨gu,0,none⟩),.pointer (some ⟨gt,0,none⟩)])) w.heap.size (.slice (some ⟨ub,0,none⟩) inn.length inn.length) (List.replicate inn.length false):=own_below HO7.out hb9;have HO9:=hid ho9;have HN8:Hid (gu < gp):=hid (by rw[hgp];exact HN7.out.2);clear hgp hw8 hb8 hbp hb9 hbp9 ho9 HO7 HM7 HBU7;go_upto_region 10 with fail
  clear q8 f8;obtain⟨w9,hw9⟩:∃ W,W=w8.setCell ⟨gp,0,none⟩ (.func (.func 113) #[] #[.pointer (some ⟨gin,0,none⟩),.pointer (some ⟨gb,0,none⟩),.pointer (some ⟨gr,0,none⟩),.pointer (some ⟨gF,0,none⟩),.pointer (some ⟨gX,0,none⟩),.pointer (some ⟨gc,0,none⟩),.pointer (some ⟨gp,0,none⟩),.pointer (some ⟨gu,0,none⟩),.pointer (some ⟨gt,0,none⟩)]):=⟨_,rfl⟩
  rw[← hw9] at HBP9 HM9 HBU9 HO9 ⊢;clear hw9;have hpls:PlS w gin gb gr gF gX gc gp gu gt g ub iA ic inn zA zc ins out c hA vA rA hc vc rc t negL (List.replicate inn.length false) (0,false) w9:=
   ⟨HM9.out.p5.low,HM9.out.p5.bi,HM9.out.bb,HM9.out.p5.br,HM9.out.bc,HBP9.out,HBU9.out,HM9.out.p5.bt,HM9.out.p5.bf,HM9.out.p5.bx,HM9.out.bd,HO9.out⟩
  have hpld:PlD w.heap.size gin gb gr gF gX gc gp gu gt g ub:=by
   have n0:=HN0.out;have n2:=HN2.out;have n3:=HN3.out;have n4:=HN4.out;have n6:=HN6.out;have n7:=HN7.out;have n8:=HN8.out;refine⟨fun x hx=>?_,fun x hx=>?_,?_⟩
   ·rcases hx with e | e | e | e <;> omega
   ·rcases hx with e | e | e | e <;> omega
   ·omega
  have hcall:=place_any w gin gb gr gF gX gc gp gu gt g ub iA ic inn zA zc ins out c hA vA rA hc vc rc t hpld HST.out HR.out.rz HR.out.ri HR.out.vrs HR.out.v40 HLL.out HN25.out HR.out.ez HR.out.eo inn.length negL (List.replicate inn.length false) (0,false) w9 (Nat.le_refl _) (by simp) NegOr.neg hpls;rw[← HVS.out,Nat.sub_self,← HRS.out] at hcall;have HCALL:=hid hcall;have y7:=HBP9.out.cell_ 0 _ rfl;clear hpls hpld hcall;go_wp2_with (go_at_call 113;refine HCALL.out.mono ?_;rintro e w10 ⟨rfl,hp10,hk10⟩;refine Hid.out ?_);refine hid ?_;have HP10:=hid hp10;clear hp10 hk10 y7 HCALL HM9 HBU9 HO9 HBP9;have z6:=HP10.out.bx.cell_ 0 (.int .i64 res.1) rfl;have z7:=HP10.out.bf.cell_ 0 (.bool res.2) rfl;have f6:=HP10.out.bx.frozen 0;have f7:=HP10.out.bf.frozen 0;have hfx:gX < gF:=by have:=HN0.out;omega
  go_upto_region 11 with fail
  go_region
  clear z6 z7 f6 f7;go_wp2;have hfx2:gF≠gX:=by omega
  have hbx:=((HP10.out.bx.set_ 0 (.int .i64 res.1)).far (p:=⟨gF,0,none⟩) hfx2.symm (.bool res.2)).drew;have hbf:=((HP10.out.bf.far (p:=⟨gX,0,none⟩) hfx2 (.int .i64 res.1)).set_ 0 (.bool res.2)).drew;have hlo:Below w.heap.size w (((w10.setCell ⟨gX,0,none⟩ (.int .i64 res.1)).setCell ⟨gF,0,none⟩ (.bool res.2)).drew):=((HP10.out.low.setCell (p:=⟨gX,0,none⟩) (by have:=HN0.out;show w.heap.size≤gX;omega) _).setCell (p:=⟨gF,0,none⟩) (by have:=HN0.out;show w.heap.size≤gF;omega) _).drew;(try simp only[Exit.inBlock,Exit.then]);refine bodyPost_ret (results_cc rfl _ rfl rfl Tryz.underlying3 rfl Tryz.underlying4 rfl (hbx.cell_ 0 (.int .i64 res.1) rfl) (hbf.cell_ 0 (.bool res.2) rfl)) rfl ?_;exact⟨rfl,hlo⟩
end Go.Proofs.YtcmbdhopmncmnaaGreatDoor
namespace Go.Proofs.YtcmbdhopmncmnaaGreatDoor
set_option maxRecDepth 100000
set_option linter.unusedVariables false
set_option linter.unusedSimpArgs false
def rfitsP (vars:List (List Int))(bs:List Int)(e s:Int):Bool:=if 0≤e then e == s else decide (s ∈ vars.getD (-1 - e).toNat []) && (decide (bs.getD (-1 - e).toNat 0 < 0) || bs.getD (-1 - e).toNat 0 == s)
def rsetP (bs:List Int)(e s:Int):List Int:=if 0≤e then bs else bs.set (-1 - e).toNat s
def rbindAll (vars:List (List Int)):List Int→List Int→List Int→Option (List Int)
 | [],_,bs=>some bs
 | _ :: _,[],_=>none
 | e :: l,s :: r,bs=>if rfitsP vars bs e s=true then rbindAll vars l r (rsetP bs e s) else none
def exactP (vars:List (List Int))(ins:List Int)(out:Int)(inn:List Int):Int:=match rbindAll vars ins inn (List.replicate vars.length (-1)) with
 | some bs=>outP bs out
 | none=>-1
def leastP (a b:Int):Int:=if a < 0 then b else if b < 0 then a else min a b
def rturnTo (hood:List (Int × Int))(k:Int)(ins:List Int):Nat→List Int
 | 0=>List.replicate ins.length 0
 | m+1=>if 0≤idxF (symP k (hood.getD m (0,0))) 0 hood then (rturnTo hood k ins m).set (idxF (symP k (hood.getD m (0,0))) 0 hood).toNat (ins.getD m 0) else rturnTo hood k ins m
def rdecTo (hood:List (Int × Int))(vars:List (List Int))(ins:List Int)(out:Int)(inn:List Int):Nat→Int
 | 0=>-1
 | k+1=>leastP (rdecTo hood vars ins out inn k) (exactP vars (rturnTo hood (k:Int) ins ins.length) out inn)
def rpStep (vars:List (List Int))(out s:Int)(rest bs:List Int)(F:List Int→List Int→Int)(x:Int × Bool)(i:Nat):Int × Bool:=
 if x.2=true then x else if rfitsP vars bs (rest.getD i 0) s=false∨rest.getD i 0 ∈ rest.take i then x else
  (leastP x.1 (F (rest.eraseIdx i) (rsetP bs (rest.getD i 0) s)),decide (0≤leastP x.1 (F (rest.eraseIdx i) (rsetP bs (rest.getD i 0) s))) && decide (0≤out))
def rpermP (vars:List (List Int))(out:Int)(inn:List Int)(c:Int):Nat→List Int→List Int→Int
 | 0,_,bs=>outP bs out
 | L+1,rest,bs=>if ((inn.length - (L+1):Nat):Int)=c then rpermP vars out inn c L rest bs else
   ((List.range rest.length).foldl (rpStep vars out (inn.getD (inn.length - (L+1)) 0) rest bs (rpermP vars out inn c L)) (-1,false)).1
def toR (x:Int):Int × Bool:=if x < 0 then (0,false) else (x,true)
def rpermutedP (hood:List (Int × Int))(vars:List (List Int))(ins:List Int)(out:Int)(inn:List Int):Int:=
 if 0≤ctrP hood then
  (if rfitsP vars (List.replicate vars.length (-1)) (ins.getD (ctrP hood).toNat 0) (inn.getD (ctrP hood).toNat 0)=true then rpermP vars out inn (ctrP hood) inn.length (offC ins ins.length (ctrP hood)) (rsetP (List.replicate vars.length (-1)) (ins.getD (ctrP hood).toNat 0) (inn.getD (ctrP hood).toNat 0)) else -1)
 else rpermP vars out inn (ctrP hood) inn.length (offC ins ins.length (ctrP hood)) (List.replicate vars.length (-1))
def rdecideP (sym:Int)(hood:List (Int × Int))(vars:List (List Int))(ins:List Int)(out:Int)(inn:List Int):Int:=
 if sym=0 then exactP vars ins out inn else if sym=3 then rpermutedP hood vars ins out inn else rdecTo hood vars ins out inn (nSym sym)
structure RfN (N:Nat)(vars:List (List Int))(bs:List Int)(qs:List (Int × Int)):Prop where
 len:bs.length=N
 con:Con vars qs
 nn:∀ p ∈ qs,0≤p.2
 el:∀ p ∈ qs,-(N:Int)≤p.1
 at_:∀ v:Nat,v < N→(∃ p ∈ qs,p.1 = -1 - (v:Int)∧bs.getD v 0=p.2)∨((∀ p ∈ qs,p.1≠-1 - (v:Int))∧bs.getD v 0 = -1)
theorem RfN.neg {N:Nat}{vars:List (List Int)}:RfN N vars (List.replicate N (-1)) []:=⟨by simp,Con.nil,by simp,by simp,fun v hv=>.inr ⟨by simp,by
 rw[List.getD_eq_getElem?_getD,List.getElem?_replicate,if_pos hv];rfl⟩⟩
theorem rfit_step {N:Nat}{vars:List (List Int)}{bs:List Int}{qs:List (Int × Int)}(h:RfN N vars bs qs){e s:Int}(he:-(N:Int)≤e)(hs:0≤s) :
  (rfitsP vars bs e s=true ↔ Con vars ((e,s) :: qs))∧(rfitsP vars bs e s=true→RfN N vars (rsetP bs e s) ((e,s) :: qs)):=by
 have hfin:∀ b':List Int,Con vars ((e,s) :: qs)→b'.length=N→(∀ v:Nat,v < N→(∃ p ∈ (e,s) :: qs,p.1 = -1 - (v:Int)∧b'.getD v 0=p.2)∨((∀ p ∈ (e,s) :: qs,p.1≠-1 - (v:Int))∧b'.getD v 0 = -1))→RfN N vars b' ((e,s) :: qs):=fun b' hc hl ha=>
  ⟨hl,hc,fun p hp=>by rcases List.mem_cons.1 hp with rfl | hp;exact hs;exact h.nn p hp,fun p hp=>by rcases List.mem_cons.1 hp with rfl | hp;exact he;exact h.el p hp,ha⟩
 unfold rfitsP rsetP;by_cases h0:0≤e
 ·rw[if_pos h0,if_pos h0];have hiff:(e == s)=true ↔ Con vars ((e,s) :: qs):=by
   rw[beq_iff_eq];constructor
   ·rintro rfl;refine⟨fun p hp hp0=>?_,fun p hp hp0=>?_,fun p hp q hq hp0 hpq=>?_⟩
    ·rcases List.mem_cons.1 hp with rfl | hp
     ·rfl
     ·exact h.con.1 p hp hp0
    ·rcases List.mem_cons.1 hp with rfl | hp
     ·dsimp only at hp0;omega
     ·exact h.con.2.1 p hp hp0
    ·rcases List.mem_cons.1 hp with rfl | hp
     ·dsimp only at hp0;omega
     ·rcases List.mem_cons.1 hq with rfl | hq
      ·dsimp only at hpq;omega
      ·exact h.con.2.2 p hp q hq hp0 hpq
   ·intro hc;exact hc.1 (e,s) (by simp) h0
  refine⟨hiff,fun hk=>hfin bs (hiff.1 hk) h.len fun v hv=>?_⟩;rcases h.at_ v hv with ⟨p,hp,h1,h2⟩ | ⟨h1,h2⟩
  ·exact .inl ⟨p,List.mem_cons_of_mem _ hp,h1,h2⟩
  ·refine .inr ⟨fun p hp=>?_,h2⟩;rcases List.mem_cons.1 hp with rfl | hp
   ·dsimp only;omega
   ·exact h1 p hp
 ·rw[if_neg h0,if_neg h0];obtain⟨v,hv⟩:∃ v:Nat,-1 - e=(v:Int):=⟨(-1 - e).toNat,by omega⟩
  have hv':(-1 - e).toNat=v:=by omega
  have hev:e = -1 - (v:Int):=by omega
  have hvN:v < N:=by omega
  rw[hv'];have hset:Con vars ((e,s) :: qs)→RfN N vars (bs.set v s) ((e,s) :: qs):=fun hc=>hfin _ hc (by rw[List.length_set];exact h.len) fun u hu=>by
   by_cases huv:v=u
   ·subst huv;exact .inl ⟨(e,s),by simp,hev,getD_set_eq (by rw[h.len];exact hvN)⟩
   ·rw[getD_set_ne huv];rcases h.at_ u hu with ⟨q,hq,h3,h4⟩ | ⟨h3,h4⟩
    ·exact .inl ⟨q,List.mem_cons_of_mem _ hq,h3,h4⟩
    ·refine .inr ⟨fun q hq=>?_,h4⟩;rcases List.mem_cons.1 hq with rfl | hq
     ·dsimp only;omega
     ·exact h3 q hq
  have hiff:(decide (s ∈ vars.getD v []) && (decide (bs.getD v 0 < 0) || bs.getD v 0 == s))=true ↔ Con vars ((e,s) :: qs):=by
   rw[Bool.and_eq_true,Bool.or_eq_true,decide_eq_true_eq,decide_eq_true_eq,beq_iff_eq];rcases h.at_ v hvN with ⟨p,hp,p1,p2⟩ | ⟨hno,hm1⟩
   ·constructor
    ·rintro⟨-,h2⟩;have hp2:=h.nn p hp;have:p.2=s:=by
      rcases h2 with h2 | h2
      ·omega
      ·rw[← p2];exact h2
     subst this;have hin:(e,p.2) ∈ qs:=by
      have:(e,p.2)=p:=Prod.ext (by rw[hev,p1]) rfl;rw[this];exact hp
     exact h.con.sub fun q hq=>by
      rcases List.mem_cons.1 hq with rfl | hq
      ·exact hin
      ·exact hq
    ·intro hc;refine⟨?_,.inr ?_⟩
     ·have:=hc.2.1 (e,s) (by simp) (by dsimp only;omega);dsimp only at this;rwa [hv'] at this
     ·rw[p2];exact (hc.2.2 (e,s) (by simp) p (by simp[hp]) (by dsimp only;omega) (by dsimp only;rw[p1,hev])).symm
   ·constructor
    ·rintro⟨h1,-⟩;refine⟨fun p hp hp0=>?_,fun p hp hp0=>?_,fun p hp q hq hp0 hpq=>?_⟩
     ·rcases List.mem_cons.1 hp with rfl | hp
      ·dsimp only at hp0;omega
      ·exact h.con.1 p hp hp0
     ·rcases List.mem_cons.1 hp with rfl | hp
      ·dsimp only;rw[hv'];exact h1
      ·exact h.con.2.1 p hp hp0
     ·rcases List.mem_cons.1 hp with rfl | hp
      ·rcases List.mem_cons.1 hq with rfl | hq
       ·rfl
       ·exact absurd hpq.symm (by dsimp only;rw[hev];exact hno q hq)
      ·rcases List.mem_cons.1 hq with rfl | hq
       ·exact absurd hpq (by dsimp only;rw[hev];exact hno p hp)
       ·exact h.con.2.2 p hp q hq hp0 hpq
    ·intro hc;refine⟨?_,.inl (by omega)⟩;have:=hc.2.1 (e,s) (by simp) (by dsimp only;omega);dsimp only at this;rwa [hv'] at this
  exact⟨hiff,fun hk=>hset (hiff.1 hk)⟩
theorem RfN.val {N:Nat}{vars:List (List Int)}{bs:List Int}{qs:List (Int × Int)}(h:RfN N vars bs qs){out:Int}(ho:-(N:Int)≤out)(hm:out < 0→∃ p ∈ qs,p.1=out)(v:Int):valO out qs v ↔ v=outP bs out:=by
 unfold valO outP
 split
 ·exact Iff.rfl
 ·rename_i h0;obtain⟨u,hu⟩:∃ u:Nat,-1 - out=(u:Int):=⟨(-1 - out).toNat,by omega⟩
  have hu':(-1 - out).toNat=u:=by omega
  rw[hu'];obtain⟨p,hp,hpo⟩:=hm (by omega);have hg:bs.getD u 0=p.2:=by
   rcases h.at_ u (by omega) with ⟨q,hq,h3,h4⟩ | ⟨h3,-⟩
   ·rw[h4];exact h.con.2.2 q hq p hp (by omega) (by omega)
   ·exact absurd (show p.1 = -1 - (u:Int) by omega) (h3 p hp)
  rw[hg];constructor
  ·rintro⟨q,hq,h1,h2⟩;rw[h2];exact h.con.2.2 q hq p hp (by omega) (by omega)
  ·intro h1;exact⟨p,hp,hpo,h1⟩
theorem RfN.out_nn {N:Nat}{vars:List (List Int)}{bs:List Int}{qs:List (Int × Int)}(h:RfN N vars bs qs){out:Int}(ho:-(N:Int)≤out)(hm:out < 0→∃ p ∈ qs,p.1=out):0≤outP bs out:=by
 have hv:=(h.val ho hm (outP bs out)).2 rfl;unfold valO at hv
 split at hv
 ·rw[hv];assumption
 ·obtain⟨p,hp,-,e⟩:=hv;rw[e];exact h.nn p hp
def ET (vars:List (List Int))(ins:List Int)(out:Int)(inn:List Int)(v:Int):Prop:=Con vars (ins.zip inn)∧valO out (ins.zip inn) v
theorem Con.iff {vars:List (List Int)}{ps qs:List (Int × Int)}(h:∀ p,p ∈ ps ↔ p ∈ qs):Con vars ps ↔ Con vars qs:=⟨fun k=>k.sub fun p hp=>(h p).2 hp,fun k=>k.sub fun p hp=>(h p).1 hp⟩
theorem valO.iff {out v:Int}{ps qs:List (Int × Int)}(h:∀ p,p ∈ ps ↔ p ∈ qs):valO out ps v ↔ valO out qs v:=⟨fun k=>k.sub fun p hp=>(h p).1 hp,fun k=>k.sub fun p hp=>(h p).2 hp⟩
theorem rbind_law {N:Nat}{vars:List (List Int)}:∀ (ins inn bs:List Int)(qs:List (Int × Int)),RfN N vars bs qs→(∀ e ∈ ins,-(N:Int)≤e)→(∀ s ∈ inn,0≤s)→ins.length=inn.length→
  (∃ b',rbindAll vars ins inn bs=some b'∧∃ ps,(∀ p,p ∈ ps ↔ p ∈ ins.zip inn∨p ∈ qs)∧RfN N vars b' ps)∨(rbindAll vars ins inn bs=none∧¬ Con vars (ins.zip inn ++ qs))
 | [],inn,bs,qs,h,_,_,_=>.inl ⟨bs,rfl,qs,fun p=>by simp,h⟩
 | e :: l,[],_,_,_,_,_,hl=>by simp at hl
 | e :: l,s :: r,bs,qs,h,he,hs,hl=>by
  obtain⟨k1,k2⟩:=rfit_step h (he e (by simp)) (hs s (by simp));unfold rbindAll;by_cases hf:rfitsP vars bs e s=true
  ·rw[if_pos hf];rcases rbind_law l r _ _ (k2 hf) (fun x hx=>he x (by simp[hx])) (fun x hx=>hs x (by simp[hx])) (by simpa using hl) with ⟨b',h1,ps,h2,h3⟩ | ⟨h1,h2⟩
   ·refine .inl ⟨b',h1,ps,fun p=>?_,h3⟩;rw[h2 p,List.zip_cons_cons,List.mem_cons,List.mem_cons];constructor
    ·rintro (h | h | h)
     ·exact .inl (.inr h)
     ·exact .inl (.inl h)
     ·exact .inr h
    ·rintro ((h | h) | h)
     ·exact .inr (.inl h)
     ·exact .inl h
     ·exact .inr (.inr h)
   ·refine .inr ⟨h1,fun hc=>h2 (hc.sub fun p hp=>?_)⟩;rw[List.zip_cons_cons,List.cons_append];rcases List.mem_append.1 hp with hp | hp
    ·exact List.mem_cons_of_mem _ (List.mem_append_left _ hp)
    ·rcases List.mem_cons.1 hp with rfl | hp
     ·simp
     ·exact List.mem_cons_of_mem _ (List.mem_append_right _ hp)
  ·rw[if_neg hf];refine .inr ⟨rfl,fun hc=>hf (k1.2 (hc.sub fun p hp=>?_))⟩;rw[List.zip_cons_cons,List.cons_append];rcases List.mem_cons.1 hp with rfl | hp
   ·simp
   ·exact List.mem_cons_of_mem _ (List.mem_append_right _ hp)
theorem bind_law {vars:List (List Int)}:∀ (ins inn bs:List Int)(qs:List (Int × Int)),Rf vars bs qs→(∀ e ∈ ins,-40≤e)→(∀ s ∈ inn,0≤s)→ins.length=inn.length→
  (∃ b',bindAll vars ins inn bs=some b'∧∃ ps,(∀ p,p ∈ ps ↔ p ∈ ins.zip inn∨p ∈ qs)∧Rf vars b' ps)∨(bindAll vars ins inn bs=none∧¬ Con vars (ins.zip inn ++ qs))
 | [],inn,bs,qs,h,_,_,_=>.inl ⟨bs,rfl,qs,fun p=>by simp,h⟩
 | e :: l,[],_,_,_,_,_,hl=>by simp at hl
 | e :: l,s :: r,bs,qs,h,he,hs,hl=>by
  obtain⟨k1,k2⟩:=acc_step h (he e (by simp)) (hs s (by simp));unfold bindAll;by_cases hf:(acceptP vars bs e s).1=true
  ·rw[if_pos hf];rcases bind_law l r _ _ (k2 hf) (fun x hx=>he x (by simp[hx])) (fun x hx=>hs x (by simp[hx])) (by simpa using hl) with ⟨b',h1,ps,h2,h3⟩ | ⟨h1,h2⟩
   ·refine .inl ⟨b',h1,ps,fun p=>?_,h3⟩;rw[h2 p,List.zip_cons_cons,List.mem_cons,List.mem_cons];constructor
    ·rintro (h | h | h)
     ·exact .inl (.inr h)
     ·exact .inl (.inl h)
     ·exact .inr h
    ·rintro ((h | h) | h)
     ·exact .inr (.inl h)
     ·exact .inl h
     ·exact .inr (.inr h)
   ·refine .inr ⟨h1,fun hc=>h2 (hc.sub fun p hp=>?_)⟩;rw[List.zip_cons_cons,List.cons_append];rcases List.mem_append.1 hp with hp | hp
    ·exact List.mem_cons_of_mem _ (List.mem_append_left _ hp)
    ·rcases List.mem_cons.1 hp with rfl | hp
     ·simp
     ·exact List.mem_cons_of_mem _ (List.mem_append_right _ hp)
  ·rw[if_neg hf];refine .inr ⟨rfl,fun hc=>hf (k1.2 (hc.sub fun p hp=>?_))⟩;rw[List.zip_cons_cons,List.cons_append];rcases List.mem_cons.1 hp with rfl | hp
   ·simp
   ·exact List.mem_cons_of_mem _ (List.mem_append_right _ hp)
theorem mem_zip_fst {ins inn:List Int}(hl:ins.length=inn.length){e:Int}(h:e ∈ ins):∃ p ∈ ins.zip inn,p.1=e:=by
 obtain⟨i,hi,rfl⟩:=List.getElem_of_mem h;refine⟨(ins[i],inn[i]'(by omega)),?_,rfl⟩;rw[← List.getElem_zip (h:=by rw[List.length_zip];omega)];exact List.getElem_mem _
theorem IsMin.one {T:Int→Prop}{n:Int}(h:∀ v,T v ↔ v=n):IsMin T (n,true):=.inr ⟨rfl,(h n).2 rfl,fun v hv=>by rw[(h v).1 hv];exact Int.le_refl _⟩
theorem exact_min {vars:List (List Int)}{ins:List Int}{out:Int}{inn:List Int}(hn:∀ s ∈ inn,0≤s)(he:∀ e ∈ ins,-(vars.length:Int)≤e)(ho:-(vars.length:Int)≤out)(hm:out < 0→out ∈ ins)(hl:ins.length=inn.length):IsMin (ET vars ins out inn) (toR (exactP vars ins out inn)):=by
 unfold exactP;rcases rbind_law ins inn _ _ (RfN.neg (N:=vars.length) (vars:=vars)) he hn hl with ⟨b',h1,ps,h2,h3⟩ | ⟨h1,h2⟩
 ·rw[h1];dsimp only;have hps:∀ p,p ∈ ps ↔ p ∈ ins.zip inn:=fun p=>by rw[h2 p];simp
  have hmm:out < 0→∃ p ∈ ps,p.1=out:=fun h0=>by
   obtain⟨p,hp,e⟩:=mem_zip_fst hl (hm h0);exact⟨p,(hps p).2 hp,e⟩
  have hnn:=h3.out_nn ho hmm;unfold toR;rw[if_neg (by omega)];refine IsMin.one fun v=>?_;rw[← h3.val ho hmm v,valO.iff hps];exact⟨fun h=>h.2,fun h=>⟨(Con.iff hps).1 h3.con,h⟩⟩
 ·rw[h1];refine IsMin.none fun v hv=>h2 ?_;rw[List.append_nil];exact hv.1
theorem plain_min {vars:List (List Int)}{ins:List Int}{out:Int}{inn:List Int}(hn:∀ s ∈ inn,0≤s)(he:∀ e ∈ ins,-40≤e)(ho:-40≤out)(hm:out < 0→out ∈ ins)(hl:ins.length=inn.length):IsMin (ET vars ins out inn) (plainP vars ins out inn):=by
 rcases bind_law ins inn _ _ (Rf.neg (vars:=vars)) he hn hl with ⟨b',h1,ps,h2,h3⟩ | ⟨h1,h2⟩
 ·rw[plainP_some h1];have hps:∀ p,p ∈ ps ↔ p ∈ ins.zip inn:=fun p=>by rw[h2 p];simp
  have hmm:out < 0→∃ p ∈ ps,p.1=out:=fun h0=>by
   obtain⟨p,hp,e⟩:=mem_zip_fst hl (hm h0);exact⟨p,(hps p).2 hp,e⟩
  refine IsMin.one fun v=>?_;rw[← h3.val ho hmm v,valO.iff hps];exact⟨fun h=>h.2,fun h=>⟨(Con.iff hps).1 h3.con,h⟩⟩
 ·rw[plainP_none h1];refine IsMin.none fun v hv=>h2 ?_;rw[List.append_nil];exact hv.1
theorem toR_or {T U:Int→Prop}{a b:Int}(h:IsMin T (toR a))(k:IsMin U (toR b)):IsMin (fun v=>T v∨U v) (toR (leastP a b)):=by
 unfold toR leastP at *;by_cases ha:a < 0
 ·rw[if_pos ha] at h ⊢;rcases h with ⟨-,h⟩ | ⟨h,-,-⟩
  ·exact k.congr fun v=>⟨.inr,fun h'=>h'.resolve_left (h v)⟩
  ·cases h
 ·rw[if_neg ha] at h ⊢;rcases h with ⟨h,-⟩ | ⟨-,h2,h3⟩
  ·cases h
  ·by_cases hb:b < 0
   ·rw[if_pos hb] at k ⊢;rw[if_neg ha];rcases k with ⟨-,k⟩ | ⟨k,-,-⟩
    ·exact .inr ⟨rfl,.inl h2,fun v hv=>h3 v (hv.resolve_right (k v))⟩
    ·cases k
   ·rw[if_neg hb] at k ⊢;rcases k with ⟨k,-⟩ | ⟨-,k2,k3⟩
    ·cases k
    ·have hm:¬ min a b < 0:=by omega
     rw[if_neg hm];refine .inr ⟨rfl,?_,fun v hv=>?_⟩
     ·by_cases hab:a≤b
      ·rw[show min a b=a by omega];exact .inl h2
      ·rw[show min a b=b by omega];exact .inr k2
     ·dsimp only at *;rcases hv with hv | hv
      ·have:=h3 v hv;omega
      ·have:=k3 v hv;omega
theorem better_or {T U:Int→Prop}{r q:Int × Bool}(h:IsMin T r)(k:IsMin U q):IsMin (fun v=>T v∨U v) (if q.2=true then better r q.1 else r):=by
 rcases k with ⟨k1,k2⟩ | ⟨k1,k2,k3⟩
 ·rw[if_neg (by rw[k1];simp)];exact h.congr fun v=>⟨.inl,fun h'=>h'.resolve_right (k2 v)⟩
 ·rw[if_pos k1];have:=h.better q.1;rcases this with ⟨-,g⟩ | ⟨g1,g2,g3⟩
  ·exact absurd (.inr rfl) (g q.1)
  ·refine .inr ⟨g1,?_,fun v hv=>?_⟩
   ·rcases g2 with g2 | g2
    ·exact .inl g2
    ·rw[g2];exact .inr k2
   ·rcases hv with hv | hv
    ·exact g3 v (.inl hv)
    ·have h1:=g3 q.1 (.inr rfl);have h2:=k3 v hv;omega
theorem all_of {α:Type} [DecidableEq α]:∀ (l m:List α),l.Nodup→(∀ x ∈ l,x ∈ m)→m.length≤l.length→∀ y ∈ m,y ∈ l
 | [],m,_,_,h,y,hy=>by
  have:m=[]:=List.length_eq_zero_iff.1 (by simpa using h);rw[this] at hy;cases hy
 | x :: l,m,hn,hs,h,y,hy=>by
  obtain⟨hx,hn'⟩:=List.nodup_cons.1 hn;have hxm:=hs x (by simp);by_cases hyx:y=x
  ·simp[hyx]
  ·refine List.mem_cons_of_mem _ (all_of l (m.erase x) hn' (fun z hz=>?_) ?_ y ?_)
   ·exact (List.mem_erase_of_ne (by rintro rfl;exact hx hz)).2 (hs z (by simp[hz]))
   ·rw[List.length_erase_of_mem hxm];simp only[List.length_cons] at h;omega
   ·exact (List.mem_erase_of_ne hyx).2 hy
theorem symP_inj {k:Nat}(hk:k < 8){p q:Int × Int}(h:symP (k:Int) p=symP (k:Int) q):p=q:=by
 have hj:symJ (k:Int)=k:=by unfold symJ;omega
 unfold symP at h;rw[hj] at h;obtain⟨p1,p2⟩:=p;obtain⟨q1,q2⟩:=q;obtain rfl | rfl | rfl | rfl | rfl | rfl | rfl | rfl:k=0∨k=1∨k=2∨k=3∨k=4∨k=5∨k=6∨k=7:=by omega
 all_goals
  simp[matL] at h;rw[Prod.mk.injEq];omega
theorem idxF_get {ps:List (Int × Int)}{q:Int × Int}(h:q ∈ ps):∃ j,∃ hj:j < ps.length,idxF q 0 ps=(j:Int)∧ps[j]=q:=by
 have:∀ (l:List (Int × Int)) (k:Nat),q ∈ l→∃ j,∃ hj:j < l.length,idxF q k l=((k+j:Nat):Int)∧l[j]=q:=by
  intro l;induction l with
  | nil=>intro k h;cases h
  | cons x l ih=>
   intro k h;unfold idxF;by_cases hx:x=q
   ·rw[if_pos hx];exact⟨0,by simp,rfl,hx⟩
   ·rw[if_neg hx];obtain⟨j,hj,h1,h2⟩:=ih (k+1) ((List.mem_cons.1 h).resolve_left (fun e=>hx e.symm));exact⟨j+1,by simpa using hj,by rw[h1];congr 1;omega,by simpa using h2⟩
 obtain⟨j,hj,h1,h2⟩:=this ps 0 h;exact⟨j,hj,by rw[h1];simp,h2⟩
theorem rturn_len (hood:List (Int × Int))(k:Int)(ins:List Int):∀ m,(rturnTo hood k ins m).length=ins.length
 | 0=>by unfold rturnTo;simp
 | m+1=>by
  unfold rturnTo
  split
  ·rw[List.length_set];exact rturn_len hood k ins m
  ·exact rturn_len hood k ins m
theorem rturn_at {hood:List (Int × Int)}{k:Nat}(hk:k < 8)(hn:hood.Nodup)(hc:∀ q ∈ hood,symP (k:Int) q ∈ hood){ins:List Int}(hl:ins.length=hood.length):∀ m,m≤hood.length→∀ i (hi:i < m)(h:i < hood.length)(j:Nat),idxF (symP (k:Int) hood[i]) 0 hood=(j:Int)→(rturnTo hood (k:Int) ins m).getD j 0=ins.getD i 0
 | 0,_,i,hi,_,_,_=>absurd hi (Nat.not_lt_zero _)
 | m+1,hm,i,hi,h,j,hj=>by
  have hmg:hood.getD m (0,0)=hood[m]'(by omega):=by rw[List.getD_eq_getElem?_getD,List.getElem?_eq_getElem (by omega)];rfl
  obtain⟨jm,hjm,e1,e2⟩:=idxF_get (hc _ (List.getElem_mem (show m < hood.length by omega)));unfold rturnTo;rw[hmg,e1,if_pos (Int.natCast_nonneg jm),Int.toNat_natCast];by_cases him:i=m
  ·subst him;rw[e1] at hj;have:jm=j:=by omega
   subst this;exact getD_set_eq (by rw[rturn_len,hl];exact hjm)
  ·obtain⟨ji,hji,f1,f2⟩:=idxF_get (hc _ (List.getElem_mem h));rw[f1] at hj;have hjj:ji=j:=by omega
   subst hjj;have hne:jm≠ji:=by
    rintro rfl;have:=symP_inj hk (e2.symm.trans f2);exact him ((List.getElem_inj hn).1 this).symm
   rw[getD_set_ne hne];exact rturn_at hk hn hc hl m (by omega) i (by omega) h ji f1
theorem mem_zip_iff {a b:List Int}(hl:a.length=b.length){p:Int × Int}:p ∈ a.zip b ↔ ∃ i,i < a.length∧p=(a.getD i 0,b.getD i 0):=by
 constructor
 ·intro h;obtain⟨i,hi,rfl⟩:=List.getElem_of_mem h;rw[List.length_zip] at hi;refine⟨i,by omega,?_⟩;rw[List.getElem_zip,List.getD_eq_getElem?_getD,List.getElem?_eq_getElem (by omega),List.getD_eq_getElem?_getD,List.getElem?_eq_getElem (by omega)];rfl
 ·rintro⟨i,hi,rfl⟩;rw[List.getD_eq_getElem?_getD,List.getElem?_eq_getElem hi,List.getD_eq_getElem?_getD,List.getElem?_eq_getElem (by omega)];show (a[i],b[i]) ∈ _;rw[← List.getElem_zip (h:=by rw[List.length_zip];omega)];exact List.getElem_mem _
theorem turn_pairs {hood:List (Int × Int)}{k:Nat}(hk:k < 8)(hn:hood.Nodup)(hc:∀ q ∈ hood,symP (k:Int) q ∈ hood){ins inn:List Int}(hl:ins.length=hood.length)(hi:inn.length=hood.length)(p:Int × Int) :
  p ∈ ins.zip (turnedP hood (k:Int) inn) ↔ p ∈ (rturnTo hood (k:Int) ins ins.length).zip inn:=by
 have htl:(turnedP hood (k:Int) inn).length=hood.length:=by unfold turnedP;rw[List.length_map]
 have htg:∀ i (h:i < hood.length) (j:Nat),idxF (symP (k:Int) hood[i]) 0 hood=(j:Int)→(turnedP hood (k:Int) inn).getD i 0=inn.getD j 0:=fun i h j hj=>by
  unfold turnedP;rw[List.getD_eq_getElem?_getD,List.getElem?_map,List.getElem?_eq_getElem h,Option.map_some,hj,Int.toNat_natCast];rfl
 rw[mem_zip_iff (by rw[hl,htl]),mem_zip_iff (by rw[rturn_len,hl,hi]),rturn_len,hl];constructor
 ·rintro⟨i,h,rfl⟩;obtain⟨j,hj,e1,-⟩:=idxF_get (hc _ (List.getElem_mem h));exact⟨j,hj,by rw[htg i h j e1,rturn_at hk hn hc hl hood.length (Nat.le_refl _) i h h j e1]⟩
 ·rintro⟨j,hj,rfl⟩;have hmem:hood[j] ∈ hood.map (symP (k:Int)):=all_of _ hood (List.pairwise_map.2 (hn.imp fun h e=>h (symP_inj hk e))) (fun x hx=>by
   obtain⟨q,hq,rfl⟩:=List.mem_map.1 hx;exact hc q hq) (by rw[List.length_map];exact Nat.le_refl _) _ (List.getElem_mem hj)
  obtain⟨q,hq,e⟩:=List.mem_map.1 hmem;obtain⟨i,hi',rfl⟩:=List.getElem_of_mem hq;have e1:idxF (symP (k:Int) hood[i]) 0 hood=(j:Int):=by rw[e];exact idxF_at hn hj
  exact⟨i,hi',by rw[htg i hi' j e1,rturn_at hk hn hc hl hood.length (Nat.le_refl _) i hi' hi' j e1]⟩
theorem ET.turn {vars:List (List Int)}{hood:List (Int × Int)}{k:Nat}(hk:k < 8)(hn:hood.Nodup)(hc:∀ q ∈ hood,symP (k:Int) q ∈ hood){ins inn:List Int}{out:Int}(hl:ins.length=hood.length)(hi:inn.length=hood.length)(v:Int) :
  ET vars ins out (turnedP hood (k:Int) inn) v ↔ ET vars (rturnTo hood (k:Int) ins ins.length) out inn v:=by
 have h:=turn_pairs hk hn hc hl hi;unfold ET;rw[Con.iff h,valO.iff h]
theorem turned_nn {hood:List (Int × Int)}{k:Int}{inn:List Int}(h:∀ s ∈ inn,0≤s):∀ s ∈ turnedP hood k inn,0≤s:=fun s hs=>by
 unfold turnedP at hs;obtain⟨q,-,rfl⟩:=List.mem_map.1 hs;exact getD_mem_nn h _
theorem rturn_mem {hood:List (Int × Int)}{k:Nat}(hk:k < 8)(hn:hood.Nodup)(hc:∀ q ∈ hood,symP (k:Int) q ∈ hood){ins:List Int}(hl:ins.length=hood.length)(e:Int):e ∈ rturnTo hood (k:Int) ins ins.length ↔ e ∈ ins:=by
 have hp:=turn_pairs (inn:=List.replicate hood.length 0) hk hn hc hl (by simp);have htl:(turnedP hood (k:Int) (List.replicate hood.length 0)).length=hood.length:=by unfold turnedP;rw[List.length_map]
 constructor
 ·intro h;obtain⟨p,h1,h2⟩:=mem_zip_fst (inn:=List.replicate hood.length 0) (by rw[rturn_len,hl];simp) h;rw[← h2];exact (List.of_mem_zip (a:=p.1) (b:=p.2) ((hp p).2 h1)).1
 ·intro h;obtain⟨p,h1,h2⟩:=mem_zip_fst (inn:=turnedP hood (k:Int) (List.replicate hood.length 0)) (by rw[hl,htl]) h;rw[← h2];exact (List.of_mem_zip (a:=p.1) (b:=p.2) ((hp p).1 h1)).1
theorem decTo_min {vars:List (List Int)}{hood:List (Int × Int)}{ins inn:List Int}{out:Int}(hn:∀ s ∈ inn,0≤s)(he:∀ e ∈ ins,-40≤e)(ho:-40≤out)(hm:out < 0→out ∈ ins)(hl:ins.length=hood.length):∀ k:Nat,IsMin (fun v=>∃ j,j < k∧ET vars ins out (turnedP hood (j:Int) inn) v) (decTo hood vars ins out inn k)
 | 0=>IsMin.none fun v ⟨j,hj,_⟩=>absurd hj (Nat.not_lt_zero _)
 | k+1=>by
  have h1:=decTo_min (vars:=vars) (hood:=hood) hn he ho hm hl k;have h2:=plain_min (vars:=vars) (ins:=ins) (out:=out) (inn:=turnedP hood (k:Int) inn) (turned_nn hn) he ho hm (by unfold turnedP;rw[List.length_map];exact hl);have h3:=better_or h1 h2;unfold decTo;refine h3.congr fun v=>⟨fun h=>?_,fun ⟨j,hj,h⟩=>?_⟩
  ·rcases h with ⟨j,hj,h⟩ | h
   ·exact⟨j,by omega,h⟩
   ·exact⟨k,by omega,h⟩
  ·rcases Nat.lt_succ_iff_lt_or_eq.1 hj with hj | rfl
   ·exact .inl ⟨j,hj,h⟩
   ·exact .inr h
theorem rdecTo_min {vars:List (List Int)}{hood:List (Int × Int)}{ins inn:List Int}{out:Int}(hn:∀ s ∈ inn,0≤s)(he:∀ e ∈ ins,-(vars.length:Int)≤e)(ho:-(vars.length:Int)≤out)(hm:out < 0→out ∈ ins)(hl:ins.length=hood.length)(hi:inn.length=hood.length)(hd:hood.Nodup) :
  ∀ k:Nat,k≤8→(∀ j,j < k→∀ q ∈ hood,symP (j:Int) q ∈ hood)→IsMin (fun v=>∃ j,j < k∧ET vars ins out (turnedP hood (j:Int) inn) v) (toR (rdecTo hood vars ins out inn k))
 | 0,_,_=>by
  unfold rdecTo;exact IsMin.none fun v ⟨j,hj,_⟩=>absurd hj (Nat.not_lt_zero _)
 | k+1,hk,hc=>by
  have h1:=rdecTo_min (vars:=vars) (hood:=hood) hn he ho hm hl hi hd k (by omega) (fun j hj=>hc j (by omega));have hmem:=rturn_mem (k:=k) (by omega) hd (hc k (by omega)) hl;have h2:=exact_min (vars:=vars) (ins:=rturnTo hood (k:Int) ins ins.length) (out:=out) (inn:=inn) hn (fun e h=>he e ((hmem e).1 h)) ho (fun h=>(hmem out).2 (hm h)) (by rw[rturn_len,hl,hi]);have h3:=toR_or h1 h2;unfold rdecTo;refine h3.congr fun v=>⟨fun h=>?_,fun ⟨j,hj,h⟩=>?_⟩
  ·rcases h with ⟨j,hj,h⟩ | h
   ·exact⟨j,by omega,h⟩
   ·exact⟨k,by omega,(ET.turn (by omega) hd (hc k (by omega)) hl hi v).2 h⟩
  ·rcases Nat.lt_succ_iff_lt_or_eq.1 hj with hj | rfl
   ·exact .inl ⟨j,hj,h⟩
   ·exact .inr ((ET.turn (by omega) hd (hc j (by omega)) hl hi v).1 h)
end Go.Proofs.YtcmbdhopmncmnaaGreatDoor
