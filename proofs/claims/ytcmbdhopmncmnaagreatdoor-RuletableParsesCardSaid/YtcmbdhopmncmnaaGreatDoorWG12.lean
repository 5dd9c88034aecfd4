/-
  texts Line11 Lit11 Ffs11 Lns11 Pars11P: parts of the proof; conditions stand with each theorem.
-/
import Derived.Test.YtcmbdhopmncmnaaGreatDoorWG11
import Derived.Test.YtcmbdhopmncmnaaGreatDoorWG9
import Derived.Test.YtcmbdhopmncmnaaGreatDoorWG10
import Derived.Lib.IndexBytes
import Derived.Test.YtcmbdhopmncmnaaGreatDoorShelf
import Derived.Shelf.Strings.FieldsFuncAny
import Derived.RangeFuncLeaves
import Derived.TacticsInMore
import Derived.LoopIn
import Derived.LoopNIn
import Derived.OwnWalkIn
namespace Go.Proofs.YtcmbdhopmncmnaaGreatDoor
open Lib(hid)
open Go.RowKit Go.Maps
set_option maxRecDepth 100000
set_option linter.unusedVariables false
set_option linter.unusedSimpArgs false
def symsB:List ByteArray:=symsW.map fun l=>⟨l.toArray⟩
theorem symsB_eq:wdsB symsB=symsW:=by decide
def SymG (w:World):Prop:=Sts w (some ⟨0,0,none⟩) symsB
theorem wrap_s {n:Nat}(h:n≤1000000):wrap64 ((n:Int)+1)=(n:Int)+1:=by unfold wrap64;omega
theorem head_dec (n:Nat)(k:Nat):(n=k→(((n:Int)+1) == ((k:Int)+1))=true)∧(n≠k→(((n:Int)+1) == ((k:Int)+1))=false):=⟨fun h=>by rw[beq_iff_eq];omega,fun h=>beq_false_of_ne (by omega)⟩
theorem ne2_dec {a:Nat}:(a=2→(((a:Nat):Int) != 2)=false)∧(a≠2→(((a:Nat):Int) != 2)=true):=⟨fun h=>by rw[bne_eq_false_iff_eq];omega,fun h=>by rw[bne_iff_ne];omega⟩
theorem elems_head (a b:Nat)(t:TabL)(n:List Wd):∀ l,elemsW ⟨a,t,n⟩ l=elemsW ⟨b,t,n⟩ l
 | []=>rfl
 | w :: l=>by
  rw[elems_cons,elems_cons,elems_head a b t n l];rfl
theorem vbl_head (a b:Nat)(t:TabL)(n:List Wd)(W:List Wd):vblW ⟨a,t,n⟩ W=(⟨a,(vblW ⟨b,t,n⟩ W).1.t,(vblW ⟨b,t,n⟩ W).1.names⟩,(vblW ⟨b,t,n⟩ W).2):=by
 unfold vblW;dsimp only;by_cases h1:0 < t.rows.length
 ·simp only[if_pos h1]
 simp only[if_neg h1];by_cases h2:W.length < 3∨nameW (W.getD 1 [])=false
 ·simp only[if_pos h2]
 simp only[if_neg h2];by_cases h3:((W.drop 2).map numW).any (fun n=>decide (n < 0))=true
 ·simp only[if_pos h3]
 simp only[if_neg h3];by_cases h4:(placeW (W.getD 1 []) 0 n).isSome=true
 ·simp only[if_pos h4]
 simp only[if_neg h4];by_cases h5:((W.drop 2).map numW).any (fun n=>decide (t.st≤n))=true
 ·simp only[if_pos h5]
 simp only[if_neg h5];by_cases h6:ascW ((W.drop 2).map numW)=false
 ·simp only[if_pos h6]
 simp only[if_neg h6];by_cases h7:40≤t.vars.length
 ·simp only[if_pos h7]
 simp only[if_neg h7]
theorem row_head (a b:Nat)(t:TabL)(n:List Wd)(W:List Wd):rowW ⟨a,t,n⟩ W=(⟨a,(rowW ⟨b,t,n⟩ W).1.t,(rowW ⟨b,t,n⟩ W).1.names⟩,(rowW ⟨b,t,n⟩ W).2):=by
 unfold rowW;dsimp only;rw[elems_head a b t n];by_cases h1:W.length≠t.hood.length+2∨W.getD t.hood.length []≠arrowW
 ·simp only[if_pos h1]
 simp only[if_neg h1];obtain⟨q,hq⟩:∃ q,q=elemsW ⟨b,t,n⟩ (W.take t.hood.length ++ W.drop (t.hood.length+1)):=⟨_,rfl⟩
 rw[← hq];by_cases h2:q.2≠0
 ·simp only[if_pos h2]
 simp only[if_neg h2];by_cases h3:q.1.getD t.hood.length 0 < 0∧q.1.getD t.hood.length 0 ∉ q.1.take t.hood.length
 ·simp only[if_pos h3]
 simp only[if_neg h3];by_cases h4:400≤t.rows.length
 ·simp only[if_pos h4]
 simp only[if_neg h4]
def LinePost (O:Blks)(base gp M:Nat)(w:World)(res:PSt × Int)(e:Ending)(w':World):Prop:=
 e=.returned (.int .i64 res.2)∧Kept O w w'∧(res.2=0→∃ hA hc vv rv vs rs D,PrM (fun k=>O k∨(w.heap.size≤k∧k < w'.heap.size)) base gp M hA hc vv rv vs rs D res.1 w')
theorem LinePost.err {O:Blks}{base gp M:Nat}{w w':World}{x:PSt}{c:Int}(h:c≠0)(hk:Kept O w w'):LinePost O base gp M w (x,c) (.returned (.int .i64 c)) w':=⟨rfl,hk,fun h2=>absurd h2 h⟩
set_option maxHeartbeats 16000000 in
theorem line_big {O:Blks}{base gp M:Nat}{hA:Option Addr}{hc:Nat}{vv rv:Value}{vs:List Vh}{rs:List Rh}{D:DataW Unit}{hd:Nat}{t:TabL}{names:List Wd}(gw:Nat)(ws:List ByteArray)(w:World)(hP:PrM O base gp M hA hc vv rv vs rs D ⟨hd,t,names⟩ w)(hS:Sts w (some ⟨gw,0,none⟩) ws)(hgw:¬ O gw)(hw:∀ x ∈ ws,x.size≤2147483648)(hws:ws.length≤1000000)(hlen:ws≠[])(h40:vs.length≤40)(h400:rs.length≤400)(hH:t.hood.length≤1000)(hbase:base≤w.heap.size)(hG:GMat w)(hGO:∀ k,O k→1 < k)(hSG:SymG w)(hSO:∀ k,O k→0 < k)(hh:hd≤999999)(hcase:3≤hd) :
  Calls Tryz.prog 48 #[.pointer (some ⟨gp,0,none⟩),.slice (some ⟨gw,0,none⟩) ws.length ws.length] w (LinePost O base gp M w (stepW ⟨hd,t,names⟩ (wdsB ws))):=by
 have c6:=hP.blk.cell_ 6 (.int .i64 (hd:Int)) rfl;have f6:=hP.blk.frozen 6;have hwr:=wrap_s (Nat.le_succ_of_le hh);have k1:Kept (fun g=>g=gp) w (w.setCell ⟨gp,6,none⟩ (.int .i64 ((hd:Int)+1))):=(Kept.refl (fun g=>g=gp) w).setCell (p:=⟨gp,6,none⟩) (Or.inl rfl) _;have hP1:PrM O base gp M hA hc vv rv vs rs D ⟨hd+1,t,names⟩ (w.setCell ⟨gp,6,none⟩ (.int .i64 ((hd:Int)+1))):=hP.box (s':=⟨hd+1,t,names⟩) (hA':=hA) (hc':=hc) (by simp[parC]) rfl rfl rfl hP.hood hP.oh hP.hg;have hS1:=hS.kept k1 (fun ad e _ h=>hgw (by injection e with e;subst e;have h':gw=gp:=h;rw[h'];exact hP.og));have hSG1:SymG (w.setCell ⟨gp,6,none⟩ (.int .i64 ((hd:Int)+1))):=Sts.kept hSG k1 (fun ad e _ h=>by injection e with e;subst e;have h':0=gp:=h;have:=hSO _ hP.og;omega);have hG1:GMat (w.setCell ⟨gp,6,none⟩ (.int .i64 ((hd:Int)+1))):=⟨by simpa using hG.1,fun i hi=>(k1.cell (p:=⟨1,i,none⟩) hG.1 (fun h=>by have h':1=gp:=h;have:=hGO _ hP.og;omega)).trans (hG.2 i hi)⟩
 have hkO:Kept O w (w.setCell ⟨gp,6,none⟩ (.int .i64 ((hd:Int)+1))):=k1.mono (fun g _ e=>by rw[e];exact hP.og);obtain⟨w1,hw1⟩:∃ W,W=w.setCell ⟨gp,6,none⟩ (.int .i64 ((hd:Int)+1)):=⟨_,rfl⟩
 rw[← hw1] at hP1 hS1 hSG1 hG1 hkO;have hsz:w1.heap.size=w.heap.size:=by rw[hw1];simp
 have HP1:=hid hP1;have HS1:=hid hS1;have HSG:=hid hSG1;have HG:=hid hG1;have HKO:=hid hkO;have HSZ:=hid hsz;have HW:=hid hw;have HBD:=hid (And.intro h40 (And.intro h400 (And.intro hH (And.intro hbase (And.intro hws (And.intro hh hGO))))));have HW1:=hid hw1;have hwl:(wdsB ws).length=ws.length:=by unfold wdsB;rw[List.length_map]
 obtain⟨res,hres⟩:∃ r,r=stepW ⟨hd,t,names⟩ (wdsB ws):=⟨_,rfl⟩
 rw[← hres];have hpos:0 < ws.length:=by cases ws with
  | nil=>exact absurd rfl hlen
  | cons _ _=>exact Nat.succ_pos _
 obtain⟨gb,go,e1,-,cw0⟩:=hS1.at_ hpos;injection e1 with e1
 injection e1 with e1 e2
 subst e1 e2;have hg0:=wdsB_getD hpos;obtain⟨x0,hx0⟩:∃ z,z=ws[0]'hpos:=⟨_,rfl⟩
 rw[← hx0] at cw0 hg0;have h9:ws.length≤9223372036854775807:=hS.le;have c61:=hP1.blk.cell_ 6 (.int .i64 ((hd:Int)+1)) (by simp[parC]);clear k1 hP hP1 hS hS1 hgw hSG hSG1 hG hG1 hGO hSO hkO hw1 hsz hw h40 h400 hH hbase hws hlen hx0;have e1:(((hd:Int)+1) == 1)=false:=(head_dec hd 0).2 (by omega);have e2:(((hd:Int)+1) == 2)=false:=(head_dec hd 1).2 (by omega);have e3:(((hd:Int)+1) == 3)=false:=(head_dec hd 2).2 (by omega);have d0:(x0.toList == [118,97,114])=decide (x0.data.toList=varW):=str_eq x0 [118,97,114];unfold stepW at hres;dsimp only at hres;rw[if_neg (by omega),hg0] at hres;by_cases hv:x0.data.toList=varW
 ·rw[if_pos hv] at hres;rw[decide_eq_true hv] at d0;have HC:=hid (variable_any gw ws w1 HP1.out HS1.out HW.out HBD.out.2.2.2.2.1 HBD.out.1 (by rw[HSZ.out];exact HBD.out.2.2.2.1) (fun h=>by rw[h] at hpos;simp at hpos));rw[vbl_head (hd+1) hd] at HC;have HRES:=hid hres;clear hres hv hh hcase hwl hg0;go_enter Tryz.func48,Tryz.ntmps48;go_upto_region 3 with fail
  rw[← HW1.out];clear c6 f6 hwr;go_wp2_with (go_at_call 91;refine HC.out.mono ?_;rintro e w2 ⟨rfl,hk2,hz2⟩;refine Hid.out ?_);refine hid ?_;have HK2:=hid (HKO.out.trans hk2);have HZ2:=hid hz2;clear hk2 hz2 HC;go_wp2;go_ret;rw[HRES.out];refine⟨rfl,HK2.out,fun h=>?_⟩;obtain⟨vv',vs',D',hp⟩:=HZ2.out h;rw[HSZ.out] at hp;exact⟨_,_,_,_,_,_,_,hp⟩
 ·rw[if_neg hv] at hres;rw[decide_eq_false hv] at d0;have HC:=hid (row_any gw ws w1 HP1.out HS1.out HW.out HBD.out.2.2.2.2.1 HBD.out.1 HBD.out.2.1 HBD.out.2.2.1 (by rw[HSZ.out];exact HBD.out.2.2.2.1));rw[row_head (hd+1) hd] at HC;have HRES:=hid hres;clear hres hv hh hcase hwl hg0;go_enter Tryz.func48,Tryz.ntmps48;go_upto_region 3 with fail
  rw[← HW1.out];clear c6 f6 hwr;go_wp2_with (go_at_call 92;refine HC.out.mono ?_;rintro e w2 ⟨rfl,hk2,hz2⟩;refine Hid.out ?_);refine hid ?_;have HK2:=hid (HKO.out.trans hk2);have HZ2:=hid hz2;clear hk2 hz2 HC;go_wp2;go_ret;rw[HRES.out];refine⟨rfl,HK2.out,fun h=>?_⟩;obtain⟨rv',rs',hp⟩:=HZ2.out h;rw[HSZ.out] at hp;exact⟨_,_,_,_,_,_,_,hp⟩
set_option maxHeartbeats 16000000 in
theorem line_0 {O:Blks}{base gp M:Nat}{hA:Option Addr}{hc:Nat}{vv rv:Value}{vs:List Vh}{rs:List Rh}{D:DataW Unit}{hd:Nat}{t:TabL}{names:List Wd}(gw:Nat)(ws:List ByteArray)(w:World)(hP:PrM O base gp M hA hc vv rv vs rs D ⟨hd,t,names⟩ w)(hS:Sts w (some ⟨gw,0,none⟩) ws)(hgw:¬ O gw)(hw:∀ x ∈ ws,x.size≤2147483648)(hws:ws.length≤1000000)(hlen:ws≠[])(h40:vs.length≤40)(h400:rs.length≤400)(hH:t.hood.length≤1000)(hbase:base≤w.heap.size)(hG:GMat w)(hGO:∀ k,O k→1 < k)(hSG:SymG w)(hSO:∀ k,O k→0 < k)(hh:hd≤999999)(hcase:hd=0) :
  Calls Tryz.prog 48 #[.pointer (some ⟨gp,0,none⟩),.slice (some ⟨gw,0,none⟩) ws.length ws.length] w (LinePost O base gp M w (stepW ⟨hd,t,names⟩ (wdsB ws))):=by
 have c6:=hP.blk.cell_ 6 (.int .i64 (hd:Int)) rfl;have f6:=hP.blk.frozen 6;have hwr:=wrap_s (Nat.le_succ_of_le hh);have k1:Kept (fun g=>g=gp) w (w.setCell ⟨gp,6,none⟩ (.int .i64 ((hd:Int)+1))):=(Kept.refl (fun g=>g=gp) w).setCell (p:=⟨gp,6,none⟩) (Or.inl rfl) _;have hP1:PrM O base gp M hA hc vv rv vs rs D ⟨hd+1,t,names⟩ (w.setCell ⟨gp,6,none⟩ (.int .i64 ((hd:Int)+1))):=hP.box (s':=⟨hd+1,t,names⟩) (hA':=hA) (hc':=hc) (by simp[parC]) rfl rfl rfl hP.hood hP.oh hP.hg;have hS1:=hS.kept k1 (fun ad e _ h=>hgw (by injection e with e;subst e;have h':gw=gp:=h;rw[h'];exact hP.og));have hSG1:SymG (w.setCell ⟨gp,6,none⟩ (.int .i64 ((hd:Int)+1))):=Sts.kept hSG k1 (fun ad e _ h=>by injection e with e;subst e;have h':0=gp:=h;have:=hSO _ hP.og;omega);have hG1:GMat (w.setCell ⟨gp,6,none⟩ (.int .i64 ((hd:Int)+1))):=⟨by simpa using hG.1,fun i hi=>(k1.cell (p:=⟨1,i,none⟩) hG.1 (fun h=>by have h':1=gp:=h;have:=hGO _ hP.og;omega)).trans (hG.2 i hi)⟩
 have hkO:Kept O w (w.setCell ⟨gp,6,none⟩ (.int .i64 ((hd:Int)+1))):=k1.mono (fun g _ e=>by rw[e];exact hP.og);obtain⟨w1,hw1⟩:∃ W,W=w.setCell ⟨gp,6,none⟩ (.int .i64 ((hd:Int)+1)):=⟨_,rfl⟩
 rw[← hw1] at hP1 hS1 hSG1 hG1 hkO;have hsz:w1.heap.size=w.heap.size:=by rw[hw1];simp
 have HP1:=hid hP1;have HS1:=hid hS1;have HSG:=hid hSG1;have HG:=hid hG1;have HKO:=hid hkO;have HSZ:=hid hsz;have HW:=hid hw;have HBD:=hid (And.intro h40 (And.intro h400 (And.intro hH (And.intro hbase (And.intro hws (And.intro hh hGO))))));have HW1:=hid hw1;have hwl:(wdsB ws).length=ws.length:=by unfold wdsB;rw[List.length_map]
 obtain⟨res,hres⟩:∃ r,r=stepW ⟨hd,t,names⟩ (wdsB ws):=⟨_,rfl⟩
 rw[← hres];have hpos:0 < ws.length:=by cases ws with
  | nil=>exact absurd rfl hlen
  | cons _ _=>exact Nat.succ_pos _
 obtain⟨gb,go,e1,-,cw0⟩:=hS1.at_ hpos;injection e1 with e1
 injection e1 with e1 e2
 subst e1 e2;have hg0:=wdsB_getD hpos;obtain⟨x0,hx0⟩:∃ z,z=ws[0]'hpos:=⟨_,rfl⟩
 rw[← hx0] at cw0 hg0;have h9:ws.length≤9223372036854775807:=hS.le;have c61:=hP1.blk.cell_ 6 (.int .i64 ((hd:Int)+1)) (by simp[parC]);clear k1 hP hP1 hS hS1 hgw hSG hSG1 hG hG1 hGO hSO hkO hw1 hsz hw h40 h400 hH hbase hws hlen hx0;have e1:(((hd:Int)+1) == 1)=true:=(head_dec hd 0).1 hcase;have d0:(x0.toList == [115,116,97,116,101,115])=decide (x0.data.toList=[115,116,97,116,101,115]):=str_eq x0 _;unfold stepW headW at hres;dsimp only at hres;rw[if_pos (by omega),hg0,hcase,hwl] at hres;rw[show headsW.getD 0 []=[115,116,97,116,101,115] from rfl] at hres;by_cases h2:ws.length=2
 ·have d2:=(ne2_dec (a:=ws.length)).1 h2;by_cases hx:x0.data.toList=[115,116,97,116,101,115]
  ·rw[decide_eq_true hx] at d0;rw[if_neg (by rintro (h | h);exact h h2;exact h hx),if_pos rfl] at hres;obtain⟨gb,go,e1',-,cw1⟩:=HS1.out.at_ (k:=1) (by omega);injection e1' with e1'
   injection e1' with e1' e2
   subst e1' e2;rw[wdsB_getD (show 1 < ws.length by omega)] at hres;obtain⟨x1,hx1⟩:∃ z,z=ws[1]'(by omega):=⟨_,rfl⟩
   have hxs:=HW.out _ (List.getElem_mem (show 1 < ws.length by omega));rw[← hx1] at cw1 hres hxs;have hl1:1 < ws.length:=by omega
   have HNUM:=hid (number_any x1 w1 hxs);obtain⟨z,hz⟩:∃ z,z=numW x1.data.toList:=⟨_,rfl⟩
   rw[← hz] at hres;have c0:=HP1.out.blk.cell_ 0 (.int .i64 t.st) rfl;have f0:=HP1.out.blk.frozen 0;clear hx1 hxs;by_cases hz0:z < 0
   ·have hv:numV x1.data.toList=(0,false):=by unfold numV;rw[← hz,if_pos hz0]
    rw[hv] at HNUM;rw[if_pos hz0] at hres;have HRES:=hid hres;clear hres hv hz hz0 hx h2 hh hcase hwl hg0;go_enter Tryz.func48,Tryz.ntmps48;go_upto_region 3 with fail
    rw[← HW1.out];clear c6 f6 hwr;go_wp2_with (go_at_call 89;refine HNUM.out.mono ?_;rintro e w' ⟨rfl,hw'⟩;have hw2:=hw'.symm;clear hw';subst hw2;refine Hid.out ?_);refine hid ?_;go_wp2;go_ret;rw[HRES.out];exact LinePost.err (by decide) HKO.out
   ·rw[if_neg hz0] at hres;have hv:numV x1.data.toList=(z,true):=numV_yes hz.symm (Int.not_lt.1 hz0);rw[hv] at HNUM;by_cases hr:z < 2∨8 < z
    ·rw[if_pos hr] at hres;have HRES:=hid hres;rcases hr with hr | hr
     ·clear hres hv hz hz0 hx h2 hh hcase hwl hg0;go_enter Tryz.func48,Tryz.ntmps48;go_upto_region 3 with fail
      rw[← HW1.out];clear c6 f6 hwr;go_wp2_with (go_at_call 89;refine HNUM.out.mono ?_;rintro e w' ⟨rfl,hw'⟩;have hw2:=hw'.symm;clear hw';subst hw2;refine Hid.out ?_);refine hid ?_;go_wp2;go_ret;rw[HRES.out];exact LinePost.err (by decide) HKO.out
     ·have hr2:¬ z < 2:=by omega
      clear hres hv hz hz0 hx h2 hh hcase hwl hg0;go_enter Tryz.func48,Tryz.ntmps48;go_upto_region 3 with fail
      rw[← HW1.out];clear c6 f6 hwr;go_wp2_with (go_at_call 89;refine HNUM.out.mono ?_;rintro e w' ⟨rfl,hw'⟩;have hw2:=hw'.symm;clear hw';subst hw2;refine Hid.out ?_);refine hid ?_;go_wp2;go_ret;rw[HRES.out];exact LinePost.err (by decide) HKO.out
    ·rw[if_neg hr] at hres;have hr1:2≤z:=by omega
     have hr2:z≤8:=by omega
     have HRES:=hid hres;have hpf:=HP1.out.box (s':=⟨1,⟨z,t.sym,t.hood,t.vars,t.rows⟩,names⟩) (k:=0) (u:=.int .i64 z) (hA':=hA) (hc':=hc) (by simp[parC,hcase]) rfl rfl rfl HP1.out.hood HP1.out.oh HP1.out.hg;have hkf:Kept O w (w1.setCell ⟨gp,0,none⟩ (.int .i64 z)):=HKO.out.setCell (p:=⟨gp,0,none⟩) (.inl HP1.out.og) _;have HPF:=hid hpf;have HKF:=hid hkf;clear hres hv hz hz0 hx h2 hh hcase hwl hg0 hr hpf hkf;go_enter Tryz.func48,Tryz.ntmps48;go_upto_region 3 with fail
     rw[← HW1.out];clear c6 f6 hwr;go_wp2_with (go_at_call 89;refine HNUM.out.mono ?_;rintro e w' ⟨rfl,hw'⟩;have hw2:=hw'.symm;clear hw';subst hw2;refine Hid.out ?_);refine hid ?_;go_wp2;go_ret;rw[HRES.out];exact⟨rfl,HKF.out,fun _=>⟨_,_,_,_,_,_,_,HPF.out.wide (fun k h=>.inl h) (fun k h=>h.elim (HPF.out.inO k) (fun h=>h.2))⟩⟩
  ·rw[decide_eq_false hx] at d0;rw[if_pos (.inr hx)] at hres;have HRES:=hid hres;clear hres hx h2 hh hcase hwl hg0;go_enter Tryz.func48,Tryz.ntmps48;go_upto_region 3 with fail
   rw[← HW1.out];clear c6 f6 hwr;go_wp2;go_ret;rw[HRES.out];exact LinePost.err (by decide) HKO.out
 ·have d2:=(ne2_dec (a:=ws.length)).2 h2;rw[if_pos (.inl h2)] at hres;have HRES:=hid hres;clear hres h2 hh hcase hwl hg0;go_enter Tryz.func48,Tryz.ntmps48;go_upto_region 3 with fail
  rw[← HW1.out];clear c6 f6 hwr;go_wp2;go_ret;rw[HRES.out];exact LinePost.err (by decide) HKO.out
set_option maxHeartbeats 16000000 in
theorem line_1 {O:Blks}{base gp M:Nat}{hA:Option Addr}{hc:Nat}{vv rv:Value}{vs:List Vh}{rs:List Rh}{D:DataW Unit}{hd:Nat}{t:TabL}{names:List Wd}(gw:Nat)(ws:List ByteArray)(w:World)(hP:PrM O base gp M hA hc vv rv vs rs D ⟨hd,t,names⟩ w)(hS:Sts w (some ⟨gw,0,none⟩) ws)(hgw:¬ O gw)(hw:∀ x ∈ ws,x.size≤2147483648)(hws:ws.length≤1000000)(hlen:ws≠[])(h40:vs.length≤40)(h400:rs.length≤400)(hH:t.hood.length≤1000)(hbase:base≤w.heap.size)(hG:GMat w)(hGO:∀ k,O k→1 < k)(hSG:SymG w)(hSO:∀ k,O k→0 < k)(hh:hd≤999999)(hcase:hd=1) :
  Calls Tryz.prog 48 #[.pointer (some ⟨gp,0,none⟩),.slice (some ⟨gw,0,none⟩) ws.length ws.length] w (LinePost O base gp M w (stepW ⟨hd,t,names⟩ (wdsB ws))):=by
 have c6:=hP.blk.cell_ 6 (.int .i64 (hd:Int)) rfl;have f6:=hP.blk.frozen 6;have hwr:=wrap_s (Nat.le_succ_of_le hh);have k1:Kept (fun g=>g=gp) w (w.setCell ⟨gp,6,none⟩ (.int .i64 ((hd:Int)+1))):=(Kept.refl (fun g=>g=gp) w).setCell (p:=⟨gp,6,none⟩) (Or.inl rfl) _;have hP1:PrM O base gp M hA hc vv rv vs rs D ⟨hd+1,t,names⟩ (w.setCell ⟨gp,6,none⟩ (.int .i64 ((hd:Int)+1))):=hP.box (s':=⟨hd+1,t,names⟩) (hA':=hA) (hc':=hc) (by simp[parC]) rfl rfl rfl hP.hood hP.oh hP.hg;have hS1:=hS.kept k1 (fun ad e _ h=>hgw (by injection e with e;subst e;have h':gw=gp:=h;rw[h'];exact hP.og));have hSG1:SymG (w.setCell ⟨gp,6,none⟩ (.int .i64 ((hd:Int)+1))):=Sts.kept hSG k1 (fun ad e _ h=>by injection e with e;subst e;have h':0=gp:=h;have:=hSO _ hP.og;omega);have hG1:GMat (w.setCell ⟨gp,6,none⟩ (.int .i64 ((hd:Int)+1))):=⟨by simpa using hG.1,fun i hi=>(k1.cell (p:=⟨1,i,none⟩) hG.1 (fun h=>by have h':1=gp:=h;have:=hGO _ hP.og;omega)).trans (hG.2 i hi)⟩
 have hkO:Kept O w (w.setCell ⟨gp,6,none⟩ (.int .i64 ((hd:Int)+1))):=k1.mono (fun g _ e=>by rw[e];exact hP.og);obtain⟨w1,hw1⟩:∃ W,W=w.setCell ⟨gp,6,none⟩ (.int .i64 ((hd:Int)+1)):=⟨_,rfl⟩
 rw[← hw1] at hP1 hS1 hSG1 hG1 hkO;have hsz:w1.heap.size=w.heap.size:=by rw[hw1];simp
 have HP1:=hid hP1;have HS1:=hid hS1;have HSG:=hid hSG1;have HG:=hid hG1;have HKO:=hid hkO;have HSZ:=hid hsz;have HW:=hid hw;have HBD:=hid (And.intro h40 (And.intro h400 (And.intro hH (And.intro hbase (And.intro hws (And.intro hh hGO))))));have HW1:=hid hw1;have hwl:(wdsB ws).length=ws.length:=by unfold wdsB;rw[List.length_map]
 obtain⟨res,hres⟩:∃ r,r=stepW ⟨hd,t,names⟩ (wdsB ws):=⟨_,rfl⟩
 rw[← hres];have hpos:0 < ws.length:=by cases ws with
  | nil=>exact absurd rfl hlen
  | cons _ _=>exact Nat.succ_pos _
 obtain⟨gb,go,e1,-,cw0⟩:=hS1.at_ hpos;injection e1 with e1
 injection e1 with e1 e2
 subst e1 e2;have hg0:=wdsB_getD hpos;obtain⟨x0,hx0⟩:∃ z,z=ws[0]'hpos:=⟨_,rfl⟩
 rw[← hx0] at cw0 hg0;have h9:ws.length≤9223372036854775807:=hS.le;have c61:=hP1.blk.cell_ 6 (.int .i64 ((hd:Int)+1)) (by simp[parC]);clear k1 hP hP1 hS hS1 hgw hSG hSG1 hG hG1 hGO hSO hkO hw1 hsz hw h40 h400 hH hbase hws hlen hx0;have qT:∀ (W:World) (a:Option Addr) (n c:Nat),(binOp .eql 22 (.slice a n c) (.slice none 0 0)).run Tryz.prog W=.ok (.bool a.isNone) W:=fun W a n c=>Lib.run_eql_slice_nil W _ _ a n c 0 0 Tryz.underlying22;have e1:(((hd:Int)+1) == 1)=false:=(head_dec hd 0).2 (by omega);have e2:(((hd:Int)+1) == 2)=true:=(head_dec hd 1).1 hcase;have d0:(x0.toList == [104,111,111,100])=decide (x0.data.toList=[104,111,111,100]):=str_eq x0 _;unfold stepW headW at hres;dsimp only at hres;rw[if_pos (by omega),hg0,hcase,hwl] at hres;rw[show headsW.getD 1 []=[104,111,111,100] from rfl] at hres;by_cases h2:ws.length=2
 ·have d2:=(ne2_dec (a:=ws.length)).1 h2;by_cases hx:x0.data.toList=[104,111,111,100]
  ·rw[decide_eq_true hx] at d0;rw[if_neg (by rintro (h | h);exact h h2;exact h hx),if_neg (by decide),if_pos rfl] at hres;obtain⟨gb,go,e1',-,cw1⟩:=HS1.out.at_ (k:=1) (by omega);injection e1' with e1'
   injection e1' with e1' e2'
   subst e1' e2';rw[wdsB_getD (show 1 < ws.length by omega)] at hres;obtain⟨x1,hx1⟩:∃ z,z=ws[1]'(by omega):=⟨_,rfl⟩
   rw[← hx1] at cw1 hres;have hl1:1 < ws.length:=by omega
   have HNAM:=hid (cnamed_any x1 w1);have hnl:namedL x1.data.toList=(match placeW x1.data.toList 0 hoodsW with | none=>[] | some k=>hoodsP.getD k []):=rfl;obtain⟨nl,hnl2⟩:∃ l,l=namedL x1.data.toList:=⟨_,rfl⟩
   rw[← hnl2] at HNAM hnl;have HH:Hid (∀ g,O g→g < w1.heap.size):=hid HP1.out.inO;clear hx1 hnl2;cases hpl:placeW x1.data.toList 0 hoodsW with
   | none=>
    rw[hpl] at hres hnl;dsimp only at hres hnl;subst hnl;have HRES:=hid hres;clear hres hx h2 hh hcase hwl hg0 hpl;go_enter Tryz.func48,Tryz.ntmps48;go_upto_region 3 with fail
    rw[← HW1.out];clear c6 f6 hwr;go_wp2_with (go_at_call 55;refine HNAM.out.mono ?_;rintro e w2 ⟨A,c,rfl,hp2,hn2,hb2,hz2⟩;obtain⟨rfl,rfl⟩:=hz2 rfl;have c2:=(HP1.out.ext hb2).blk.cell_ 2 (.slice hA t.hood.length hc) rfl;have f2:=(HP1.out.ext hb2).blk.frozen 2;have HB2:=hid hb2;clear hp2 hn2 hb2 hz2;refine Hid.out ?_);refine hid ?_;go_wp2;go_ret;rw[HRES.out];exact LinePost.err (by decide) (HKO.out.trans ((Kept.of_new O HB2.out).setCell (p:=⟨gp,2,none⟩) (.inl HP1.out.og) _))
   | some k=>
    rw[hpl] at hres hnl;dsimp only at hres hnl;rw[← hnl] at hres;have hk4:k < 4:=by have:=placeW_lt _ _ _ _ hpl;simpa [hoodsW] using this
    have hne:nl≠[]:=by
     rw[hnl];obtain rfl | rfl | rfl | rfl:k=0∨k=1∨k=2∨k=3:=by omega
     all_goals decide
    have hnp:0 < nl.length:=List.length_pos_iff.2 hne;have HRES:=hid hres;have HNP:=hid hnp;clear hres hx h2 hh hwl hg0 hpl hnl hk4 hne hnp;have HCASE:=hid hcase;clear hcase;go_enter Tryz.func48,Tryz.ntmps48;go_upto_region 3 with fail
    rw[← HW1.out];clear c6 f6 hwr;go_wp2_with (go_at_call 55;refine HNAM.out.mono ?_;rintro e w2 ⟨A,c,rfl,hp2,hn2,hb2,-⟩;obtain⟨ab,ao,eA,hab,-,-⟩:=hp2.at_ HNP.out;subst eA;have c2:=(HP1.out.ext hb2).blk.cell_ 2 (.slice hA t.hood.length hc) rfl;have f2:=(HP1.out.ext hb2).blk.frozen 2;have HB2:=hid hb2;have HP2:=hid hp2;have HN2:=hid (And.intro (hn2 _ rfl) hab);clear hp2 hn2 hb2 hab;refine Hid.out ?_);refine hid ?_;have hPw:=(HP1.out.ext HB2.out).wide (O':=fun k=>O k∨(w.heap.size≤k∧k < w2.heap.size)) (fun k h=>.inl h) (fun k h=>h.elim (fun h=>Nat.lt_of_lt_of_le (HH.out k h) HB2.out.size) (fun h=>h.2));have hnO:∀ k,O k→k≠ab:=fun k h e=>absurd (HH.out k h) (by rw[e];exact Nat.not_lt.2 HN2.out.1);have hpf:=hPw.box (s':=⟨2,⟨t.st,t.sym,nl,t.vars,t.rows⟩,names⟩) (k:=2) (u:=.slice (some ⟨ab,ao,none⟩) nl.length c) (hA':=some ⟨ab,ao,none⟩) (hc':=c) (by simp[parC,HCASE.out]) rfl rfl rfl HP2.out
     (fun ad e=>by injection e with e;subst e;exact .inr ⟨by rw[← HSZ.out];exact HN2.out.1,HN2.out.2⟩)
     (fun ad e=>by
      injection e with e
      subst e;exact⟨fun h=>hnO gp HP1.out.og h.symm,fun h=>hnO M HP1.out.om h.symm,fun h=>hnO ab (HP1.out.ov ab h) rfl,fun h=>hnO ab (HP1.out.orv ab h) rfl⟩)
    have hkf:Kept O w (w2.setCell ⟨gp,2,none⟩ (.slice (some ⟨ab,ao,none⟩) nl.length c)):=HKO.out.trans ((Kept.of_new O HB2.out).setCell (p:=⟨gp,2,none⟩) (.inl HP1.out.og) _);have HPF:=hid hpf;have HKF:=hid hkf;clear hPw hnO hpf hkf;go_wp2;go_ret;rw[HRES.out];exact⟨rfl,HKF.out,fun _=>⟨_,_,_,_,_,_,_,HPF.out.wide (fun k h=>h.imp id (fun h=>⟨h.1,by simpa using h.2⟩)) (fun k h=>h.elim (fun h=>HPF.out.inO k (.inl h)) (fun h=>h.2))⟩⟩
  ·rw[decide_eq_false hx] at d0;rw[if_pos (.inr hx)] at hres;have HRES:=hid hres;clear hres hx h2 hh hcase hwl hg0;go_enter Tryz.func48,Tryz.ntmps48;go_upto_region 3 with fail
   rw[← HW1.out];clear c6 f6 hwr;go_wp2;go_ret;rw[HRES.out];exact LinePost.err (by decide) HKO.out
 ·have d2:=(ne2_dec (a:=ws.length)).2 h2;rw[if_pos (.inl h2)] at hres;have HRES:=hid hres;clear hres h2 hh hcase hwl hg0;go_enter Tryz.func48,Tryz.ntmps48;go_upto_region 3 with fail
  rw[← HW1.out];clear c6 f6 hwr;go_wp2;go_ret;rw[HRES.out];exact LinePost.err (by decide) HKO.out
set_option maxHeartbeats 16000000 in
theorem line_2 {O:Blks}{base gp M:Nat}{hA:Option Addr}{hc:Nat}{vv rv:Value}{vs:List Vh}{rs:List Rh}{D:DataW Unit}{hd:Nat}{t:TabL}{names:List Wd}(gw:Nat)(ws:List ByteArray)(w:World)(hP:PrM O base gp M hA hc vv rv vs rs D ⟨hd,t,names⟩ w)(hS:Sts w (some ⟨gw,0,none⟩) ws)(hgw:¬ O gw)(hw:∀ x ∈ ws,x.size≤2147483648)(hws:ws.length≤1000000)(hlen:ws≠[])(h40:vs.length≤40)(h400:rs.length≤400)(hH:t.hood.length≤1000)(hbase:base≤w.heap.size)(hG:GMat w)(hGO:∀ k,O k→1 < k)(hSG:SymG w)(hSO:∀ k,O k→0 < k)(hh:hd≤999999)(hcase:hd=2) :
  Calls Tryz.prog 48 #[.pointer (some ⟨gp,0,none⟩),.slice (some ⟨gw,0,none⟩) ws.length ws.length] w (LinePost O base gp M w (stepW ⟨hd,t,names⟩ (wdsB ws))):=by
 have c6:=hP.blk.cell_ 6 (.int .i64 (hd:Int)) rfl;have f6:=hP.blk.frozen 6;have hwr:=wrap_s (Nat.le_succ_of_le hh);have k1:Kept (fun g=>g=gp) w (w.setCell ⟨gp,6,none⟩ (.int .i64 ((hd:Int)+1))):=(Kept.refl (fun g=>g=gp) w).setCell (p:=⟨gp,6,none⟩) (Or.inl rfl) _;have hP1:PrM O base gp M hA hc vv rv vs rs D ⟨hd+1,t,names⟩ (w.setCell ⟨gp,6,none⟩ (.int .i64 ((hd:Int)+1))):=hP.box (s':=⟨hd+1,t,names⟩) (hA':=hA) (hc':=hc) (by simp[parC]) rfl rfl rfl hP.hood hP.oh hP.hg;have hS1:=hS.kept k1 (fun ad e _ h=>hgw (by injection e with e;subst e;have h':gw=gp:=h;rw[h'];exact hP.og));have hSG1:SymG (w.setCell ⟨gp,6,none⟩ (.int .i64 ((hd:Int)+1))):=Sts.kept hSG k1 (fun ad e _ h=>by injection e with e;subst e;have h':0=gp:=h;have:=hSO _ hP.og;omega);have hG1:GMat (w.setCell ⟨gp,6,none⟩ (.int .i64 ((hd:Int)+1))):=⟨by simpa using hG.1,fun i hi=>(k1.cell (p:=⟨1,i,none⟩) hG.1 (fun h=>by have h':1=gp:=h;have:=hGO _ hP.og;omega)).trans (hG.2 i hi)⟩
 have hkO:Kept O w (w.setCell ⟨gp,6,none⟩ (.int .i64 ((hd:Int)+1))):=k1.mono (fun g _ e=>by rw[e];exact hP.og);obtain⟨w1,hw1⟩:∃ W,W=w.setCell ⟨gp,6,none⟩ (.int .i64 ((hd:Int)+1)):=⟨_,rfl⟩
 rw[← hw1] at hP1 hS1 hSG1 hG1 hkO;have hsz:w1.heap.size=w.heap.size:=by rw[hw1];simp
 have HP1:=hid hP1;have HS1:=hid hS1;have HSG:=hid hSG1;have HG:=hid hG1;have HKO:=hid hkO;have HSZ:=hid hsz;have HW:=hid hw;have HBD:=hid (And.intro h40 (And.intro h400 (And.intro hH (And.intro hbase (And.intro hws (And.intro hh hGO))))));have HW1:=hid hw1;have hwl:(wdsB ws).length=ws.length:=by unfold wdsB;rw[List.length_map]
 obtain⟨res,hres⟩:∃ r,r=stepW ⟨hd,t,names⟩ (wdsB ws):=⟨_,rfl⟩
 rw[← hres];have hpos:0 < ws.length:=by cases ws with
  | nil=>exact absurd rfl hlen
  | cons _ _=>exact Nat.succ_pos _
 obtain⟨gb,go,e1,-,cw0⟩:=hS1.at_ hpos;injection e1 with e1
 injection e1 with e1 e2
 subst e1 e2;have hg0:=wdsB_getD hpos;obtain⟨x0,hx0⟩:∃ z,z=ws[0]'hpos:=⟨_,rfl⟩
 rw[← hx0] at cw0 hg0;have h9:ws.length≤9223372036854775807:=hS.le;have c61:=hP1.blk.cell_ 6 (.int .i64 ((hd:Int)+1)) (by simp[parC]);clear k1 hP hP1 hS hS1 hgw hSG hSG1 hG hG1 hGO hSO hkO hw1 hsz hw h40 h400 hH hbase hws hlen hx0;have e1:(((hd:Int)+1) == 1)=false:=(head_dec hd 0).2 (by omega);have e2:(((hd:Int)+1) == 2)=false:=(head_dec hd 1).2 (by omega);have e3:(((hd:Int)+1) == 3)=true:=(head_dec hd 2).1 hcase;have d0:(x0.toList == [115,121,109,109,101,116,114,121])=decide (x0.data.toList=[115,121,109,109,101,116,114,121]):=str_eq x0 _;unfold stepW headW at hres;dsimp only at hres;rw[if_pos (by omega),hg0,hcase,hwl] at hres;rw[show headsW.getD 2 []=[115,121,109,109,101,116,114,121] from rfl] at hres;by_cases h2:ws.length=2
 ·have d2:=(ne2_dec (a:=ws.length)).1 h2;by_cases hx:x0.data.toList=[115,121,109,109,101,116,114,121]
  ·rw[decide_eq_true hx] at d0;rw[if_neg (by rintro (h | h);exact h h2;exact h hx),if_neg (by decide),if_neg (by decide)] at hres;obtain⟨gb,go,e1',-,cw1⟩:=HS1.out.at_ (k:=1) (by omega);injection e1' with e1'
   injection e1' with e1' e2'
   subst e1' e2';rw[wdsB_getD (show 1 < ws.length by omega)] at hres;obtain⟨x1,hx1⟩:∃ z,z=ws[1]'(by omega):=⟨_,rfl⟩
   rw[← hx1] at cw1 hres;have hl1:1 < ws.length:=by omega
   have hl1i:(1:Int) < (ws.length:Int):=by omega
   have hl1j:((0:Int)≤1):=by decide
   have HIX:Hid (∀ n,Calls Tryz.prog 90 #[.slice (some ⟨0,0,none⟩) 4 4,.string x1] (w1.drewN n) fun e w'=>e=.returned (.int .i64 (placeI x1.data.toList 0 symsW))∧w'=w1.drewN n):=hid (by
    intro n;have h:=sidx_any (some ⟨0,0,none⟩) symsB 4 x1 (w1.drewN n) (Sts.drewN HSG.out n);rw[symsB_eq] at h;exact h)
   have HPE:Hid (∀ n k,Calls Tryz.prog 28 #[.slice hA t.hood.length hc,.int .i64 k] (w1.drewN n) fun e w'=>e=.returned (.bool (permP t.hood k))∧Below w1.heap.size w1 w'):=hid (fun n k=>(permits_any hA t.hood hc k (w1.drewN n) (HP1.out.hood.drewN n) (HG.out.ext (below_drewN (Below.refl _ w1) n))).mono fun e w' h=>⟨h.1,(below_drewN (Below.refl _ w1) n).trans h.2⟩);have HH:Hid (∀ g,O g→g < w1.heap.size):=hid HP1.out.inO;clear hx1;cases hpl:placeW x1.data.toList 0 symsW with
   | none=>
    have hpi:placeI x1.data.toList 0 symsW = -1:=by unfold placeI;rw[hpl]
    rw[hpi] at HIX;rw[hpl] at hres;dsimp only at hres;have HRES:=hid hres;clear hres hx h2 hh hcase hwl hg0 hpl hpi;go_enter Tryz.func48,Tryz.ntmps48;go_upto_region 3 with fail
    rw[← HW1.out];clear c6 f6 hwr;go_wp2;go_quiet ((go_at_call 90;exact Calls.quiet_of ((HIX.out _).mono fun _ _ h=>⟨h.1,0,h.2⟩)))
    go_wp2;go_ret;rw[HRES.out];exact LinePost.err (by decide) (HKO.out.trans (Kept.of_new O (below_drewN (Below.refl _ w1) _)))
   | some k=>
    have hpi:placeI x1.data.toList 0 symsW=(k:Int):=by unfold placeI;rw[hpl]
    rw[hpi] at HIX;rw[hpl] at hres;dsimp only at hres;have hk0:decide ((k:Int) < 0)=false:=decide_eq_false (by omega);have c2:=HP1.out.blk.cell_ 2 (.slice hA t.hood.length hc) rfl;have HRES:=hid hres;clear hres hx h2 hh hwl hg0 hpl hpi;have HCASE:=hid hcase;clear hcase;go_enter Tryz.func48,Tryz.ntmps48;go_upto_region 3 with fail
    rw[← HW1.out];clear c6 f6 hwr;go_wp2;go_quiet ((go_at_call 90;exact Calls.quiet_of ((HIX.out _).mono fun _ _ h=>⟨h.1,0,h.2⟩)))
    cases hpv:permP t.hood (k:Int) with
    | false=>
     rw[if_pos hpv] at HRES;go_wp2_with (go_at_call 28;refine (HPE.out nq (k:Int)).mono ?_;rw[hpv];rintro e w2 ⟨rfl,hb2⟩;have HB2:=hid hb2;clear hb2;refine Hid.out ?_);refine hid ?_;go_wp2;go_ret;rw[HRES.out];exact LinePost.err (by decide) (HKO.out.trans (Kept.of_new O HB2.out))
    | true=>
     rw[if_neg (by rw[hpv];decide)] at HRES;go_wp2_with (go_at_call 28;refine (HPE.out nq (k:Int)).mono ?_;rw[hpv];rintro e w2 ⟨rfl,hb2⟩;have c1:=(HP1.out.ext hb2).blk.cell_ 1 (.int .i64 t.sym) rfl;have f1:=(HP1.out.ext hb2).blk.frozen 1;have HB2:=hid hb2;clear hb2;refine Hid.out ?_);refine hid ?_;have hPw:=(HP1.out.ext HB2.out).wide (O':=fun k=>O k∨(w.heap.size≤k∧k < w2.heap.size)) (fun k h=>.inl h) (fun k h=>h.elim (fun h=>Nat.lt_of_lt_of_le (HH.out k h) HB2.out.size) (fun h=>h.2));have hpf:=hPw.box (s':=⟨3,⟨t.st,(k:Int),t.hood,t.vars,t.rows⟩,names⟩) (k:=1) (u:=.int .i64 (k:Int)) (hA':=hA) (hc':=hc) (by simp[parC,HCASE.out]) rfl rfl rfl hPw.hood hPw.oh hPw.hg;have hkf:Kept O w (w2.setCell ⟨gp,1,none⟩ (.int .i64 (k:Int))):=HKO.out.trans ((Kept.of_new O HB2.out).setCell (p:=⟨gp,1,none⟩) (.inl HP1.out.og) _);have HPF:=hid hpf;have HKF:=hid hkf;clear hPw hpf hkf;go_wp2;go_ret;rw[HRES.out];exact⟨rfl,HKF.out,fun _=>⟨_,_,_,_,_,_,_,HPF.out.wide (fun k h=>h.imp id (fun h=>⟨h.1,by simpa using h.2⟩)) (fun k h=>h.elim (fun h=>HPF.out.inO k (.inl h)) (fun h=>h.2))⟩⟩
  ·rw[decide_eq_false hx] at d0;rw[if_pos (.inr hx)] at hres;have HRES:=hid hres;clear hres hx h2 hh hcase hwl hg0;go_enter Tryz.func48,Tryz.ntmps48;go_upto_region 3 with fail
   rw[← HW1.out];clear c6 f6 hwr;go_wp2;go_ret;rw[HRES.out];exact LinePost.err (by decide) HKO.out
 ·have d2:=(ne2_dec (a:=ws.length)).2 h2;rw[if_pos (.inl h2)] at hres;have HRES:=hid hres;clear hres h2 hh hcase hwl hg0;go_enter Tryz.func48,Tryz.ntmps48;go_upto_region 3 with fail
  rw[← HW1.out];clear c6 f6 hwr;go_wp2;go_ret;rw[HRES.out];exact LinePost.err (by decide) HKO.out
set_option maxHeartbeats 16000000 in
theorem pline_any {O:Blks}{base gp M:Nat}{hA:Option Addr}{hc:Nat}{vv rv:Value}{vs:List Vh}{rs:List Rh}{D:DataW Unit}{hd:Nat}{t:TabL}{names:List Wd}(gw:Nat)(ws:List ByteArray)(w:World)(hP:PrM O base gp M hA hc vv rv vs rs D ⟨hd,t,names⟩ w)(hS:Sts w (some ⟨gw,0,none⟩) ws)(hgw:¬ O gw)(hw:∀ x ∈ ws,x.size≤2147483648)(hws:ws.length≤1000000)(hlen:ws≠[])(h40:vs.length≤40)(h400:rs.length≤400)(hH:t.hood.length≤1000)(hbase:base≤w.heap.size)(hG:GMat w)(hGO:∀ k,O k→1 < k)(hSG:SymG w)(hSO:∀ k,O k→0 < k)(hh:hd≤999999) :
  Calls Tryz.prog 48 #[.pointer (some ⟨gp,0,none⟩),.slice (some ⟨gw,0,none⟩) ws.length ws.length] w (LinePost O base gp M w (stepW ⟨hd,t,names⟩ (wdsB ws))):=by
 by_cases h3:3≤hd
 ·exact line_big gw ws w hP hS hgw hw hws hlen h40 h400 hH hbase hG hGO hSG hSO hh h3
 ·obtain h | h | h:hd=0∨hd=1∨hd=2:=by omega
  ·exact line_0 gw ws w hP hS hgw hw hws hlen h40 h400 hH hbase hG hGO hSG hSO hh h
  ·exact line_1 gw ws w hP hS hgw hw hws hlen h40 h400 hH hbase hG hGO hSG hSO hh h
  ·exact line_2 gw ws w hP hS hgw hw hws hlen h40 h400 hH hbase hG hGO hSG hSO hh h
end Go.Proofs.YtcmbdhopmncmnaaGreatDoor
namespace Go.Proofs.YtcmbdhopmncmnaaGreatDoor
open Go.RowKit
set_option maxRecDepth 100000
set_option linter.unusedVariables false
set_option linter.unusedSimpArgs false
theorem Tryz.sizeTab:(Tryz.prog.info? 26).map (·.size)=some 5:=by kernel_rfl
def zeroTab:Array Value:=#[.int .i64 0,.int .i64 0,.slice none 0 0,.slice none 0 0,.slice none 0 0]
def hoodsB:List ByteArray:=[⟨#[109,111,111,114,101]⟩,⟨#[110,101,117,109,97,110,110]⟩,⟨#[104,101,120]⟩,⟨#[108,105,110,101]⟩]
theorem sts_lit (w:World)(bs:List ByteArray)(hl:bs.length≤maxLen:=by decide):Sts (w.alloc (.cells (bs.map Value.string).toArray 9)) (some ⟨w.heap.size,0,none⟩) bs:=by
 have h:=World.ownsRow_lit (base:=w.heap.size) (e:=9) (size:=1) w (bs.map Value.string).toArray bs.length (Nat.le_refl _) hl (by simp);have h2:OwnS 9 (w.alloc (.cells (bs.map Value.string).toArray 9)) w.heap.size (.slice (some ⟨w.heap.size,0,none⟩) bs.length bs.length) bs:=by unfold OwnS;simpa using h
 obtain⟨A,c,e,h3,-⟩:=h2.sts;injection e with e1 e2 e3
 subst e1;exact h3
theorem syms_at {k:Nat}(hk:k < 4):symsB[k]'hk=⟨(symsW.getD k []).toArray⟩:=by
 obtain rfl | rfl | rfl | rfl:k=0∨k=1∨k=2∨k=3:=by omega
 all_goals rfl
theorem hoodsB_at {k:Nat}(hk:k < hoodsB.length):hoodsB[k]=⟨(hoodsW.getD k []).toArray⟩∧hoodsB[k].data.toList=hoodsW.getD k []:=by
 have hk4:k < 4:=hk;obtain rfl | rfl | rfl | rfl:k=0∨k=1∨k=2∨k=3:=by omega
 all_goals exact⟨rfl,rfl⟩
end Go.Proofs.YtcmbdhopmncmnaaGreatDoor
namespace Go.Proofs.YtcmbdhopmncmnaaGreatDoor
open Go.RowKit Go.Shelf
set_option maxRecDepth 100000
set_option linter.unusedVariables false
set_option linter.unusedSimpArgs false
def ffRen:Go.Shelf.Ren:=⟨fun | 229=>87 | n=>n,fun | 9=>9 | 40=>108 | 31=>70 | 152=>128 | 3=>3 | 0=>0 | 4=>4 | 21=>21 | 154=>130 | n=>n,fun | n=>n⟩
theorem ffLays:Go.Proofs.Lays.n229 Tryz.prog ffRen:={
 mixed:=by kernel_rfl
 f229:=Tryz.func87.trans (congrArg some (by kernel_rfl))
 t0:=Tryz.underlying0
 a0:=Tryz.isAgg0
 z0:=Tryz.sizeOf0
 v0:=Tryz.zeroValue0
 t3:=Tryz.underlying3
 a3:=Tryz.isAgg3
 z3:=Tryz.sizeOf3
 v3:=Tryz.zeroValue3
 t4:=Tryz.underlying4
 a4:=Tryz.isAgg4
 z4:=Tryz.sizeOf4
 v4:=Tryz.zeroValue4
 t9:=Tryz.underlying9
 a9:=Tryz.isAgg9
 z9:=Tryz.sizeOf9
 v9:=Tryz.zeroValue9
 t21:=Tryz.underlying21
 a21:=Tryz.isAgg21
 z21:=Tryz.sizeOf21
 v21:=Tryz.zeroValue21
 t31:=Tryz.underlying70
 a31:=Tryz.isAgg70
 z31:=Tryz.sizeOf70
 v31:=Tryz.zeroValue70
 t40:=Tryz.underlying108
 a40:=Tryz.isAgg108
 z40:=Tryz.sizeOf108
 v40:=Tryz.zeroValue108
 t152:=Tryz.underlying128
 a152:=Tryz.isAgg128
 z152:=Tryz.sizeOf128
 v152:=Tryz.zeroValue128
 t154:=Tryz.underlying130
 a154:=Tryz.isAgg130
 z154:=Tryz.sizeOf130
 v154:=Tryz.zeroValue130 }
theorem infoSpan:(Tryz.prog.info? (ffRen.t 154)).map (fun i=>(i.zero,i.size,i.bytes))=some (some (.agg #[.int .i64 0,.int .i64 0]),2,16):=by kernel_rfl
theorem infoStr:(Tryz.prog.info? (ffRen.t 9)).map (fun i=>(i.zero,i.size,i.bytes))=some (some (.string ⟨#[]⟩),1,16):=by kernel_rfl
theorem sepR_int (x:Nat):sepR x=((x:Int) == 32 || (x:Int) == 9):=by
 unfold sepR
 congr 1
 ·rw[Bool.eq_iff_iff,beq_iff_eq,beq_iff_eq];omega
 ·rw[Bool.eq_iff_iff,beq_iff_eq,beq_iff_eq];omega
theorem sep_any (x:Nat)(w:World):Calls Tryz.prog 88 #[.int .i32 (x:Int)] w fun e w'=>e=.returned (.bool (sepR x))∧w'=w:=by
 rw[sepR_int];obtain⟨z,hz⟩:∃ z:Int,z=(x:Int):=⟨_,rfl⟩
 rw[← hz];clear hz;by_cases h1:z=32
 ·subst h1;go_enter Tryz.func88,Tryz.ntmps88;go_wp2;go_ret;exact⟨rfl,rfl⟩
 ·have e1:(z == 32)=false:=beq_eq_false_iff_ne.2 h1;by_cases h2:z=9
  ·subst h2;clear h1;go_enter Tryz.func88,Tryz.ntmps88;go_wp2;go_ret;exact⟨rfl,rfl⟩
  ·have e2:(z == 9)=false:=beq_eq_false_iff_ne.2 h2;rw[e1,e2];clear h1 h2;go_enter Tryz.func88,Tryz.ntmps88;go_wp2;go_ret;exact⟨rfl,rfl⟩
theorem sts_own {T:TypeId}{w:World}{base A c:Nat}{bs:List ByteArray}(h:w.ownsRow base T 1 (.slice (some ⟨A,0,none⟩) bs.length c) bs.length (bs.map Value.string))(hl:bs.length≤9223372036854775807):Sts w (some ⟨A,0,none⟩) bs:=⟨Reads.of_own h,hl⟩
def fieldsS (s:ByteArray):List ByteArray:=Lib.goFieldsP sepR s
theorem fieldsS_eq (s:ByteArray):wdsB (fieldsS s)=fieldsB [] s.data.toList:=fields_bytes s
theorem ffunc_any (s:ByteArray)(w:World)(hs:s.size≤4294967296) :
  Calls Tryz.prog 87 #[.string s,.func (.func 88) #[] #[]] w fun e w'=>∃ A,e=.returned (.slice (some ⟨A,0,none⟩) (fieldsS s).length (fieldsS s).length)∧w.heap.size≤A∧A < w'.heap.size∧Sts w' (some ⟨A,0,none⟩) (fieldsS s)∧Below w.heap.size w w':=by
 refine (Any.strings_FieldsFunc_runes ffLays 88 #[] (enters_of Tryz.func88 (by kernel_rfl) rfl) sepR s w hs ?_ infoSpan infoStr).mono ?_
 ·intro W x _ _;exact (sep_any x W).mono fun e w' h=>⟨h.1,0,h.2⟩
 ·rintro e w' ⟨A,rfl,hA,hown,hb⟩;have hl:(fieldsS s).length≤9223372036854775807:=by
   have h:=congrArg List.length (fieldsS_eq s);unfold wdsB at h;rw[List.length_map] at h;have h2:=(fields_len s.data.toList []).1;have h3:s.data.toList.length=s.size:=rfl;omega
  refine⟨A,rfl,hA,?_,sts_own hown hl,hb⟩;rcases hown.2 with ⟨h,_⟩ | ⟨g,cap,cur,h,_,hg,_⟩
  ·cases h
  ·injection h with h
   injection h with h
   injection h with h
   subst h;exact (Array.getElem?_eq_some_iff.1 hg).1
def GCell (w:World):Prop:=∃ m,w.cell? ⟨2,0,none⟩=some (.int .i64 m)
theorem GCell.ext {w w':World}(h:GCell w)(hb:Below w.heap.size w w'):GCell w':=by
 obtain⟨m,hm⟩:=h;exact⟨m,by rw[hb.cell (World.block_lt_of_cell? _ _ hm)];exact hm⟩
theorem GCell.kept {S:Nat→Prop}{w w':World}(h:GCell w)(hk:Kept S w w')(hs:¬ S 2):GCell w':=by
 obtain⟨m,hm⟩:=h;exact⟨m,(hk.cell (World.block_lt_of_cell? _ _ hm) hs).trans hm⟩
theorem takeW_index:∀ l:List UInt8,(Lib.indexByte l 35 = -1∧uncom l=l)∨∃ k:Nat,Lib.indexByte l 35=k∧uncom l=l.take k
 | []=>.inl ⟨rfl,rfl⟩
 | b :: l=>by
  by_cases hb:b=35
  ·subst hb;exact .inr ⟨0,rfl,rfl⟩
  ·have hu:uncom (b :: l)=b :: uncom l:=by
    unfold uncom;rw[List.takeWhile_cons,if_pos (by rw[bne_iff_ne];exact hb)]
   rw[hu];unfold Lib.indexByte;rw[if_neg (by simpa using hb)];rcases takeW_index l with ⟨h1,h2⟩ | ⟨k,h1,h2⟩
   ·rw[h1];exact .inl ⟨rfl,congrArg (b :: ·) h2⟩
   ·rw[h1,if_neg (by simp only[beq_iff_eq];omega)];exact .inr ⟨k+1,rfl,congrArg (b :: ·) h2⟩
theorem cut_uncom (l:List UInt8):(Lib.cut l [35]).1=uncom l:=by
 unfold Lib.cut;rw[Lib.index_one];rcases takeW_index l with ⟨h1,h2⟩ | ⟨k,h1,h2⟩
 ·rw[h1,if_neg (by decide),h2]
 ·rw[h1,if_pos (Int.natCast_nonneg k),h2];rfl
theorem cuth_any (s:ByteArray)(w:World)(hg:GCell w)(hs:s.size < 4294967281):Calls Tryz.prog 86 #[.string s,.string ⟨#[35]⟩] w fun e w'=>(∃ u v,e=.returned (.tuple #[.string ⟨(uncom s.data.toList).toArray⟩,u,v]))∧∃ n,w'=w.drewN n:=by
 obtain⟨m,hm⟩:=hg;refine (Tryz.strings_Cut s ⟨#[35]⟩ m w hs hm).mono ?_;rintro e w' ⟨rfl,n,rfl⟩;exact⟨⟨_,_,by rw[← cut_uncom]⟩,n,rfl⟩
def linesS (s:ByteArray):List ByteArray:=Lib.splitB ⟨#[10]⟩ 0 (Lib.countB s ⟨#[10]⟩) s
theorem linesS_eq (s:ByteArray):wdsB (linesS s)=lines11 s.data.toList:=split_all s
theorem linesS_len (s:ByteArray):(linesS s).length=Lib.countB s ⟨#[10]⟩+1:=Lib.splitB_all ⟨#[10]⟩ (by decide) 0 _ s rfl
theorem linesS_size (s:ByteArray):(linesS s).length≤s.size+1∧∀ x ∈ linesS s,x.size≤s.size:=by
 have h:=lines_len s.data.toList;rw[← linesS_eq] at h;unfold wdsB at h;rw[List.length_map] at h;exact⟨h.1,fun x hx=>h.2 _ (List.mem_map.2 ⟨x,hx,rfl⟩)⟩
theorem split_any (s:ByteArray)(w:World)(hg:GCell w)(hs:s.size < 4294967281):Calls Tryz.prog 85 #[.string s,.string ⟨#[10]⟩] w fun e w'=>e=.returned (.slice (some ⟨w.heap.size,0,none⟩) (linesS s).length (linesS s).length)∧Sts w' (some ⟨w.heap.size,0,none⟩) (linesS s)∧Below w.heap.size w w'∧w.heap.size < w'.heap.size:=by
 obtain⟨m,hm⟩:=hg;refine (Tryz.strings_Split s ⟨#[10]⟩ m w hs hm (by decide)).mono ?_;rintro e w' ⟨rfl,rfl⟩;have hl:=linesS_len s;have h2:=(linesS_size s).1;refine⟨by rw[hl],⟨⟨by simp,fun _=>⟨_,rfl,by simp,fun j u hu=>?_⟩⟩,by omega⟩,(Below.refl _ w).alloc (Nat.le_refl _) _,by simp⟩;rw[addr_add];have h3:=cell_of_row _ _ (0+j) _ _ _ (heap_alloc_new w (.cells ((linesS s).map Value.string).toArray 9 (0,0)));refine h3.trans ?_;rw[Nat.zero_add];simpa using hu
end Go.Proofs.YtcmbdhopmncmnaaGreatDoor
namespace Go.Proofs.YtcmbdhopmncmnaaGreatDoor
open Lib(hid)
open Go.RowKit Go.Shelf
set_option maxRecDepth 100000
set_option linter.unusedVariables false
set_option linter.unusedSimpArgs false
attribute [local go_sem] Oper.semAt_some
abbrev LineX:=Nat × List ByteArray
def lnX (x:LineX):Nat × List Wd:=(x.1,wdsB x.2)
def SLn (s:ByteArray)(xs:List LineX):Prop:=xs.map lnX=linesX (lines11 s.data.toList) 0
def OkLn (s:ByteArray)(pre:List LineX)(x:LineX)(vs:Array Value)(O:Blks)(W:World):Prop:=
 ∃ gw,vs=#[.int .i64 x.1,.slice (some ⟨gw,0,none⟩) x.2.length x.2.length]∧Sts W (some ⟨gw,0,none⟩) x.2∧¬ O gw∧∃ rest,SLn s (pre ++ x :: rest)
theorem lnX_back (l:List (Nat × List Wd)):(l.map fun x=>((x.1,x.2.map fun y=>(⟨y.toArray⟩:ByteArray)):LineX)).map lnX=l:=by
 rw[List.map_map];have:(lnX ∘ fun x=>((x.1,x.2.map fun y=>(⟨y.toArray⟩:ByteArray)):LineX))=(id:Nat × List Wd→Nat × List Wd):=by
  funext x
  obtain⟨a,b⟩:=x;show (a,wdsB (b.map fun y=>(⟨y.toArray⟩:ByteArray)))=(a,b)
  unfold wdsB;rw[List.map_map]
  congr 1
  exact List.map_id b
 rw[this,List.map_id]
def CameLn (ls:List (List UInt8))(k:Nat)(pre:List LineX):Prop:=pre.map lnX ++ linesX (ls.drop k) k=linesX ls 0
theorem CameLn.start (ls:List (List UInt8)):CameLn ls 0 []:=rfl
theorem CameLn.skip {ls:List (List UInt8)}{k:Nat}{pre:List LineX}(h:CameLn ls k pre)(hk:k < ls.length)(hw:wordsL ls[k]=[]):CameLn ls (k+1) pre:=by
 unfold CameLn at h ⊢;rw[← h,List.drop_eq_getElem_cons hk];show _=_ ++ (if wordsL ls[k]=[] then linesX (ls.drop (k+1)) (k+1) else _)
 rw[if_pos hw]
theorem CameLn.line {ls:List (List UInt8)}{k:Nat}{pre:List LineX}(h:CameLn ls k pre)(hk:k < ls.length){ws:List ByteArray}(hw:wdsB ws=wordsL ls[k])(hne:ws≠[]):CameLn ls (k+1) (pre ++ [(k+1,ws)]):=by
 have hne':wordsL ls[k]≠[]:=by
  rw[← hw];unfold wdsB;simpa using hne
 unfold CameLn at h ⊢;rw[← h,List.drop_eq_getElem_cons hk];show _=_ ++ (if wordsL ls[k]=[] then _ else (k+1,wordsL ls[k]) :: linesX (ls.drop (k+1)) (k+1))
 rw[if_neg hne',List.map_append,List.append_assoc,← hw];rfl
theorem CameLn.some_ {s:ByteArray}{k:Nat}{pre:List LineX}(h:CameLn (lines11 s.data.toList) k pre):∃ rest,SLn s (pre ++ rest):=by
 refine⟨(linesX ((lines11 s.data.toList).drop k) k).map fun x=>((x.1,x.2.map fun y=>(⟨y.toArray⟩:ByteArray)):LineX),?_⟩;unfold SLn;rw[List.map_append,lnX_back];exact h
theorem CameLn.all {s:ByteArray}{k:Nat}{pre:List LineX}(h:CameLn (lines11 s.data.toList) k pre)(hk:(lines11 s.data.toList).length≤k):SLn s pre:=by
 unfold CameLn at h;rw[List.drop_of_length_le hk] at h;unfold SLn;rw[← h];show _=_ ++ []
 rw[List.append_nil]
theorem wrapL {k n:Nat}(h:k < n)(hn:n≤65537):wrap64 ((k:Int)+1)=((k+1:Nat):Int):=by unfold wrap64;omega
theorem measL {n k:Nat}(h:k < n):n - (intOf (.int .i64 ((k+1:Nat):Int))).toNat < n - (intOf (.int .i64 (k:Int))).toNat:=by
 simp[intOf];omega
set_option maxHeartbeats 4000000 in
theorem lines_seq (s:ByteArray)(hs:s.size≤65536)(b:Nat)(w0:World)(hbx:w0.cell? ⟨b,0,none⟩=some (.string s))(hg:GCell w0)(lo:Nat)(hlo:2 < lo)(hlw:lo≤w0.heap.size) :
  SeqO Tryz.prog 84 #[.pointer (some ⟨b,0,none⟩)] (OkLn s) (SLn s) lo w0:=by
 intro n l J Jx W hW hJ hIn hY O h0;have c1:=(hW.cell (World.block_lt_of_cell? _ _ hbx)).trans hbx;have hgW:=hg.ext hW;have hX':=callsIn_wide (n:=n - 1) |>.2 (split_any s W hgW (by omega))
 obtain⟨ls,hls⟩:∃ x,x=linesS s:=⟨_,rfl⟩
 have hlsz:=linesS_size s;have hle:=linesS_eq s;rw[← hls] at hX' hlsz hle;have HX:=hid hX';have HLE:=hid hle;have HG:=hid hgW;have HIN:=hid (hIn _ _ _ h0);have H0:=hid h0;have HLL:Hid (lo≤W.heap.size):=hid (Nat.le_trans hlw hW.size);have HLZ:=hid hlsz;have HLO:=hid hlo;have HJ:=hid hJ;have HJI:=hid hIn;have HYY:=hid hY;have HSS:=hid hs;clear hX' hgW h0 hlsz hle hls hlo hJ hIn hY hg hlw hbx hs;refine callsIn_of_wp Tryz.func84 rfl trivial ?_ rfl;simp only[Tryz.ntmps84,List.size_toArray,List.length_cons,List.length_nil,Nat.reduceAdd,Nat.reduceSub,Array.replicate_succ,Array.replicate_zero,List.push_toArray,List.append_toArray,List.nil_append,List.cons_append]
 gi_wp2
 refine wideO_call (HX.out.mono ?_);rintro e w' ⟨rfl,hsts,hbw,hgl⟩;have HS:=hid hsts;have HB:=hid hbw;have HGL:=hid hgl;clear hsts hbw hgl HX
 gi_wp2
 have h0':=(HJ.out _ _ _ _ H0.out (Kept.of_new _ HB.out))
 have HJ0:=hid h0';have HG0:=hid (HG.out.ext HB.out);have HA0:Hid (¬ O W.heap.size):=hid (fun h=>absurd (HIN.out _ h) (Nat.lt_irrefl _));clear h0' H0 HG HB HIN;have h9:ls.length≤65537:=by have:=HLZ.out.1;have:=HSS.out;omega
 gi_loopw [3,4,5,9] (fun _ _ _ i wr=>∃ (k:Nat) (pre:List LineX) (O:Blks),i=.int .i64 k∧k≤ls.length∧Hid (Sts wr (some ⟨W.heap.size,0,none⟩) ls)∧Hid (GCell wr)∧Hid (J pre O wr)∧Hid (¬ O W.heap.size)∧Hid (W.heap.size < wr.heap.size)∧Hid (CameLn (lines11 s.data.toList) k pre)) (fun _ _ _ i _=>ls.length - (intOf i).toNat)
 case atStart=>exact⟨0,[],O,rfl,Nat.zero_le _,HS,HG0,HJ0,HA0,HGL,hid (CameLn.start _)⟩
 case round=>
  clear HS HG0 HJ0 HA0 HGL c1 hW;obtain⟨k,pre,O,rfl,hk,HS,HG,HJ0,HA,HGL,HC⟩:=hrel;by_cases hlt:k < ls.length
  ·have dk:decide ((k:Int) < ls.length)=true:=decide_eq_true (by omega);have hw1:wrap64 ((k:Int)+1)=(k:Int)+1:=wrapL hlt h9;obtain⟨gA,oA,eA,-,cA⟩:=HS.out.at_ hlt;injection eA with eA
   injection eA with eA1 eA2
   subst eA1 eA2;have hlx:(lines11 s.data.toList).length=ls.length:=by rw[← HLE.out];unfold wdsB;rw[List.length_map]
   have hlk:k < (lines11 s.data.toList).length:=by omega
   have hgk:(lines11 s.data.toList)[k]=(ls[k]'hlt).data.toList:=by
    have h:=HLE.out;unfold wdsB at h;have h2:(lines11 s.data.toList)[k]?=some (ls[k]'hlt).data.toList:=by rw[← h,List.getElem?_map,List.getElem?_eq_getElem hlt];rfl
    exact (List.getElem?_eq_some_iff.1 h2).2
   have hxs:(ls[k]'hlt).size≤65536:=by have:=HLZ.out.2 _ (List.getElem_mem hlt);have:=HSS.out;omega
   obtain⟨x,hx⟩:∃ x,x=ls[k]'hlt:=⟨_,rfl⟩
   rw[← hx] at cA hgk hxs;rw[Nat.zero_add] at cA;obtain⟨t,ht⟩:∃ t:ByteArray,t=⟨(uncom x.data.toList).toArray⟩:=⟨_,rfl⟩
   have hts:t.size≤65536:=by
    rw[ht];show (uncom x.data.toList).toArray.size≤_;have:(uncom x.data.toList).length≤x.data.toList.length:=by unfold uncom;exact (List.takeWhile_sublist _).length_le
    have h3:x.data.toList.length=x.size:=rfl
    simp
    omega
   have hfw:wdsB (fieldsS t)=wordsL (lines11 s.data.toList)[k]:=by rw[fieldsS_eq,ht,hgk];rfl
   have hcut:=callsIn_wide (n:=n - 1) |>.2 (cuth_any x wr HG.out (by omega))
   rw[← ht] at hcut;have HFF:=hid (fun w=>callsIn_wide (n:=n - 1) |>.2 (ffunc_any t w (by omega)));have HCUT:=hid hcut;obtain⟨F,hF⟩:∃ F,F=fieldsS t:=⟨_,rfl⟩
   rw[← hF] at HFF hfw;have HSK:Hid (F=[]→CameLn (lines11 s.data.toList) (k+1) pre):=hid (fun h=>HC.out.skip hlk (by rw[← hfw,h];rfl));have HLN:Hid (F≠[]→CameLn (lines11 s.data.toList) (k+1) (pre ++ [(k+1,F)])):=hid (fun h=>HC.out.line hlk hfw h);have HLT:=hid hlt;clear hcut hfw ht hgk hxs hts hlx hx hF hlk hlt;by_cases hne:F=[]
   ·subst hne;have HC2:=hid (HSK.out rfl)
    gi_wp2
    refine wideO_call (HCUT.out.mono ?_);rintro e w1 ⟨⟨u,v,rfl⟩,nq,rfl⟩
    gi_wp2
    refine wideO_call ((HFF.out _).mono ?_);rintro e w2 ⟨A,rfl,hA,hA2,hst,hb⟩;have hb2:Below wr.heap.size wr w2:=(below_drewN (Below.refl _ wr) nq).trans hb;have HJ1:=hid (HJ.out _ _ _ _ HJ0.out (Kept.of_new _ hb2));have HS1:=hid (HS.out.ext hb2);have HG1:=hid (HG.out.ext hb2);have HGL1:Hid (W.heap.size < w2.heap.size):=hid (Nat.lt_of_lt_of_le HGL.out hb2.size);clear hA hA2 hst hb hb2
    gi_wp2
    refine⟨(fun f h=>by cases h),?_⟩
    gi_wp2
    go_roundw
    case rel=>exact⟨k+1,pre,O,rfl,HLT.out,HS1,HG1,HJ1,HA,HGL1,HC2⟩
    case measure=>exact measL HLT.out
   ·have dl:0 < F.length:=List.length_pos_iff.2 hne;have HC2:=hid (HLN.out hne);have HNE:=hid hne;clear hne
    gi_wp2
    refine wideO_call (HCUT.out.mono ?_);rintro e w1 ⟨⟨u,v,rfl⟩,nq,rfl⟩
    gi_wp2
    refine wideO_call ((HFF.out _).mono ?_);rintro e w2 ⟨A,rfl,hA,hA2,hst,hb⟩;have hb2:Below wr.heap.size wr w2:=(below_drewN (Below.refl _ wr) nq).trans hb;have hj1:=(HJ.out _ _ _ _ HJ0.out (Kept.of_new _ hb2))
    have HS1:=hid (HS.out.ext hb2);have HG1:=hid (HG.out.ext hb2);have HGL1:Hid (W.heap.size < w2.heap.size):=hid (Nat.lt_of_lt_of_le HGL.out hb2.size);obtain⟨rest,hrest⟩:=HC2.out.some_;rw[List.append_assoc] at hrest;obtain⟨fn,tmps,assign,body,hy,hR⟩:=HYY.out pre (k+1,F) #[.int .i64 ((k:Int)+1),.slice (some ⟨A,0,none⟩) F.length F.length] O w2 hj1 ⟨A,rfl,hst,fun h=>absurd (HJI.out _ _ _ HJ0.out A h) (Nat.not_lt.2 hA),rest,hrest⟩;have HR:=hid hR;clear hA hA2 hst hb hb2 hj1 hR
    gi_wp2
    refine wideO_round (HR.out.mono ?_);clear HR;rintro e W' (⟨rfl,O',hj',hk',hn'⟩ | ⟨rfl,hjx'⟩)
    ·have HJ2:=hid hj';have HA2:Hid (¬ O' W.heap.size):=hid (fun h=>(hn' _ h).elim (fun h=>HA.out h) (fun h=>absurd HGL1.out (Nat.not_lt.2 h)));have HGL2:Hid (W.heap.size < W'.heap.size):=hid (Nat.lt_of_lt_of_le HGL1.out hk'.below.size);have HG2:=hid (HG1.out.kept hk' (fun h=>absurd h.2 (Nat.not_le.2 HLO.out)));have HS2:=hid (HS1.out.kept hk' (fun ad e _ h=>HA.out (by injection e with e;subst e;exact h.1)));clear hj' hk' hn'
     gi_wp2
     go_roundw
     case rel=>exact⟨k+1,pre ++ [(k+1,F)],O',rfl,HLT.out,HS2,HG2,HJ2,HA2,HGL2,HC2⟩
     case measure=>exact measL HLT.out
    ·have HJX:=hid hjx';clear hjx'
     gi_wp2
     refine bodyPost_ret (results_none rfl _ _ _) rfl ?_;exact⟨⟨_,rfl⟩,.inr ⟨_,rest,by rw[List.append_assoc];exact hrest,HJX.out⟩⟩
  ·have dk:decide ((k:Int) < ls.length)=false:=decide_eq_false (by omega);have hfin:=HC.out.all (by rw[← HLE.out];unfold wdsB;rw[List.length_map];omega);clear hk
   gi_wp2
   go_end0
   exact⟨⟨_,rfl⟩,.inl ⟨_,_,hfin,HJ0.out⟩⟩
end Go.Proofs.YtcmbdhopmncmnaaGreatDoor
namespace Go.Proofs.YtcmbdhopmncmnaaGreatDoor
open Go.RowKit
set_option linter.unusedVariables false
set_option linter.unusedSimpArgs false
structure GoodP (n:Nat)(s:PSt):Prop where
 vars:s.t.vars.length≤40
 rows:s.t.rows.length≤400
 hood:s.t.hood.length≤9
 head:s.head≤n
theorem vblW_small (s:PSt)(w:List Wd):(vblW s w).1=s∨((vblW s w).1.t.hood=s.t.hood∧(vblW s w).1.t.rows=s.t.rows∧(vblW s w).1.t.vars.length=s.t.vars.length+1∧s.t.vars.length < 40):=by
 unfold vblW;by_cases h1:0 < s.t.rows.length
 ·rw[if_pos h1];exact .inl rfl
 rw[if_neg h1];by_cases h2:w.length < 3∨nameW (w.getD 1 [])=false
 ·rw[if_pos h2];exact .inl rfl
 rw[if_neg h2];by_cases h3:((w.drop 2).map numW).any (fun n=>decide (n < 0))=true
 ·rw[if_pos h3];exact .inl rfl
 rw[if_neg h3];by_cases h4:(placeW (w.getD 1 []) 0 s.names).isSome=true
 ·rw[if_pos h4];exact .inl rfl
 rw[if_neg h4];by_cases h5:((w.drop 2).map numW).any (fun n=>decide (s.t.st≤n))=true
 ·rw[if_pos h5];exact .inl rfl
 rw[if_neg h5];by_cases h6:ascW ((w.drop 2).map numW)=false
 ·rw[if_pos h6];exact .inl rfl
 rw[if_neg h6];by_cases h7:40≤s.t.vars.length
 ·rw[if_pos h7];exact .inl rfl
 rw[if_neg h7];exact .inr ⟨rfl,rfl,by simp,by omega⟩
theorem rowW_small (s:PSt)(w:List Wd):(rowW s w).1=s∨((rowW s w).1.t.hood=s.t.hood∧(rowW s w).1.t.vars=s.t.vars∧(rowW s w).1.t.rows.length=s.t.rows.length+1∧s.t.rows.length < 400):=by
 unfold rowW;by_cases h1:w.length≠s.t.hood.length+2∨w.getD s.t.hood.length []≠arrowW
 ·rw[if_pos h1];exact .inl rfl
 rw[if_neg h1];obtain⟨q,hq⟩:∃ q,q=elemsW s (w.take s.t.hood.length ++ w.drop (s.t.hood.length+1)):=⟨_,rfl⟩
 rw[← hq];by_cases h2:q.2≠0
 ·rw[if_pos h2];exact .inl rfl
 rw[if_neg h2];by_cases h3:q.1.getD s.t.hood.length 0 < 0∧q.1.getD s.t.hood.length 0 ∉ q.1.take s.t.hood.length
 ·rw[if_pos h3];exact .inl rfl
 rw[if_neg h3];by_cases h4:400≤s.t.rows.length
 ·rw[if_pos h4];exact .inl rfl
 rw[if_neg h4];exact .inr ⟨rfl,rfl,by simp,by omega⟩
theorem headW_small {n:Nat}{s:PSt}(h:GoodP n s)(w:List Wd):GoodP (n+1) (headW s w).1:=by
 have h0:GoodP (n+1) s:=⟨h.vars,h.rows,h.hood,Nat.le_succ_of_le h.head⟩
 have hh:=h.head;unfold headW;by_cases h1:w.length≠2∨w.getD 0 []≠headsW.getD s.head []
 ·rw[if_pos h1];exact h0
 rw[if_neg h1];by_cases h2:s.head=0
 ·rw[if_pos h2];by_cases h3:numW (w.getD 1 []) < 0
  ·rw[if_pos h3];exact h0
  rw[if_neg h3];by_cases h4:numW (w.getD 1 []) < 2∨8 < numW (w.getD 1 [])
  ·rw[if_pos h4];exact h0
  rw[if_neg h4];exact⟨h.vars,h.rows,h.hood,Nat.le_add_left 1 n⟩
 rw[if_neg h2];by_cases h3:s.head=1
 ·rw[if_pos h3];cases hp:placeW (w.getD 1 []) 0 hoodsW with
  | none=>exact h0
  | some k=>
   refine⟨h.vars,h.rows,?_,?_⟩
   ·show (hoodsP.getD k []).length≤9;obtain rfl | rfl | rfl | rfl | hk:k=0∨k=1∨k=2∨k=3∨4≤k:=by omega
    ·decide
    ·decide
    ·decide
    ·decide
    ·rw[List.getD_eq_getElem?_getD,List.getElem?_eq_none (by simpa [hoodsP] using hk)];exact Nat.zero_le _
   ·show 2≤n+1;omega
 rw[if_neg h3];cases hp:placeW (w.getD 1 []) 0 symsW with
 | none=>exact h0
 | some k=>
  dsimp only;by_cases h4:permP s.t.hood (k:Int)=false
  ·rw[if_pos h4];exact h0
  rw[if_neg h4];refine⟨h.vars,h.rows,h.hood,?_⟩;show 3≤n+1;omega
theorem GoodP.step {n:Nat}{s:PSt}(h:GoodP n s)(w:List Wd):GoodP (n+1) (stepW s w).1:=by
 unfold stepW;have hh:=h.head;by_cases h1:s.head < 3
 ·rw[if_pos h1];exact headW_small h w
 rw[if_neg h1];by_cases h2:w.getD 0 []=varW
 ·rw[if_pos h2];rcases vblW_small s w with e | ⟨e1,e2,e3,e4⟩
  ·refine⟨?_,?_,?_,Nat.succ_le_succ hh⟩
   ·show (vblW s w).1.t.vars.length≤40;rw[e];exact h.vars
   ·show (vblW s w).1.t.rows.length≤400;rw[e];exact h.rows
   ·show (vblW s w).1.t.hood.length≤9;rw[e];exact h.hood
  ·refine⟨?_,?_,?_,Nat.succ_le_succ hh⟩
   ·show (vblW s w).1.t.vars.length≤40;omega
   ·show (vblW s w).1.t.rows.length≤400;rw[e2];exact h.rows
   ·show (vblW s w).1.t.hood.length≤9;rw[e1];exact h.hood
 ·rw[if_neg h2];rcases rowW_small s w with e | ⟨e1,e2,e3,e4⟩
  ·refine⟨?_,?_,?_,Nat.succ_le_succ hh⟩
   ·show (rowW s w).1.t.vars.length≤40;rw[e];exact h.vars
   ·show (rowW s w).1.t.rows.length≤400;rw[e];exact h.rows
   ·show (rowW s w).1.t.hood.length≤9;rw[e];exact h.hood
  ·refine⟨?_,?_,?_,Nat.succ_le_succ hh⟩
   ·show (rowW s w).1.t.vars.length≤40;rw[e2];exact h.vars
   ·show (rowW s w).1.t.rows.length≤400;omega
   ·show (rowW s w).1.t.hood.length≤9;rw[e1];exact h.hood
theorem runX_good:∀ (xs:List (Nat × List Wd)){n:Nat}{s st:PSt},GoodP n s→runX s xs=some st→GoodP (n+xs.length) st
 | [],n,s,st,h,e=>by
  injection e with e
  subst e;exact h
 | x :: xs,n,s,st,h,e=>by
  have e':(if (stepW s x.2).2≠0 then none else runX (stepW s x.2).1 xs)=some st:=e;by_cases h2:(stepW s x.2).2≠0
  ·rw[if_pos h2] at e';cases e'
  ·rw[if_neg h2] at e';have:=runX_good xs (h.step x.2) e';rw[List.length_cons,Nat.add_comm xs.length 1,← Nat.add_assoc];exact this
theorem GoodP.zero:GoodP 0 PSt.zero:=⟨by decide,by decide,by decide,Nat.le_refl _⟩
theorem linesX_len:∀ (ls:List (List UInt8))(i:Nat),(linesX ls i).length≤ls.length
 | [],i=>Nat.le_refl _
 | l :: r,i=>by
  show (if wordsL l=[] then linesX r (i+1) else (i+1,wordsL l) :: linesX r (i+1)).length≤_;by_cases h:wordsL l=[]
  ·rw[if_pos h];exact Nat.le_succ_of_le (linesX_len r (i+1))
  ·rw[if_neg h];exact Nat.succ_le_succ (linesX_len r (i+1))
theorem parse_fold (l:List UInt8)(h:l.length≤65536):parse11 l=foldW PSt.zero (linesX (lines11 l) 0):=by
 unfold parse11;rw[if_neg (by omega),read_fold]
end Go.Proofs.YtcmbdhopmncmnaaGreatDoor
