/-
  texts Has Bind Plain Turned: parts of the proof; conditions stand with each theorem.
-/
import Derived.Test.YtcmbdhopmncmnaaGreatDoorVG0
import Derived.Test.YtcmbdhopmncmnaaGreatDoorVG1
namespace Go.Proofs.YtcmbdhopmncmnaaGreatDoor
open Lib(hid)
open Go.RowKit
set_option maxRecDepth 100000
set_option linter.unusedVariables false
set_option linter.unusedSimpArgs false
set_option maxHeartbeats 400000 in
theorem has_any (A:Option Addr)(xs:List Int)(c:Nat)(n:Int)(w:World)(ha:Ints w A xs) :
  Calls Tryz.prog 24 #[.slice A xs.length c,.int .i64 n] w fun e w'=>e=.returned (.bool (decide (n ∈ xs)))∧w'=w:=by
 have hn:=ha.le;go_enter Tryz.func24,Tryz.ntmps24;go_wp2
 go_loop [5] (fun i=>∃ k:Nat,k≤xs.length∧i=.int .i64 k∧Hid (decide (n ∈ xs)=decide (n ∈ xs.drop k))) (fun i=>xs.length - (intOf i).toNat)
 case atStart=>exact⟨0,Nat.zero_le _,rfl,hid rfl⟩
 case round=>
  obtain⟨k,hk,rfl,HT⟩:=hrel;by_cases hlt:k < xs.length
  ·obtain⟨b1,o1,rfl,-,hc⟩:=ha.at_ hlt;have hd:decide (n ∈ xs.drop k)=decide (n=xs[k]∨n ∈ xs.drop (k+1)):=by rw[List.drop_eq_getElem_cons hlt];simp only[List.mem_cons]
   by_cases h1:xs[k]=n
   ·have hyes:decide (n ∈ xs)=true:=by rw[HT.out,hd];exact decide_eq_true (.inl h1.symm)
    have HN:=hid hyes;have d1:(xs[k] == n)=true:=by simp[h1]
    clear hyes hd h1;go_wp2;go_ret;exact⟨ret_bool HN.out.symm,rfl⟩
   ·have hyes:decide (n ∈ xs)=decide (n ∈ xs.drop (k+1)):=by
     rw[HT.out,hd];exact decide_eq_decide.2 ⟨fun h=>h.resolve_left (fun h=>h1 h.symm),.inr⟩
    have d1:(xs[k] == n)=false:=by simp[h1]
    have HY:=hid hyes;clear hyes hd h1;go_wp2
    go_round
    case rel=>exact⟨k+1,by omega,by go_num,HY⟩
    case measure=>simp[intOf];omega
  ·obtain rfl:k=xs.length:=by omega
   have hno:decide (n ∈ xs)=false:=by rw[HT.out,List.drop_length];simp
   have HN:=hid hno;clear hno;go_wp2;go_ret;exact⟨ret_bool HN.out.symm,rfl⟩
def BindB (w:World)(g:Nat)(bs:List Int):Prop:=bs.length=40∧Blk w g 139 (bs.map fun z=>Value.int .i64 z).toArray
section
variable {w w' : World} {g : Nat} {bs : List Int}
theorem BindB.lt (h:BindB w g bs):g < w.heap.size:=h.2.lt
theorem BindB.below {B:Nat}(h:BindB w g bs)(hb:Below B w w')(hg:g < B):BindB w' g bs:=⟨h.1,h.2.below hb hg⟩
theorem BindB.ext (h:BindB w g bs)(hb:Below w.heap.size w w'):BindB w' g bs:=h.below hb h.lt
theorem BindB.at_ (h:BindB w g bs){i:Nat}(hi:i < 40):w.cell? ⟨g,i,none⟩=some (.int .i64 (bs.getD i 0)):=by
 have hl:i < bs.length:=by rw[h.1];exact hi
 refine h.2.cell_ i _ ?_;rw[List.getElem?_toArray,List.getElem?_map,List.getElem?_eq_getElem hl,List.getD_eq_getElem?_getD,List.getElem?_eq_getElem hl];rfl
theorem BindB.set (h:BindB w g bs)(i:Nat)(z:Int):BindB (w.setCell ⟨g,i,none⟩ (.int .i64 z)) g (bs.set i z):=by
 refine⟨by rw[List.length_set];exact h.1,?_⟩;have:=h.2.set_ i (.int .i64 z);rw[List.map_set];simpa using this
theorem BindB.new (w:World):BindB (w.alloc (.cells (((List.replicate 40 (0:Int)).map fun z=>Value.int .i64 z).toArray) 139)) w.heap.size (List.replicate 40 0):=⟨by simp,Blk.new _ _ _⟩
end
def negTo (i:Nat):List Int:=List.replicate i (-1) ++ List.replicate (40 - i) 0
theorem negTo_step {i:Nat}(h:i < 40):(negTo i).set i (-1)=negTo (i+1):=by
 have:∀ i:Fin 40,(negTo i.1).set i.1 (-1)=negTo (i.1+1):=by decide
 exact this ⟨i,h⟩
set_option maxHeartbeats 4000000 in
theorem none_any (w:World):Calls Tryz.prog 111 #[] w fun e w'=>∃ g,e=.returned (.pointer (some ⟨g,0,none⟩))∧w.heap.size≤g∧BindB w' g (List.replicate 40 (-1))∧Below w.heap.size w w':=by
 obtain⟨w0,hw0⟩:∃ w0,w0=w.alloc (.cells (((List.replicate 40 (0:Int)).map fun z=>Value.int .i64 z).toArray) 139):=⟨_,rfl⟩
 have hb0:Below w.heap.size w w0:=by rw[hw0];exact below_new _ _
 have q0:BindB w0 w.heap.size (negTo 0):=by rw[hw0];exact BindB.new w
 go_enter Tryz.func111,Tryz.ntmps111;go_upto_region 2 with fail
 rw[show w.alloc (.cells #[.int .i64 0,.int .i64 0,.int .i64 0,.int .i64 0,.int .i64 0,.int .i64 0,.int .i64 0,.int .i64 0,.int .i64 0,.int .i64 0,.int .i64 0,.int .i64 0,.int .i64 0,.int .i64 0,.int .i64 0,.int .i64 0,.int .i64 0,.int .i64 0,.int .i64 0,.int .i64 0,.int .i64 0,.int .i64 0,.int .i64 0,.int .i64 0,.int .i64 0,.int .i64 0,.int .i64 0,.int .i64 0,.int .i64 0,.int .i64 0,.int .i64 0,.int .i64 0,.int .i64 0,.int .i64 0,.int .i64 0,.int .i64 0,.int .i64 0,.int .i64 0,.int .i64 0,.int .i64 0] 139)=w0 from by rw[hw0];rfl];obtain⟨g,hg⟩:∃ g,g=w.heap.size:=⟨_,rfl⟩
 rw[← hg] at q0 ⊢;have HG:Hid (w.heap.size≤g):=hid (by rw[hg];exact Nat.le_refl _);have HGE:Hid (g=w.heap.size):=hid hg;have HQ:=hid q0;have HB0:=hid hb0;clear hg q0 hb0 hw0;go_wp2;go_loopw [3] (fun iv wr=>∃ i:Nat,i≤40∧iv=.int .i64 i∧Hid (BindB wr g (negTo i))∧Hid (Below w.heap.size w wr)) (fun iv _=>40 - (intOf iv).toNat)
 case atStart=>exact⟨0,Nat.zero_le _,rfl,HQ,HB0⟩
 case round=>
  obtain⟨i,hi,rfl,HBI,HBW⟩:=hrel;by_cases hil:i < 40
  ·have c0:=HBI.out.at_ hil;have f0:=HBI.out.2.frozen i;have HI:=hid hil;have hwi:wrap64 ((i:Int)+1)=(i:Int)+1:=by unfold wrap64;omega
   have HWI:=hid hwi;have HB1:Hid (BindB (wr.setCell ⟨g,i,none⟩ (.int .i64 (-1))) g (negTo (i+1))):=hid (by rw[← negTo_step hil];exact HBI.out.set i (-1));have HW1:Hid (Below w.heap.size w (wr.setCell ⟨g,i,none⟩ (.int .i64 (-1)))):=hid (HBW.out.setCell (p:=⟨g,i,none⟩) HG.out _);have hd:decide ((i:Int) < 40)=true:=decide_eq_true (by omega);clear hi hwi;go_wp2;go_roundw
   case rel=>exact⟨i+1,HI.out,(by first | rfl | (rw[HWI.out];rfl)),HB1,HW1⟩
   case measure=>(try rw[HWI.out]);exact meas_step HI.out
  ·obtain rfl:i=40:=Nat.le_antisymm hi (Nat.le_of_not_lt hil);have hd:decide (((40:Nat):Int) < 40)=false:=by decide
   clear hi hil;go_wp2;go_ret;exact⟨g,rfl,HG.out,HBI.out,HBW.out⟩
def acceptP (vars:List (List Int))(bs:List Int)(e s:Int):Bool × Bool × List Int:=
 if 0≤e then (e == s,false,bs)
 else if 0≤bs.getD (-1 - e).toNat 0 then (bs.getD (-1 - e).toNat 0 == s,false,bs)
 else if s ∈ vars.getD (-1 - e).toNat [] then (true,true,bs.set (-1 - e).toNat s) else (false,false,bs)
set_option maxHeartbeats 8000000 in
theorem accept_any (g:Nat)(hA:Option Addr)(hc:Nat)(vA:Option Addr)(vc:Nat)(rA:Option Addr)(rc:Nat)(t:TabH)(bs:List Int)(e s:Int)(w:World)(hB:BindB w g bs)(hV:Vrs w vA t.vs)(he:e < 0→(-1 - e).toNat < t.vs.length)(h40:t.vs.length≤40)(hmn:-1000000≤e) :
  Calls Tryz.prog 112 #[.pointer (some ⟨g,0,none⟩),tabV hA hc vA vc rA rc t,.int .i64 e,.int .i64 s] w fun en w'=>en=.returned (.tuple #[.bool (acceptP (t.vs.map Vh.zs) bs e s).1,.bool (acceptP (t.vs.map Vh.zs) bs e s).2.1])∧BindB w' g (acceptP (t.vs.map Vh.zs) bs e s).2.2∧Kept (fun x=>x=g) w w':=by
 obtain⟨st,sym,hood,vs,rs⟩:=t;unfold tabV;dsimp only at hV he h40 ⊢;obtain⟨w0,hw0⟩:∃ w0,w0=w.alloc (.cells #[.int .i64 st,.int .i64 sym,.slice hA hood.length hc,.slice vA vs.length vc,.slice rA rs.length rc] 26):=⟨_,rfl⟩
 have hb0:Below w.heap.size w w0:=by rw[hw0];exact below_new _ _
 have q0:Blk w0 w.heap.size 26 #[.int .i64 st,.int .i64 sym,.slice hA hood.length hc,.slice vA vs.length vc,.slice rA rs.length rc]:=by rw[hw0];exact Blk.new _ _ _
 obtain⟨gT,hgT⟩:∃ g,g=w.heap.size:=⟨_,rfl⟩
 rw[← hgT] at q0;have hB0:=hB.ext hb0;have HB0:=hid hB0;have HK0:Hid (Kept (fun x=>x=g) w w0):=hid (Kept.of_new _ hb0);have HW0:=hid (And.intro hw0 hgT);have HV:=hid (hV.ext hb0);have c3:=q0.cell_ 3 (.slice vA vs.length vc) rfl;obtain⟨ok,hok⟩:∃ ok,ok=(acceptP (vs.map Vh.zs) bs e s).1:=⟨_,rfl⟩
 obtain⟨fr,hfr⟩:∃ fr,fr=(acceptP (vs.map Vh.zs) bs e s).2.1:=⟨_,rfl⟩
 obtain⟨b',hb'⟩:∃ b',b'=(acceptP (vs.map Vh.zs) bs e s).2.2:=⟨_,rfl⟩
 rw[← hok,← hfr,← hb'];have HR:Hid (acceptP (vs.map Vh.zs) bs e s=(ok,fr,b')):=hid (by rw[hok,hfr,hb']);clear hb0 q0 hw0 hgT hB hV hok hfr hb' hB0;by_cases h0:0≤e
 ·have hE:acceptP (vs.map Vh.zs) bs e s=(e == s,false,bs):=if_pos h0;rw[hE] at HR;have h1:=HR.out;injection h1 with h1 h2
  injection h2 with h2 h3
  subst h1 h2 h3;have d0:decide (0≤e)=true:=decide_eq_true h0;clear hE h0 he hmn;go_enter Tryz.func112,Tryz.ntmps112;go_upto_region 1 with fail
  rw[← HW0.out.1,← HW0.out.2];go_wp2;go_ret2;exact⟨rfl,HB0.out,HK0.out⟩
 ·have d0:decide (0≤e)=false:=decide_eq_false h0;have hvl:=he (by omega);obtain⟨v,hv⟩:∃ v:Nat,-1 - e=(v:Int):=⟨(-1 - e).toNat,by omega⟩
  have hv':(-1 - e).toNat=v:=by omega
  rw[hv'] at hvl;have hwv:wrap64 (-1 - e)=(v:Int):=by unfold wrap64;omega
  have h40v:v < 40:=by omega
  have c0:=HB0.out.at_ h40v;have f0:=HB0.out.2.frozen v;obtain⟨bz,hbz⟩:∃ z,z=bs.getD v 0:=⟨_,rfl⟩
  rw[← hbz] at c0;have HWV:=hid hwv;by_cases h1:0≤bz
  ·have hE:acceptP (vs.map Vh.zs) bs e s=(bz == s,false,bs):=by
    unfold acceptP;rw[if_neg h0,hv',← hbz,if_pos h1]
   rw[hE] at HR;have h1':=HR.out;injection h1' with h1' h2
   injection h2 with h2 h3
   subst h1' h2 h3;have d1:decide (0≤bz)=true:=decide_eq_true h1;clear hE h0 he hmn hv hv' hvl hbz h1;go_enter Tryz.func112,Tryz.ntmps112;go_upto_region 1 with fail
   rw[← HW0.out.1,← HW0.out.2];go_wp2;go_ret2;exact⟨rfl,HB0.out,HK0.out⟩
  ·have d1:decide (0≤bz)=false:=decide_eq_false h1;obtain⟨vb,vo,ea,-,hca,hia⟩:=HV.out.at_ hvl;subst ea;obtain⟨xh,hxh⟩:∃ z,z=vs[v]:=⟨_,rfl⟩
   rw[← hxh] at hca hia;have hget:(vs.map Vh.zs).getD v []=xh.zs:=by rw[hxh,List.getD_eq_getElem?_getD,List.getElem?_map,List.getElem?_eq_getElem hvl];rfl
   obtain⟨xA,xc,zs⟩:=xh;dsimp only at hca hia hget;have hcall:=contains_any xA zs xc s w0 hia;have hE:acceptP (vs.map Vh.zs) bs e s=if s ∈ zs then (true,true,bs.set v s) else (false,false,bs):=by
    unfold acceptP;rw[if_neg h0,hv',← hbz,if_neg h1,hget]
   rw[hE] at HR;have hvs9:=HV.out.le;by_cases hm:s ∈ zs
   ·rw[decide_eq_true hm] at hcall;rw[if_pos hm] at HR;have h1':=HR.out;injection h1' with h1' h2
    injection h2 with h2 h3
    subst h1' h2 h3;have HCALL:=hid hcall;have HB1:=hid (HB0.out.set v s);have HK1:Hid (Kept (fun x=>x=g) w (w0.setCell ⟨g,v,none⟩ (.int .i64 s))):=hid (HK0.out.setCell (p:=⟨g,v,none⟩) (Or.inl rfl) _);clear hE h0 he hmn hv hv' hbz h1 hm hcall hget hxh hia;go_enter Tryz.func112,Tryz.ntmps112;go_upto_region 1 with fail
    rw[← HW0.out.1,← HW0.out.2];go_wp2_with (go_at_call 30;refine HCALL.out.mono ?_;rintro en w2 ⟨rfl,rfl⟩;refine Hid.out ?_);refine hid ?_;go_wp2;go_ret2;exact⟨rfl,HB1.out,HK1.out⟩
   ·rw[decide_eq_false hm] at hcall;rw[if_neg hm] at HR;have h1':=HR.out;injection h1' with h1' h2
    injection h2 with h2 h3
    subst h1' h2 h3;have HCALL:=hid hcall;clear hE h0 he hmn hv hv' hbz h1 hm hcall hget hxh hia;go_enter Tryz.func112,Tryz.ntmps112;go_upto_region 1 with fail
    rw[← HW0.out.1,← HW0.out.2];go_wp2_with (go_at_call 30;refine HCALL.out.mono ?_;rintro en w2 ⟨rfl,rfl⟩;refine Hid.out ?_);refine hid ?_;go_wp2;go_ret2;exact⟨rfl,HB0.out,HK0.out⟩
def outP (bs:List Int)(out:Int):Int:=if 0≤out then out else bs.getD (-1 - out).toNat 0
set_option maxHeartbeats 4000000 in
theorem out_any (g:Nat)(A:Option Addr)(n c:Nat)(bs:List Int)(out:Int)(w:World)(hB:BindB w g bs)(he:out < 0→(-1 - out).toNat < 40)(hmn:-1000000≤out) :
  Calls Tryz.prog 114 #[.pointer (some ⟨g,0,none⟩),.agg #[.slice A n c,.int .i64 out]] w fun en w'=>en=.returned (.int .i64 (outP bs out))∧Below w.heap.size w w':=by
 obtain⟨w0,hw0⟩:∃ w0,w0=w.alloc (.cells #[.slice A n c,.int .i64 out] 48):=⟨_,rfl⟩
 have hb0:Below w.heap.size w w0:=by rw[hw0];exact below_new _ _
 have q0:Blk w0 w.heap.size 48 #[.slice A n c,.int .i64 out]:=by rw[hw0];exact Blk.new _ _ _
 obtain⟨gT,hgT⟩:∃ g,g=w.heap.size:=⟨_,rfl⟩
 rw[← hgT] at q0;have HBB:=hid (hB.ext hb0);have HB0:=hid hb0;have HW0:=hid (And.intro hw0 hgT);have c1:=q0.cell_ 1 (.int .i64 out) rfl;clear hb0 q0 hw0 hgT hB;by_cases h0:0≤out
 ·have HE:Hid (outP bs out=out):=hid (if_pos h0);have d0:decide (0≤out)=true:=decide_eq_true h0;clear h0 he hmn;go_enter Tryz.func114,Tryz.ntmps114;go_upto_region 1 with fail
  rw[← HW0.out.1,← HW0.out.2];go_wp2;go_ret;exact⟨ret_int HE.out.symm,HB0.out⟩
 ·have d0:decide (0≤out)=false:=decide_eq_false h0;have h40v:=he (by omega);obtain⟨v,hv⟩:∃ v:Nat,-1 - out=(v:Int):=⟨(-1 - out).toNat,by omega⟩
  have hv':(-1 - out).toNat=v:=by omega
  rw[hv'] at h40v;have HE:Hid (outP bs out=bs.getD v 0):=hid (by unfold outP;rw[if_neg h0,hv']);have hwv:wrap64 (-1 - out)=(v:Int):=by unfold wrap64;omega
  have c0:=HBB.out.at_ h40v;obtain⟨bz,hbz⟩:∃ z,z=bs.getD v 0:=⟨_,rfl⟩
  rw[← hbz] at c0 HE;clear h0 he hmn hv hv' hbz;go_enter Tryz.func114,Tryz.ntmps114;go_upto_region 1 with fail
  rw[← HW0.out.1,← HW0.out.2];go_upto_region 3 with fail
  go_quiet (fail)
  go_wp2;go_ret;exact⟨ret_int HE.out.symm,HB0.out.trans ((below_drewN (Below.refl _ _) _).mono HB0.out.size)⟩
def bindAll (vars:List (List Int)):List Int→List Int→List Int→Option (List Int)
 | [],_,bs=>some bs
 | _ :: _,[],_=>none
 | e :: l,s :: r,bs=>if (acceptP vars bs e s).1=true then bindAll vars l r (acceptP vars bs e s).2.2 else none
def negL:List Int:=List.replicate 40 (-1)
def plainP (vars:List (List Int))(ins:List Int)(out:Int)(inn:List Int):Int × Bool:=match bindAll vars ins inn negL with
 | some bs=>(outP bs out,true)
 | none=>(0,false)
theorem plainP_some {vars:List (List Int)}{ins inn bs:List Int}{out:Int}(h:bindAll vars ins inn negL=some bs):plainP vars ins out inn=(outP bs out,true):=by unfold plainP;rw[h]
theorem plainP_none {vars:List (List Int)}{ins inn:List Int}{out:Int}(h:bindAll vars ins inn negL=none):plainP vars ins out inn=(0,false):=by unfold plainP;rw[h]
theorem bindAll_step {vars:List (List Int)}{ins inn bs:List Int}{i:Nat}(h1:i < ins.length)(h2:i < inn.length):bindAll vars (ins.drop i) (inn.drop i) bs=if (acceptP vars bs ins[i] inn[i]).1=true then bindAll vars (ins.drop (i+1)) (inn.drop (i+1)) (acceptP vars bs ins[i] inn[i]).2.2 else none:=by
 rw[List.drop_eq_getElem_cons h1,List.drop_eq_getElem_cons h2];rfl
theorem acceptP_len (vars:List (List Int))(bs:List Int)(e s:Int):(acceptP vars bs e s).2.2.length=bs.length:=by
 unfold acceptP
 split
 ·rfl
 ·split
  ·rfl
  ·split
   ·simp
   ·rfl
def ElOk (n:Nat)(e:Int):Prop:=(e < 0→(-1 - e).toNat < n)∧-1000000≤e
structure Pl5J (V:World)(g:Nat)(tv:Value)(ee:Int)(iv:Value)(i:Nat)(ib:Nat)(io:Nat)(ss:Int)(ok:Bool)(fv:Bool)(bb:List Int)(b0 b1 b2 b3 b4 b5 b6 b7 b8 b9 b10 b11 b12:Bool)(v23 v24 v25 v26 v27 v28 v29 v30 v22 v31 v32 v11 v12:Value)(w:World):Prop where
 h0:b0=true→v23=.pointer (some ⟨g,0,none⟩)
 h1:b1=true→v24=tv
 h2:b2=true→v25=.int .i64 ee
 h3:b3=true→v26=iv
 h4:b4=true→v27=.int .i64 (i:Int)
 h5:b5=true→v28=.pointer (some ⟨ib,io+i,none⟩)
 h6:b6=true→v29=.int .i64 ss
 h7:b7=true→v30=.tuple #[.bool ok,.bool fv]
 h8:b8=true→v22=.tuple #[.bool ok,.bool fv]
 h9:b9=true→v31=.bool ok
 h10:b10=true→v32=.bool fv
 h11:b11=true→v11=.bool ok
 h12:b12=true→v12=.bool fv
 wa:b7=false→w=V.drew
 wd:b7=true→BindB w g bb∧Kept (fun x=>x=g) V.drew w
 o5:b5=true→b3=true∧b4=true
 o6:b6=true→b5=true
 o7:b7=true→b0=true∧b1=true∧b2=true∧b6=true
 o8:b8=true→b7=true
 o9:b9=true→b8=true
 o10:b10=true→b8=true
 o11:b11=true→b9=true
 o12:b12=true→b10=true∧b11=true
set_option maxHeartbeats 16000000 in
theorem plain_any (hA:Option Addr)(hc:Nat)(vA:Option Addr)(vc:Nat)(rA:Option Addr)(rc:Nat)(t:TabH)(zA:Option Addr)(zc:Nat)(ins:List Int)(out:Int)(iA:Option Addr)(ic:Nat)(inn:List Int)(w:World)(hV:Vrs w vA t.vs)(h40:t.vs.length≤40)(hz:Ints w zA ins)(hi:Ints w iA inn)(hl:ins.length≤inn.length)(hl9:ins.length≤100)(he:∀ e ∈ ins,ElOk t.vs.length e)(ho:ElOk t.vs.length out) :
  Calls Tryz.prog 76 #[tabV hA hc vA vc rA rc t,.agg #[.slice zA ins.length zc,.int .i64 out],.slice iA inn.length ic] w fun en w'=>en=.returned (.tuple #[.int .i64 (plainP (t.vs.map Vh.zs) ins out inn).1,.bool (plainP (t.vs.map Vh.zs) ins out inn).2])∧Below w.heap.size w w':=by
 obtain⟨st,sym,hood,vs,rs⟩:=t;unfold tabV;dsimp only at hV h40 he ho ⊢;obtain⟨w0,hw0⟩:∃ w0,w0=(w.alloc (.cells #[.int .i64 st,.int .i64 sym,.slice hA hood.length hc,.slice vA vs.length vc,.slice rA rs.length rc] 26)).alloc (.cells #[.slice zA ins.length zc,.int .i64 out] 48):=⟨_,rfl⟩
 have hb0:Below w.heap.size w w0:=by rw[hw0];exact (below_new _ _).alloc (by simp) _
 have p0:Blk w0 w.heap.size 26 #[.int .i64 st,.int .i64 sym,.slice hA hood.length hc,.slice vA vs.length vc,.slice rA rs.length rc]:=by rw[hw0];exact (Blk.new w _ _).alloc _
 have q0:Blk w0 (w.heap.size+1) 48 #[.slice zA ins.length zc,.int .i64 out]:=by rw[hw0];have:=Blk.new (w.alloc (.cells #[.int .i64 st,.int .i64 sym,.slice hA hood.length hc,.slice vA vs.length vc,.slice rA rs.length rc] 26)) 48 #[.slice zA ins.length zc,.int .i64 out];simpa using this
 have HB0:=hid hb0;have HP:=hid p0;have HQ:=hid q0;have HW0:=hid hw0;have HV:=hid (And.intro hV h40);have HZ:=hid (And.intro hz (And.intro hi hl));have HE:=hid (And.intro he ho);obtain⟨vars,hvars⟩:∃ v,v=vs.map Vh.zs:=⟨_,rfl⟩
 rw[← hvars];have HVS:=hid hvars;have hin9:inn.length≤9223372036854775807:=hi.le;clear hb0 p0 q0 hw0 hV h40 hz hi he ho hvars hl;go_enter Tryz.func76,Tryz.ntmps76;go_upto_region 1 with fail
 rw[← HW0.out];have HN:=hid (none_any w0);go_wp2_with (go_at_call 111;refine HN.out.mono ?_;rintro e w1 ⟨g,rfl,hg,hbb,hb1⟩;refine Hid.out ?_);refine hid ?_;have HG:=hid (And.intro hg hb1);have HBB:=hid hbb;have c0:=(HQ.out.below hb1 HQ.out.lt).cell_ 0 (.slice zA ins.length zc) rfl;clear hg hbb hb1 HN;go_wp2;clear c0;go_loopw [17] (fun iv wr=>∃ (i:Nat) (bs:List Int),i≤ins.length∧iv=.int .i64 i∧Hid (BindB wr g bs)∧Hid (Below w0.heap.size w0 wr)∧Hid (bindAll vars ins inn negL=bindAll vars (ins.drop i) (inn.drop i) bs)) (fun iv _=>ins.length - (intOf iv).toNat)
 case atStart=>exact⟨0,negL,Nat.zero_le _,rfl,HBB,hid HG.out.2,hid rfl⟩
 case round=>
  obtain⟨i,bs,hi,rfl,HBI,HBW,HT⟩:=hrel;by_cases hil:i < ins.length
  ·have hil2:i < inn.length:=Nat.lt_of_lt_of_le hil HZ.out.2.2;have hz0:=HZ.out.1.ext (HB0.out.trans (HBW.out.mono HB0.out.size));have hi0:=HZ.out.2.1.ext (HB0.out.trans (HBW.out.mono HB0.out.size));obtain⟨zb,zo,ez,-,hcz⟩:=hz0.at_ hil;obtain⟨ib,io,ei,-,hci⟩:=hi0.at_ hil2;have HS:=hid (HT.out.trans (bindAll_step hil hil2));have hel:=HE.out.1 ins[i] (List.getElem_mem hil);obtain⟨e,hee⟩:∃ e,e=ins[i]:=⟨_,rfl⟩
   obtain⟨s,hss⟩:∃ s,s=inn[i]:=⟨_,rfl⟩
   rw[← hee] at hcz hel HS;rw[← hss] at hci HS;subst ez ei;have HEL:=hid hel;have HI:=hid (And.intro hil hil2);have hwi:wrap64 ((i:Int)+1)=(i:Int)+1:=by unfold wrap64;omega
   have HWI:=hid hwi;have HPI:=hid (HP.out.below HBW.out HP.out.lt);have hcall:=fun (W:World) (hW:BindB W g bs) (hV2:Vrs W vA vs)=>accept_any g hA hc vA vc rA rc ⟨st,sym,hood,vs,rs⟩ bs e s W hW hV2 HEL.out.1 HV.out.2 HEL.out.2;dsimp only at hcall;rw[← HVS.out] at hcall;obtain⟨ok,hok⟩:∃ x,x=(acceptP vars bs e s).1:=⟨_,rfl⟩
   obtain⟨fv,hfv⟩:∃ x,x=(acceptP vars bs e s).2.1:=⟨_,rfl⟩
   obtain⟨b',hb'⟩:∃ x,x=(acceptP vars bs e s).2.2:=⟨_,rfl⟩
   rw[← hok,← hb'] at HS;rw[← hok,← hfv,← hb'] at hcall;have HCALL:=hid hcall;have HVW:Hid (Vrs wr vA vs):=hid (HV.out.1.ext (HB0.out.trans (HBW.out.mono HB0.out.size)));have HCI:=hid hci;clear hee hss hok hfv hb' hcall hel hz0 hi0 hi hwi hci;go_upto_region 5 with fail
   refine wp_region_J (by kernel_rfl) (fun listed act w'=>∃ b0 b1 b2 b3 b4 b5 b6 b7 b8 b9 b10 b11 b12 v23 v24 v25 v26 v27 v28 v29 v30 v22 v31 v32 v11 v12,listed=#[b0,b1,b2,b3,b4,b5,b6,b7,b8,b9,b10,b11,b12]∧act=Act.mk #[.agg #[.int .i64 st,.int .i64 sym,.slice hA hood.length hc,.slice vA vs.length vc,.slice rA rs.length rc],.agg #[.slice (some ⟨zb,zo,none⟩) ins.length zc,.int .i64 out],.slice (some ⟨ib,io,none⟩) inn.length ic,.pointer (some ⟨w.heap.size,0,none⟩),.pointer (some ⟨w.heap.size+1,0,none⟩),undef,u6,u7,.pointer (some ⟨g,0,none⟩),.int .i64 ↑i,.int .i64 e,v11,v12,.pointer (some ⟨g,0,none⟩),.pointer (some ⟨w.heap.size+1,0,none⟩),.slice (some ⟨zb,zo,none⟩) ins.length zc,.int .i64 ↑ins.length,.int .i64 ↑i,.bool true,.int .i64 ↑i,.pointer (some ⟨zb,zo+i,none⟩),.int .i64 e,v22,v23,v24,v25,v26,v27,v28,v29,v30,v31,v32,u33,u34,u35,undef,undef,undef] []∧Pl5J wr (g) (.agg #[.int .i64 st,.int .i64 sym,.slice hA hood.length hc,.slice vA vs.length vc,.slice rA rs.length rc]) (e) (.slice (some ⟨ib,io,none⟩) inn.length ic) (i) (ib) (io) (s) (ok) (fv) (b') b0 b1 b2 b3 b4 b5 b6 b7 b8 b9 b10 b11 b12 v23 v24 v25 v26 v27 v28 v29 v30 v22 v31 v32 v11 v12 w') ?_ ?_ ?_
   ·exact (e_8 (e_8 (e_8 (e_2 ⟨rfl,rfl,(by constructor;(case wa=>exact (fun _=>rfl));all_goals simp)⟩))))
   ·rintro i listed act w' hi ⟨b0,b1,b2,b3,b4,b5,b6,b7,b8,b9,b10,b11,b12,v23,v24,v25,v26,v27,v28,v29,v30,v22,v31,v32,v11,v12,rfl,rfl,H⟩;have hi16:i < 13:=by
     obtain⟨-,o,ho,-⟩:=mem_ready.1 hi;exact (Array.getElem?_eq_some_iff.1 ho).1
    obtain rfl | rfl | rfl | rfl | rfl | rfl | rfl | rfl | rfl | rfl | rfl | rfl | rfl:i=0∨i=1∨i=2∨i=3∨i=4∨i=5∨i=6∨i=7∨i=8∨i=9∨i=10∨i=11∨i=12:=by omega
    all_goals simp[mem_ready,Region.binds] at hi
    ·refine wpOp_hidden rfl fun K hK=>?_;go_wp2;refine OnlyN.mk (hK.out _ _ (e_8 (e_8 (e_8 (e_2 ⟨rfl,rfl,{ H with h0:=fun _=>rfl,o7:=fun h=>⟨rfl,(H.o7 h).2.1,(H.o7 h).2.2.1,(H.o7 h).2.2.2⟩ }⟩)))))
    ·have bcf:b7=false:=by
      cases hb:b7 with
      | false=>rfl
      | true=>exact absurd (H.o7 hb).2.1 (by simp[hi])
     obtain rfl:=H.wa bcf;have BCF:=hid bcf;clear bcf;have hcc:=HPI.out.below (Below.refl _ wr).drew HPI.out.lt;have cc0:=hcc.cell_ 0 (.int .i64 st) rfl;have cc1:=hcc.cell_ 1 (.int .i64 sym) rfl;have cc2:=hcc.cell_ 2 (.slice hA hood.length hc) rfl;have cc3:=hcc.cell_ 3 (.slice vA vs.length vc) rfl;have cc4:=hcc.cell_ 4 (.slice rA rs.length rc) rfl;clear hcc;refine wpOp_hidden rfl fun K hK=>?_;go_wp2;refine OnlyN.mk (hK.out _ _ (e_8 (e_8 (e_8 (e_2 ⟨rfl,rfl,{ H with h1:=fun _=>rfl,o7:=fun h=>⟨(H.o7 h).1,rfl,(H.o7 h).2.2.1,(H.o7 h).2.2.2⟩ }⟩)))))
    ·refine wpOp_hidden rfl fun K hK=>?_;go_wp2;refine OnlyN.mk (hK.out _ _ (e_8 (e_8 (e_8 (e_2 ⟨rfl,rfl,{ H with h2:=fun _=>rfl,o7:=fun h=>⟨(H.o7 h).1,(H.o7 h).2.1,rfl,(H.o7 h).2.2.2⟩ }⟩)))))
    ·refine wpOp_hidden rfl fun K hK=>?_;go_wp2;refine OnlyN.mk (hK.out _ _ (e_8 (e_8 (e_8 (e_2 ⟨rfl,rfl,{ H with h3:=fun _=>rfl,o5:=fun h=>⟨rfl,(H.o5 h).2⟩ }⟩)))))
    ·refine wpOp_hidden rfl fun K hK=>?_;go_wp2;refine OnlyN.mk (hK.out _ _ (e_8 (e_8 (e_8 (e_2 ⟨rfl,rfl,{ H with h4:=fun _=>rfl,o5:=fun h=>⟨(H.o5 h).1,rfl⟩ }⟩)))))
    ·obtain rfl:=H.h3 (by simp[hi]);obtain rfl:=H.h4 (by simp[hi]);refine wpOp_hidden rfl fun K hK=>?_;go_wp2;refine OnlyN.mk (hK.out _ _ (e_8 (e_8 (e_8 (e_2 ⟨rfl,rfl,{ H with h5:=fun _=>rfl,o5:=fun _=>(by simp[hi]),o6:=fun h=>rfl }⟩)))))
    ·obtain rfl:=H.h5 (by simp[hi]);have bcf:b7=false:=by
      cases hb:b7 with
      | false=>rfl
      | true=>exact absurd (H.o7 hb).2.2.2 (by simp[hi])
     obtain rfl:=H.wa bcf;have BCF:=hid bcf;clear bcf;have cc:(World.drew wr).cell? ⟨ib,io+i,none⟩=some (.int .i64 s):=HCI.out;refine wpOp_hidden rfl fun K hK=>?_;go_wp2;refine OnlyN.mk (hK.out _ _ (e_8 (e_8 (e_8 (e_2 ⟨rfl,rfl,{ H with h6:=fun _=>rfl,o6:=fun _=>(by simp[hi]),o7:=fun h=>⟨(H.o7 h).1,(H.o7 h).2.1,(H.o7 h).2.2.1,rfl⟩ }⟩)))))
    ·obtain rfl:=H.h0 (by simp[hi]);obtain rfl:=H.h1 (by simp[hi]);obtain rfl:=H.h2 (by simp[hi]);obtain rfl:=H.h6 (by simp[hi]);obtain rfl:=H.wa (by simp[hi]);refine wpOp_hidden rfl fun K hK=>?_;have hB7:BindB (World.drew wr) g bs:=HBI.out.ext (Below.refl _ wr).drew;have hcall7:=HCALL.out (World.drew wr) hB7 (HVW.out.ext (Below.refl _ wr).drew);have HC7:=hid hcall7;clear hcall7 hB7;go_wp2_with (go_at_call 112;refine HC7.out.mono ?_;rintro en w9 ⟨rfl,hb9,hk9⟩;refine Hid.out ?_);refine hid ?_;have HB9:=hid hb9;have HK9:=hid hk9;clear hb9 hk9 HC7;go_wp2;refine OnlyN.mk (hK.out _ _ (e_8 (e_8 (e_8 (e_2 ⟨rfl,rfl,{ H with h7:=fun _=>rfl,wa:=fun h=>(by cases h),wd:=fun _=>⟨HB9.out,HK9.out⟩,o7:=fun _=>(by simp[hi]),o8:=fun h=>rfl }⟩)))))
    ·obtain rfl:=H.h7 (by simp[hi]);refine wpOp_hidden rfl fun K hK=>?_;go_wp2;refine OnlyN.mk (hK.out _ _ (e_8 (e_8 (e_8 (e_2 ⟨rfl,rfl,{ H with h8:=fun _=>rfl,o8:=fun _=>(by simp[hi]),o9:=fun h=>rfl,o10:=fun h=>rfl }⟩)))))
    ·obtain rfl:=H.h8 (by simp[hi]);refine wpOp_hidden rfl fun K hK=>?_;go_wp2;refine OnlyN.mk (hK.out _ _ (e_8 (e_8 (e_8 (e_2 ⟨rfl,rfl,{ H with h9:=fun _=>rfl,o9:=fun _=>(by simp[hi]),o11:=fun h=>rfl }⟩)))))
    ·obtain rfl:=H.h8 (by simp[hi]);refine wpOp_hidden rfl fun K hK=>?_;go_wp2;refine OnlyN.mk (hK.out _ _ (e_8 (e_8 (e_8 (e_2 ⟨rfl,rfl,{ H with h10:=fun _=>rfl,o10:=fun _=>(by simp[hi]),o12:=fun h=>⟨rfl,(H.o12 h).2⟩ }⟩)))))
    ·obtain rfl:=H.h9 (by simp[hi]);refine wpOp_hidden rfl fun K hK=>?_;go_wp2;refine OnlyN.mk (hK.out _ _ (e_8 (e_8 (e_8 (e_2 ⟨rfl,rfl,{ H with h11:=fun _=>rfl,o11:=fun _=>(by simp[hi]),o12:=fun h=>⟨(H.o12 h).1,rfl⟩ }⟩)))))
    ·obtain rfl:=H.h10 (by simp[hi]);obtain rfl:=H.h11 (by simp[hi]);refine wpOp_hidden rfl fun K hK=>?_;go_wp2;refine OnlyN.mk (hK.out _ _ (e_8 (e_8 (e_8 (e_2 ⟨rfl,rfl,{ H with h12:=fun _=>rfl,o12:=fun _=>(by simp[hi]) }⟩)))))
   ·rintro listed act w' hr ⟨b0,b1,b2,b3,b4,b5,b6,b7,b8,b9,b10,b11,b12,v23,v24,v25,v26,v27,v28,v29,v30,v22,v31,v32,v11,v12,rfl,rfl,H⟩;have hn:=List.eq_nil_iff_forall_not_mem.1 hr;have r0:=hn 0;simp[mem_ready,Region.binds] at r0;subst r0;have r1:=hn 1;simp[mem_ready,Region.binds] at r1;subst r1;have r2:=hn 2;simp[mem_ready,Region.binds] at r2;subst r2;have r3:=hn 3;simp[mem_ready,Region.binds] at r3;subst r3;have r4:=hn 4;simp[mem_ready,Region.binds] at r4;subst r4;have r5:=hn 5;simp[mem_ready,Region.binds] at r5;subst r5;have r6:=hn 6;simp[mem_ready,Region.binds] at r6;subst r6;have r7:=hn 7;simp[mem_ready,Region.binds] at r7;subst r7;have r8:=hn 8;simp[mem_ready,Region.binds] at r8;subst r8;have r9:=hn 9;simp[mem_ready,Region.binds] at r9;subst r9;have r10:=hn 10;simp[mem_ready,Region.binds] at r10;subst r10;have r11:=hn 11;simp[mem_ready,Region.binds] at r11;subst r11;have r12:=hn 12;simp[mem_ready,Region.binds] at r12;subst r12;try dsimp only
    obtain⟨hb9,hk9⟩:=H.wd rfl;obtain rfl:=H.h11 rfl;obtain rfl:=H.h12 rfl;obtain⟨w6,rfl⟩:∃ w6:World,w6=w':=⟨_,rfl⟩
    have HB6:=hid hb9;have HW6:Hid (Below w0.heap.size w0 w6):=hid (HBW.out.trans ((((Kept.refl (fun x=>x=g) wr).drew).trans hk9).to_below HBW.out.size (fun x hx e=>by have:=HG.out.1;omega)));clear H hr hn hb9 hk9;cases ok with
    | false=>
     have HPL:Hid (plainP vars ins out inn=(0,false)):=hid (plainP_none (by rw[HS.out];rfl));go_wp2;go_ret2;exact⟨(by first | (rw[HPL.out];done) | (rw[HPL.out];rfl)),HB0.out.trans (HW6.out.mono HB0.out.size)⟩
    | true=>
     have HT2:Hid (bindAll vars ins inn negL=bindAll vars (ins.drop (i+1)) (inn.drop (i+1)) b'):=hid (by rw[HS.out];rfl);go_wp2;go_roundw
     case rel=>exact⟨i+1,b',HI.out.1,(by first | rfl | (rw[HWI.out];rfl)),HB6,HW6,HT2⟩
     case measure=>(try rw[HWI.out]);exact meas_step HI.out.1
  ·obtain rfl:i=ins.length:=Nat.le_antisymm hi (Nat.le_of_not_lt hil);have hfin:=HT.out;rw[List.drop_length] at hfin;have HPL:Hid (plainP vars ins out inn=(outP bs out,true)):=hid (plainP_some hfin);have hq7:=HQ.out.below HBW.out HQ.out.lt;have y0:=hq7.cell_ 0 (.slice zA ins.length zc) rfl;have y1:=hq7.cell_ 1 (.int .i64 out) rfl;have hcall:=out_any g zA ins.length zc bs out wr HBI.out (fun h=>Nat.lt_of_lt_of_le (HE.out.2.1 h) HV.out.2) HE.out.2.2;have HCALL:=hid hcall;clear hi hil hfin hq7 hcall;go_wp2_with (go_at_call 114;refine HCALL.out.mono ?_;rintro e w2 ⟨rfl,hb2⟩;refine Hid.out ?_);refine hid ?_;go_wp2;go_ret2;exact⟨(by first | (rw[HPL.out];done) | (rw[HPL.out];rfl)),HB0.out.trans ((HBW.out.trans (hb2.mono HBW.out.size)).mono HB0.out.size)⟩
def turnedP (hood:List (Int × Int))(k:Int)(inn:List Int):List Int:=hood.map fun q=>inn.getD (idxF (symP k q) 0 hood).toNat 0
def fillL (l:List Int)(i:Nat):List Int:=l.take i ++ List.replicate (l.length - i) 0
theorem fillL_zero (l:List Int):fillL l 0=List.replicate l.length 0:=by simp[fillL]
theorem fillL_len {l:List Int}{i:Nat}(h:i≤l.length):(fillL l i).length=l.length:=by
 unfold fillL;rw[List.length_append,List.length_take,List.length_replicate];omega
theorem fillL_all (l:List Int):fillL l l.length=l:=by simp[fillL]
theorem fillL_step {l:List Int}{i:Nat}(h:i < l.length):(fillL l i).set i l[i]=fillL l (i+1):=by
 unfold fillL;have e:l.length - i=(l.length - (i+1))+1:=by omega
 rw[e,List.replicate_succ,List.set_append_right _ _ (by rw[List.length_take];omega),List.length_take,Nat.min_eq_left (Nat.le_of_lt h),Nat.sub_self,List.set_cons_zero,← List.take_append_getElem h,List.append_assoc];rfl
theorem idxF_lt' {α:Type} [DecidableEq α] {p:α}:∀ (xs:List α)(k:Nat),p ∈ xs→∃ j:Nat,idxF p k xs=(j:Int)∧k≤j∧j < k+xs.length
 | [],k,h=>absurd h (by simp)
 | x :: l,k,h=>by
  unfold idxF;by_cases hx:x=p
  ·rw[if_pos hx];exact⟨k,rfl,Nat.le_refl _,by simp⟩
  ·rw[if_neg hx];rcases List.mem_cons.1 h with e | e
   ·exact absurd e.symm hx
   ·obtain⟨j,h1,h2,h3⟩:=idxF_lt' l (k+1) e;exact⟨j,h1,by omega,by rw[List.length_cons];omega⟩
structure Tu5J (V:World)(gO:Nat)(n:Nat)(i:Nat)(iv:Value)(gT:Nat)(pv:Value)(kk:Int)(xv:Value)(zv:Value)(j:Nat)(ib:Nat)(io:Nat)(s:Int)(b0 b1 b2 b3 b4 b5 b6 b7 b8 b9 b10 b11 b12:Bool)(v21 v22 v23 v24 v25 v26 v27 v28 v29 v30 v31 v32:Value)(w:World):Prop where
 h0:b0=true→v21=.slice (some ⟨gO,0,none⟩) n n
 h1:b1=true→v22=.int .i64 (i:Int)
 h2:b2=true→v23=iv
 h3:b3=true→v24=.pointer (some ⟨gT,2,none⟩)
 h4:b4=true→v25=pv
 h5:b5=true→v26=.int .i64 kk
 h6:b6=true→v27=xv
 h7:b7=true→v28=zv
 h8:b8=true→v29=.int .i64 (j:Int)
 h9:b9=true→v30=.pointer (some ⟨ib,io+j,none⟩)
 h10:b10=true→v31=.int .i64 s
 h11:b11=true→v32=.pointer (some ⟨gO,i,none⟩)
 below:b12=false→Below V.heap.size V w
 wd:b12=true→∃ W9:World,Below V.heap.size V W9∧w=W9.setCell ⟨gO,i,none⟩ (.int .i64 s)
 o4:b4=true→b3=true
 o7:b7=true→b5=true∧b6=true
 o8:b8=true→b4=true∧b7=true
 o9:b9=true→b2=true∧b8=true
 o10:b10=true→b9=true
 o11:b11=true→b0=true∧b1=true
 o12:b12=true→b11=true∧b10=true
set_option maxHeartbeats 16000000 in
theorem turned_any (hA:Option Addr)(hc:Nat)(vA:Option Addr)(vc:Nat)(rA:Option Addr)(rc:Nat)(t:TabH)(k:Int)(iA:Option Addr)(ic:Nat)(inn:List Int)(w:World)(hp:Pts w hA t.hood)(hi:Ints w iA inn)(hl:inn.length=t.hood.length)(hn:t.hood.length≤25)(hr:∀ p ∈ t.hood,-2≤p.1∧p.1≤2∧-2≤p.2∧p.2≤2)(hcl:∀ q ∈ t.hood,symP k q ∈ t.hood)(hG:GMat w) :
  Calls Tryz.prog 77 #[tabV hA hc vA vc rA rc t,.int .i64 k,.slice iA inn.length ic] w fun e w'=>∃ A c,e=.returned (.slice A inn.length c)∧Ints w' A (turnedP t.hood k inn)∧Below w.heap.size w w':=by
 obtain⟨st,sym,hood,vs,rs⟩:=t;unfold tabV;dsimp only at hp hl hn hr hcl ⊢;obtain⟨w0,hw0⟩:∃ w0,w0=w.alloc (.cells #[.int .i64 st,.int .i64 sym,.slice hA hood.length hc,.slice vA vs.length vc,.slice rA rs.length rc] 26):=⟨_,rfl⟩
 have hb0:Below w.heap.size w w0:=by rw[hw0];exact below_new _ _
 have p0:Blk w0 w.heap.size 26 #[.int .i64 st,.int .i64 sym,.slice hA hood.length hc,.slice vA vs.length vc,.slice rA rs.length rc]:=by rw[hw0];exact Blk.new _ _ _
 obtain⟨gT,hgT⟩:∃ g,g=w.heap.size:=⟨_,rfl⟩
 rw[← hgT] at p0;obtain⟨res,hres⟩:∃ r,r=turnedP hood k inn:=⟨_,rfl⟩
 rw[← hres];have HRES:Hid (∀ i (h:i < hood.length),res.length=hood.length∧res[i]?=some (inn.getD (idxF (symP k hood[i]) 0 hood).toNat 0)):=hid (fun i h=>by
  rw[hres];unfold turnedP;rw[List.length_map,List.getElem?_map,List.getElem?_eq_getElem h];exact⟨rfl,rfl⟩)
 have hrl:res.length=hood.length:=by rw[hres];unfold turnedP;rw[List.length_map]
 have HRL:=hid hrl;have HB0:=hid hb0;have HP:=hid p0;have HW0:=hid (And.intro hw0 hgT);have HX:=hid (And.intro (hp.ext hb0) (And.intro (hi.ext hb0) (hG.ext hb0)));have HC:=hid (And.intro hr hcl);have HL:=hid (And.intro hl hn);have hin9:inn.length≤9223372036854775807:=hi.le;have hho9:hood.length≤9223372036854775807:=hp.le;obtain⟨i0,hi0,hz0,hz1,hz2⟩:=info_parts Tryz.infoInt;have hmw:w0.heap.size≤w0.heap.size:=Nat.le_refl _;have hil:inn.length≤25:=by omega
 clear hb0 p0 hw0 hgT hp hi hl hn hr hcl hG hres hrl;go_enter Tryz.func77,Tryz.ntmps77;go_upto_region 1 with fail
 rw[← HW0.out.1,← HW0.out.2];go_wp2_with (at_make;refine wpList_make_full _ rfl _ _ 30 rfl w0.heap.size 3 i0 _ 1 Tryz.underlying30 hi0 hz0 hz1 .i64 .i64 inn.length inn.length inn.length rfl rfl rfl rfl (by rw[hz2];omega) (by unfold maxLen;omega) hmw ?_);intro w1 ho1 hg1;have hb1:Below w0.heap.size w0 w1:=(Below.refl _ w0).grown hg1 (Nat.le_refl _) (by intro k hk;cases hk);have hr1:OwnIA w1 w0.heap.size (.slice (some ⟨w0.heap.size,0,none⟩) inn.length inn.length) (fillL res 0):=by
  unfold OwnIA OwnI;rw[fillL_zero,HRL.out,← HL.out.1,List.length_replicate,List.map_replicate];rw[toList_madeCells_one] at ho1;exact ho1
 obtain⟨gO,hgO⟩:∃ g,g=w0.heap.size:=⟨_,rfl⟩
 have HGO:Hid (gO=w0.heap.size):=hid hgO;have HGL:Hid (w0.heap.size≤gO):=hid (by rw[hgO];exact Nat.le_refl _);rw[← hgO] at hr1 ⊢;have HR1:Hid (OwnIA w1 w0.heap.size (.slice (some ⟨gO,0,none⟩) inn.length inn.length) (fillL res 0)):=hid (by rw[hgO] at hr1 ⊢;exact hr1);have HB1:=hid hb1;have c2:=(HP.out.below hb1 HP.out.lt).cell_ 2 (.slice hA hood.length hc) rfl;clear ho1 hg1 hb1 hr1 hgO hi0 hz0 hz1 hz2 hmw hil;go_wp2;clear c2;go_loopw [16] (fun iv wr=>∃ i:Nat,i≤hood.length∧iv=.int .i64 i∧Hid (OwnIA wr w0.heap.size (.slice (some ⟨gO,0,none⟩) inn.length inn.length) (fillL res i))∧Hid (Below w0.heap.size w0 wr)) (fun iv _=>hood.length - (intOf iv).toNat)
 case atStart=>exact⟨0,Nat.zero_le _,rfl,HR1,HB1⟩
 case round=>
  obtain⟨i,hi,rfl,HO,HBW⟩:=hrel;by_cases hil:i < hood.length
  ·obtain⟨pb,po,ep,-,hc0,hc1⟩:=(HX.out.1.ext HBW.out).at_ hil;obtain⟨q,hq⟩:∃ q,q=hood[i]:=⟨_,rfl⟩
   have hqm:q ∈ hood:=by rw[hq];exact List.getElem_mem hil
   rw[← hq] at hc0 hc1;obtain⟨j,hj,-,hjl⟩:=idxF_lt' hood 0 (HC.out.2 q hqm);rw[Nat.zero_add] at hjl;have hjn:j < inn.length:=by rw[HL.out.1];exact hjl
   obtain⟨ib,io,ei,hlt,hci⟩:=(HX.out.2.1.ext HBW.out).at_ hjn;obtain⟨s,hs⟩:∃ s,s=inn[j]:=⟨_,rfl⟩
   rw[← hs] at hci;have HST:Hid ((fillL res i).set i s=fillL res (i+1)):=hid (by
    have h1:=HRES.out i hil;have h2:i < res.length:=by rw[HRL.out];exact hil
    rw[← fillL_step h2];have h3:=h1.2;rw[List.getElem?_eq_getElem h2,← hq,hj] at h3;injection h3 with h3
    rw[h3,Int.toNat_natCast,List.getD_eq_getElem?_getD,List.getElem?_eq_getElem hjn,hs];rfl)
   subst ep ei;have hqr:=HC.out.1 q hqm;obtain⟨q1,q2⟩:=q;dsimp only at hc0 hc1 hqr;have HQR:=hid hqr;have HJ:=hid (And.intro hj hjn);have HI:=hid hil;have hwi:wrap64 ((i:Int)+1)=(i:Int)+1:=by unfold wrap64;omega
   have HWI:=hid hwi;obtain⟨wb,hwb⟩:∃ W,W=wr.alloc (.cells #[.int .i64 q1,.int .i64 q2] 43):=⟨_,rfl⟩
   have hbb:Below wr.heap.size wr wb:=by rw[hwb];exact below_new _ _
   obtain⟨gQ,hgQ⟩:∃ g,g=wr.heap.size:=⟨_,rfl⟩
   have HQB:Hid (Blk wb gQ 43 #[.int .i64 q1,.int .i64 q2]):=hid (by rw[hgQ,hwb];exact Blk.new _ _ _);have HBB:=hid (HBW.out.trans (hbb.mono HBW.out.size));have HOB:=hid (HO.out.ext hbb);have HWB:=hid (And.intro hwb hgQ);have HPB:=hid (HP.out.below HBB.out HP.out.lt);have HCI:Hid (∀ W,Below wb.heap.size wb W→W.cell? ⟨ib,io+j,none⟩=some (.int .i64 s)):=hid (fun W hW=>by
    have h1:wb.cell? ⟨ib,io+j,none⟩=some (.int .i64 s):=(World.cell?_of_block (hbb.block _ hlt)).trans hci;exact (World.cell?_of_block (hW.block _ (Nat.lt_of_lt_of_le hlt hbb.size))).trans h1)
   have HCA:Hid (∀ W,Below wb.heap.size wb W→Calls Tryz.prog 23 #[.int .i64 k,.agg #[.int .i64 q1,.int .i64 q2]] W fun e w'=>e=.returned (.agg #[.int .i64 (symP k (q1,q2)).1,.int .i64 (symP k (q1,q2)).2])∧Below W.heap.size W w'):=hid (fun W hW=>apply_any k q1 q2 W ((HX.out.2.2.ext HBB.out).ext hW) ⟨by have:=HQR.out;omega,by have:=HQR.out;omega⟩ ⟨by have:=HQR.out;omega,by have:=HQR.out;omega⟩);obtain⟨z,hz⟩:∃ z,z=symP k (q1,q2):=⟨_,rfl⟩
   rw[← hz] at HCA HJ;obtain⟨z1,z2⟩:=z;dsimp only at HCA;have HCX:Hid (∀ W,Below wb.heap.size wb W→Calls Tryz.prog 83 #[.slice (some ⟨pb,po,none⟩) hood.length hc,.agg #[.int .i64 z1,.int .i64 z2]] W fun e w'=>e=.returned (.int .i64 (j:Int))∧Below W.heap.size W w'):=hid (fun W hW=>by
    have:=pidx_any (some ⟨pb,po,none⟩) hood hc z1 z2 W ((HX.out.1.ext HBB.out).ext hW);rw[HJ.out.1] at this;exact this)
   clear hq hqm hj hjl hlt hci hs hqr hi hwi hwb hgQ hbb hz;go_upto_region 5 with fail
   rw[← HWB.out.1,← HWB.out.2];refine wp_region_J (by kernel_rfl) (fun listed act w'=>∃ b0 b1 b2 b3 b4 b5 b6 b7 b8 b9 b10 b11 b12 v21 v22 v23 v24 v25 v26 v27 v28 v29 v30 v31 v32,listed=#[b0,b1,b2,b3,b4,b5,b6,b7,b8,b9,b10,b11,b12]∧act=Act.mk #[.agg #[.int .i64 st,.int .i64 sym,.slice (some ⟨pb,po,none⟩) hood.length hc,.slice vA vs.length vc,.slice rA rs.length rc],.int .i64 k,.slice (some ⟨ib,io,none⟩) inn.length ic,.pointer (some ⟨gT,0,none⟩),undef,undef,.slice none 0 0,.slice (some ⟨gO,0,none⟩) inn.length inn.length,.int .i64 ↑i,.pointer (some ⟨gQ,0,none⟩),.slice (some ⟨ib,io,none⟩) inn.length ic,.int .i64 ↑inn.length,.slice (some ⟨gO,0,none⟩) inn.length inn.length,.pointer (some ⟨gT,2,none⟩),.slice (some ⟨pb,po,none⟩) hood.length hc,.int .i64 ↑hood.length,.int .i64 ↑i,.bool true,.int .i64 ↑i,.pointer (some ⟨pb,po+i*2,none⟩),.agg #[.int .i64 q1,.int .i64 q2],v21,v22,v23,v24,v25,v26,v27,v28,v29,v30,v31,v32,u33,undef] []∧Tu5J wb (gO) (inn.length) (i) (.slice (some ⟨ib,io,none⟩) inn.length ic) (gT) (.slice (some ⟨pb,po,none⟩) hood.length hc) (k) (.agg #[.int .i64 q1,.int .i64 q2]) (.agg #[.int .i64 z1,.int .i64 z2]) (j) (ib) (io) (s) b0 b1 b2 b3 b4 b5 b6 b7 b8 b9 b10 b11 b12 v21 v22 v23 v24 v25 v26 v27 v28 v29 v30 v31 v32 w') ?_ ?_ ?_
   ·exact (e_8 (e_8 (e_8 (e_1 ⟨rfl,rfl,(by constructor;(case below=>exact (fun _=>(Below.refl _ wb).drew));all_goals simp)⟩))))
   ·rintro i listed act w' hi ⟨b0,b1,b2,b3,b4,b5,b6,b7,b8,b9,b10,b11,b12,v21,v22,v23,v24,v25,v26,v27,v28,v29,v30,v31,v32,rfl,rfl,H⟩;have hi16:i < 13:=by
     obtain⟨-,o,ho,-⟩:=mem_ready.1 hi;exact (Array.getElem?_eq_some_iff.1 ho).1
    obtain rfl | rfl | rfl | rfl | rfl | rfl | rfl | rfl | rfl | rfl | rfl | rfl | rfl:i=0∨i=1∨i=2∨i=3∨i=4∨i=5∨i=6∨i=7∨i=8∨i=9∨i=10∨i=11∨i=12:=by omega
    all_goals simp[mem_ready,Region.binds] at hi
    ·refine wpOp_hidden rfl fun K hK=>?_;go_wp2;refine OnlyN.mk (hK.out _ _ (e_8 (e_8 (e_8 (e_1 ⟨rfl,rfl,{ H with h0:=fun _=>rfl,o11:=fun h=>⟨rfl,(H.o11 h).2⟩ }⟩)))))
    ·refine wpOp_hidden rfl fun K hK=>?_;go_wp2;refine OnlyN.mk (hK.out _ _ (e_8 (e_8 (e_8 (e_1 ⟨rfl,rfl,{ H with h1:=fun _=>rfl,o11:=fun h=>⟨(H.o11 h).1,rfl⟩ }⟩)))))
    ·refine wpOp_hidden rfl fun K hK=>?_;go_wp2;refine OnlyN.mk (hK.out _ _ (e_8 (e_8 (e_8 (e_1 ⟨rfl,rfl,{ H with h2:=fun _=>rfl,o9:=fun h=>⟨rfl,(H.o9 h).2⟩ }⟩)))))
    ·refine wpOp_hidden rfl fun K hK=>?_;go_wp2;refine OnlyN.mk (hK.out _ _ (e_8 (e_8 (e_8 (e_1 ⟨rfl,rfl,{ H with h3:=fun _=>rfl,o4:=fun h=>rfl }⟩)))))
    ·obtain rfl:=H.h3 (by simp[hi]);have bff:b12=false:=by
      cases hb:b12 with
      | false=>rfl
      | true=>exact absurd (H.o8 (H.o9 (H.o10 (H.o12 hb).2)).2).1 (by simp[hi])
     have hB:=H.below bff;have BFF:=hid bff;clear bff;have cc:=(HPB.out.below hB HPB.out.lt).cell_ 2 (.slice (some ⟨pb,po,none⟩) hood.length hc) rfl;clear hB;refine wpOp_hidden rfl fun K hK=>?_;go_wp2;refine OnlyN.mk (hK.out _ _ (e_8 (e_8 (e_8 (e_1 ⟨rfl,rfl,{ H with h4:=fun _=>rfl,o4:=fun _=>(by simp[hi]),o8:=fun h=>⟨rfl,(H.o8 h).2⟩ }⟩)))))
    ·refine wpOp_hidden rfl fun K hK=>?_;go_wp2;refine OnlyN.mk (hK.out _ _ (e_8 (e_8 (e_8 (e_1 ⟨rfl,rfl,{ H with h5:=fun _=>rfl,o7:=fun h=>⟨rfl,(H.o7 h).2⟩ }⟩)))))
    ·have bff:b12=false:=by
      cases hb:b12 with
      | false=>rfl
      | true=>exact absurd (H.o7 (H.o8 (H.o9 (H.o10 (H.o12 hb).2)).2).2).2 (by simp[hi])
     have hB:=H.below bff;have BFF:=hid bff;clear bff;have hq5:=HQB.out.below hB HQB.out.lt;have cc0:=hq5.cell_ 0 (.int .i64 q1) rfl;have cc1:=hq5.cell_ 1 (.int .i64 q2) rfl;clear hq5;clear hB;refine wpOp_hidden rfl fun K hK=>?_;go_wp2;refine OnlyN.mk (hK.out _ _ (e_8 (e_8 (e_8 (e_1 ⟨rfl,rfl,{ H with h6:=fun _=>rfl,o7:=fun h=>⟨(H.o7 h).1,rfl⟩ }⟩)))))
    ·obtain rfl:=H.h5 (by simp[hi]);obtain rfl:=H.h6 (by simp[hi]);have bff:b12=false:=by
      cases hb:b12 with
      | false=>rfl
      | true=>exact absurd (H.o8 (H.o9 (H.o10 (H.o12 hb).2)).2).2 (by simp[hi])
     have hB:=H.below bff;have BFF:=hid bff;clear bff;have HC5:=hid (HCA.out w' hB);have HBW:=hid hB;clear hB;refine wpOp_hidden rfl fun K hK=>?_;go_wp2_with (go_at_call 23;refine HC5.out.mono ?_;rintro e w9 ⟨rfl,hb9⟩;refine Hid.out ?_);refine hid ?_;clear HC5;have HB9:=hid hb9;have HBN:=hid (HBW.out.trans (hb9.mono HBW.out.size));clear hb9;go_wp2;refine OnlyN.mk (hK.out _ _ (e_8 (e_8 (e_8 (e_1 ⟨rfl,rfl,{ H with h7:=fun _=>rfl,below:=fun _=>HBN.out,wd:=fun h=>absurd h (by rw[BFF.out];decide),o7:=fun _=>(by simp[hi]),o8:=fun h=>⟨(H.o8 h).1,rfl⟩ }⟩)))))
    ·obtain rfl:=H.h4 (by simp[hi]);obtain rfl:=H.h7 (by simp[hi]);have bff:b12=false:=by
      cases hb:b12 with
      | false=>rfl
      | true=>exact absurd (H.o9 (H.o10 (H.o12 hb).2)).2 (by simp[hi])
     have hB:=H.below bff;have BFF:=hid bff;clear bff;have HC5:=hid (HCX.out w' hB);have HBW:=hid hB;clear hB;refine wpOp_hidden rfl fun K hK=>?_;go_wp2_with (go_at_call 83;refine HC5.out.mono ?_;rintro e w9 ⟨rfl,hb9⟩;refine Hid.out ?_);refine hid ?_;clear HC5;have HB9:=hid hb9;have HBN:=hid (HBW.out.trans (hb9.mono HBW.out.size));clear hb9;go_wp2;refine OnlyN.mk (hK.out _ _ (e_8 (e_8 (e_8 (e_1 ⟨rfl,rfl,{ H with h8:=fun _=>rfl,below:=fun _=>HBN.out,wd:=fun h=>absurd h (by rw[BFF.out];decide),o8:=fun _=>(by simp[hi]),o9:=fun h=>⟨(H.o9 h).1,rfl⟩ }⟩)))))
    ·obtain rfl:=H.h2 (by simp[hi]);obtain rfl:=H.h8 (by simp[hi]);have hj9:j < inn.length:=HJ.out.2;refine wpOp_hidden rfl fun K hK=>?_;go_wp2;refine OnlyN.mk (hK.out _ _ (e_8 (e_8 (e_8 (e_1 ⟨rfl,rfl,{ H with h9:=fun _=>rfl,o9:=fun _=>(by simp[hi]),o10:=fun h=>rfl }⟩)))))
    ·obtain rfl:=H.h9 (by simp[hi]);have bff:b12=false:=by
      cases hb:b12 with
      | false=>rfl
      | true=>exact absurd (H.o12 hb).2 (by simp[hi])
     have hB:=H.below bff;have BFF:=hid bff;clear bff;have cc:=HCI.out w' hB;clear hB;refine wpOp_hidden rfl fun K hK=>?_;go_wp2;refine OnlyN.mk (hK.out _ _ (e_8 (e_8 (e_8 (e_1 ⟨rfl,rfl,{ H with h10:=fun _=>rfl,o10:=fun _=>(by simp[hi]),o12:=fun h=>⟨(H.o12 h).1,rfl⟩ }⟩)))))
    ·obtain rfl:=H.h0 (by simp[hi]);obtain rfl:=H.h1 (by simp[hi]);have hi9:i < inn.length:=by rw[HL.out.1];exact HI.out
     refine wpOp_hidden rfl fun K hK=>?_;go_wp2;refine OnlyN.mk (hK.out _ _ (e_8 (e_8 (e_8 (e_1 ⟨rfl,rfl,{ H with h11:=fun _=>rfl,o11:=fun _=>(by simp[hi]),o12:=fun h=>⟨rfl,(H.o12 h).2⟩ }⟩)))))
    ·obtain rfl:=H.h11 (by simp[hi]);obtain rfl:=H.h10 (by simp[hi]);have hB:=H.below (by simp[hi]);have HBW:=hid hB;clear hB;obtain⟨cr,fr⟩:=OwnI.cellk (HOB.out.ext HBW.out) (k:=i) (by rw[fillL_len (by rw[HRL.out];exact Nat.le_of_lt HI.out),HRL.out];exact HI.out);refine wpOp_hidden rfl fun K hK=>?_;go_wp2;refine OnlyN.mk (hK.out _ _ (e_8 (e_8 (e_8 (e_1 ⟨rfl,rfl,{ H with below:=fun h=>(by cases h),wd:=fun _=>⟨w',HBW.out,rfl⟩,o12:=fun _=>(by simp[hi]) }⟩)))))
   ·rintro listed act w' hr ⟨b0,b1,b2,b3,b4,b5,b6,b7,b8,b9,b10,b11,b12,v21,v22,v23,v24,v25,v26,v27,v28,v29,v30,v31,v32,rfl,rfl,H⟩;have hn:=List.eq_nil_iff_forall_not_mem.1 hr;have r0:=hn 0;simp[mem_ready,Region.binds] at r0;subst r0;have r1:=hn 1;simp[mem_ready,Region.binds] at r1;subst r1;have r2:=hn 2;simp[mem_ready,Region.binds] at r2;subst r2;have r3:=hn 3;simp[mem_ready,Region.binds] at r3;subst r3;have r4:=hn 4;simp[mem_ready,Region.binds] at r4;subst r4;have r5:=hn 5;simp[mem_ready,Region.binds] at r5;subst r5;have r6:=hn 6;simp[mem_ready,Region.binds] at r6;subst r6;have r7:=hn 7;simp[mem_ready,Region.binds] at r7;subst r7;have r8:=hn 8;simp[mem_ready,Region.binds] at r8;subst r8;have r9:=hn 9;simp[mem_ready,Region.binds] at r9;subst r9;have r10:=hn 10;simp[mem_ready,Region.binds] at r10;subst r10;have r11:=hn 11;simp[mem_ready,Region.binds] at r11;subst r11;have r12:=hn 12;simp[mem_ready,Region.binds] at r12;subst r12;try dsimp only
    obtain⟨W9,hb9,rfl⟩:=H.wd rfl;have HO9:Hid (OwnIA (W9.setCell ⟨gO,i,none⟩ (.int .i64 s)) w0.heap.size (.slice (some ⟨gO,0,none⟩) inn.length inn.length) (fillL res (i+1))):=hid (by
     rw[← HST.out];exact OwnI.set (HOB.out.ext hb9) (by rw[fillL_len (by rw[HRL.out];exact Nat.le_of_lt HI.out),HRL.out,HL.out.1]) i s)
    have HB9:Hid (Below w0.heap.size w0 (W9.setCell ⟨gO,i,none⟩ (.int .i64 s))):=hid ((HBB.out.trans (hb9.mono HBB.out.size)).setCell (p:=⟨gO,i,none⟩) HGL.out _);clear H hr hn hb9;go_wp2;go_roundw
    case rel=>exact⟨i+1,HI.out,(by first | rfl | (rw[HWI.out];rfl)),HO9,HB9⟩
    case measure=>(try rw[HWI.out]);exact meas_step HI.out
  ·obtain rfl:i=hood.length:=Nat.le_antisymm hi (Nat.le_of_not_lt hil);have hfin:=HO.out;rw[← HRL.out,fillL_all] at hfin;have HF:=hid hfin;clear hi hil hfin;go_wp2;go_ret;exact⟨_,_,rfl,OwnI.reads HF.out,HB0.out.trans (HBW.out.mono HB0.out.size)⟩
end Go.Proofs.YtcmbdhopmncmnaaGreatDoor
