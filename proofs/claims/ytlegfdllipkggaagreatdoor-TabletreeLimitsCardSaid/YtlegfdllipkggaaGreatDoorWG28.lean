/-
  texts RFind15 RGrowM RGrow RMade15: parts of the proof; conditions stand with each theorem.
-/
import Derived.Test.YtlegfdllipkggaaGreatDoorWG6
import Derived.Test.YtlegfdllipkggaaGreatDoorWG5
import Derived.Test.YtlegfdllipkggaaGreatDoorWG27
import Derived.Test.YtlegfdllipkggaaGreatDoorWG1
import Derived.Test.YtlegfdllipkggaaGreatDoorWG12
import Derived.Test.YtlegfdllipkggaaGreatDoorWG13
import Derived.Test.YtlegfdllipkggaaGreatDoorWG24
import Derived.Test.YtlegfdllipkggaaGreatDoorWG14
import Derived.Test.YtlegfdllipkggaaGreatDoorWG2
namespace Go.Proofs.YtlegfdllipkggaaGreatDoor
open Lib(hid)
open Go.RowKit Go.Sort Go.Maps
set_option maxRecDepth 100000
set_option linter.unusedVariables false
set_option linter.unusedSimpArgs false
def findP (ns:List Nd)(x:Nd):Int:=match posOf ns x with
 | some i=>(i:Int)
 | none=>-1
theorem findP_hit {ns:List Nd}{x:Nd}{k:Nat}(hk:k < ns.length)(hb:∀ y ∈ ns.take k,y≠x)(h:ns[k]?=some x):findP ns x=(k:Int):=by
 rw[List.getElem?_eq_getElem hk] at h;have h:=Option.some.inj h;have:∀ (ns:List Nd) (k:Nat) (hk:k < ns.length),(∀ y ∈ ns.take k,y≠x)→ns[k]=x→posOf ns x=some k:=by
  intro ns;induction ns with
  | nil=>intro k hk;exact absurd hk (by simp)
  | cons y r ih=>
   intro k hk hb h;unfold posOf;cases k with
   | zero=>rw[if_pos (by simpa using h)]
   | succ j=>
    rw[if_neg (hb y (by simp)),ih j (by simpa using hk) (fun z hz=>hb z (by simp[hz])) (by simpa using h)];rfl
 unfold findP;rw[this ns k hk hb h]
theorem findP_no {ns:List Nd}{x:Nd}(hb:∀ y ∈ ns,y≠x):findP ns x = -1:=by
 unfold findP;cases h:posOf ns x with
 | none=>rfl
 | some i=>
  obtain⟨h1,h2⟩:=posOf_some h;exact absurd h2 (hb _ (by unfold ndAt;rw[List.getD_eq_getElem?_getD,List.getElem?_eq_getElem h1];exact List.getElem_mem h1))
theorem take_ne {ns:List Nd}{x:Nd}{k:Nat}(hk:k < ns.length)(hb:∀ y ∈ ns.take k,y≠x){z:Nd}(h:ns[k]?=some z)(hz:z≠x):∀ y ∈ ns.take (k+1),y≠x:=by
 intro y hy;rw[List.take_add_one,h] at hy;rcases List.mem_append.1 hy with h1 | h1
 ·exact hb y h1
 ·simp at h1;rw[h1];exact hz
set_option maxHeartbeats 16000000 in
theorem rfind_any (nA:Option Addr)(nc:Nat)(os:List Hd)(lv:Int)(zA:Option Addr)(zc:Nat)(zs:List Int)(w:World)(hn:Nds w nA os)(hz:Ints w zA zs) :
  Calls Tryz.prog 75 #[.slice nA os.length nc,.agg #[.int .i64 lv,.slice zA zs.length zc]] w fun en w'=>en=.returned (.int .i64 (findP (os.map Hd.nd) (lv,zs)))∧Below w.heap.size w w':=by
 obtain⟨w0,hw0⟩:∃ w0,w0=w.alloc (.cells #[.int .i64 lv,.slice zA zs.length zc] 58):=⟨_,rfl⟩
 have hb0:Below w.heap.size w w0:=by rw[hw0];exact below_new _ _
 have p0:Blk w0 w.heap.size 58 #[.int .i64 lv,.slice zA zs.length zc]:=by rw[hw0];exact Blk.new _ _ _
 obtain⟨gT,hgT⟩:∃ g,g=w.heap.size:=⟨_,rfl⟩
 rw[← hgT] at p0;have HB0:=hid hb0;have HP:=hid p0;have HW0:=hid (And.intro hw0 hgT);have HN:=hid (And.intro (hn.ext hb0) (hz.ext hb0));have ho9:os.length≤9223372036854775807:=hn.le;obtain⟨res,hres⟩:∃ r,r=findP (os.map Hd.nd) (lv,zs):=⟨_,rfl⟩
 rw[← hres];have HRES:=hid hres;clear hb0 p0 hw0 hgT hn hz hres;go_enter Tryz.func75,Tryz.ntmps75;go_upto_region 1 with fail
 rw[← HW0.out.1,← HW0.out.2];go_wp2;go_loopw [5] (fun iv wr=>∃ k:Nat,k≤os.length∧iv=.int .i64 k∧Hid (Below w0.heap.size w0 wr)∧Hid (∀ y ∈ (os.map Hd.nd).take k,y≠(lv,zs))) (fun iv _=>os.length - (intOf iv).toNat)
 case atStart=>exact⟨0,Nat.zero_le _,rfl,hid (Below.refl _ _),hid (by simp)⟩
 case round=>
  obtain⟨k,hk,rfl,HBW,HT⟩:=hrel;by_cases hkl:k < os.length
  ·have hkm:k < (os.map Hd.nd).length:=by rw[List.length_map];exact hkl
   have hg:(os.map Hd.nd)[k]?=some (os[k]'hkl).nd:=by rw[List.getElem?_map,List.getElem?_eq_getElem hkl];rfl
   have hpw:=HP.out.below HBW.out HP.out.lt;have x0:=hpw.cell_ 0 (.int .i64 lv) rfl;have x1:=hpw.cell_ 1 (.slice zA zs.length zc) rfl;obtain⟨nb,no,eA,hlt,c0,c1,hin⟩:=(HN.out.1.ext HBW.out).at_ hkl;have hwk:wrap64 ((k:Int)+1)=(k:Int)+1:=by unfold wrap64;omega
   have HWK:=hid hwk;obtain⟨y,hy⟩:∃ y,y=os[k]'hkl:=⟨_,rfl⟩
   rw[← hy] at c0 c1 hin hg;obtain⟨yl,yA,yc,ys⟩:=y;dsimp only at c0 c1 hin;have hnd:(⟨yl,yA,yc,ys⟩:Hd).nd=(yl,ys):=rfl;rw[hnd] at hg;have HG:=hid hg;have HKM:=hid (And.intro hkm hkl);have hzi:=HN.out.2.ext HBW.out;subst eA;by_cases he:yl=lv
   ·have HSM:Hid (∀ m,Calls Tryz.prog 96 #[.slice yA ys.length yc,.slice zA zs.length zc] (wr.drewN m) fun e w'=>e=.returned (.bool (decide (ys=zs)))∧∃ k,w'=(wr.drewN m).drewN k):=hid (fun m=>(sameIntsR yA zA ys zs yc zc (wr.drewN m) (hin.drewN m) (hzi.drewN m)).mono fun e w' h=>⟨h.1,h.2⟩);have e1:((yl:Int) == lv)=true:=by simp[he]
    obtain⟨bq,hbq⟩:∃ b,b=decide (ys=zs):=⟨_,rfl⟩
    rw[← hbq] at HSM;have HBQ:=hid (And.intro he hbq);clear hk hkm hg hwk hy hnd hin hzi he hbq hpw hlt;go_upto_region 4 with fail
    go_quiet ((go_at_call 96;exact Calls.quiet_of (HSM.out _)))
    obtain⟨w6,hw6⟩:∃ w6:World,w6=wr.drewN nq:=⟨_,rfl⟩
    rw[← hw6];have HB6:Hid (Below w0.heap.size w0 w6):=hid (by rw[hw6];exact below_drewN HBW.out nq);clear hw6 x0 x1 c0 c1;cases bq with
    | true=>
     have HF:Hid (res=(k:Int)):=hid (by
      rw[HRES.out];exact findP_hit HKM.out.1 HT.out (by rw[HG.out,HBQ.out.1,of_decide_eq_true HBQ.out.2.symm]))
     go_wp2;go_ret;exact⟨ret_int HF.out.symm,HB0.out.trans (HB6.out.mono HB0.out.size)⟩
    | false=>
     have HT2:Hid (∀ y ∈ (os.map Hd.nd).take (k+1),y≠(lv,zs)):=hid (take_ne HKM.out.1 HT.out HG.out (by intro h;injection h with _ h2;exact of_decide_eq_false HBQ.out.2.symm h2));go_wp2;go_roundw
     case rel=>exact⟨k+1,HKM.out.2,(by first | rfl | (rw[HWK.out];rfl)),HB6,HT2⟩
     case measure=>(try rw[HWK.out]);exact meas_step HKM.out.2
   ·have e1:((yl:Int) == lv)=false:=by simp[he]
    have HT2:Hid (∀ y ∈ (os.map Hd.nd).take (k+1),y≠(lv,zs)):=hid (take_ne HKM.out.1 HT.out HG.out (by intro h;injection h with h2 _;exact he h2));clear hk hkm hg hwk hy hnd hin hzi he hpw hlt;go_upto_region 4 with fail
    go_quiet (fail)
    obtain⟨w6,hw6⟩:∃ w6:World,w6=wr.drewN nq:=⟨_,rfl⟩
    rw[← hw6];have HB6:Hid (Below w0.heap.size w0 w6):=hid (by rw[hw6];exact below_drewN HBW.out nq);clear hw6 x0 x1 c0 c1;go_wp2;go_roundw
    case rel=>exact⟨k+1,HKM.out.2,(by first | rfl | (rw[HWK.out];rfl)),HB6,HT2⟩
    case measure=>(try rw[HWK.out]);exact meas_step HKM.out.2
  ·obtain rfl:k=os.length:=Nat.le_antisymm hk (Nat.le_of_not_lt hkl);have HF:Hid (res = -1):=hid (by
    rw[HRES.out];exact findP_no (fun y hy=>HT.out y (by rw[List.take_of_length_le (by simp)];exact hy)))
   clear hk hkl;go_wp2;go_ret;exact⟨ret_int HF.out.symm,HB0.out.trans (HBW.out.mono HB0.out.size)⟩
end Go.Proofs.YtlegfdllipkggaaGreatDoor
namespace Go.Proofs.YtlegfdllipkggaaGreatDoor
open Go.RowKit Go.Maps
set_option maxRecDepth 100000
set_option linter.unusedVariables false
set_option linter.unusedSimpArgs false
structure GrV (B:Nat)(ov:Value)(os:List Hd)(W:World)(ov':Value)(os':List Hd)(w:World):Prop where
 own:OwnNA w B ov' os'
 kp:Kept (fun g=>ov.ownBlock=some g) W w
 mo:∀ g,ov'.ownBlock=some g→ov.ownBlock=some g∨W.heap.size≤g
 new:∀ x ∈ os',x ∈ os∨∀ g,x.val.ownBlock=some g→W.heap.size≤g
structure GrL (B:Nat)(W:World)(ov0:Value)(os0:List Hd)(gT gX:Nat)(cs:Array Value)(lv:Int)(acc:List Int)(iv:Value)(ins:List Int)(ov:Value)(os:List Hd)(xv:Value)(wr:World):Prop where
 mv:GrV B ov0 os0 W ov os wr
 T:Blk wr gT 26 cs
 G:Blk wr gX 58 #[.int .i64 lv,xv]
 R:OwnIA wr W.heap.size xv acc
 I:OwnIA wr 0 iv ins
 ne:∀ x ∈ os,∀ g,x.val.ownBlock=some g→xv.ownBlock≠some g
 neX:ov.ownBlock≠some gX
 li:∀ g,iv.ownBlock=some g→g < W.heap.size
 tx:gT≠gX
 hX:W.heap.size≤gX
section
variable {B : Nat} {W w w1 w2 w6 w9 wr : World} {ov ov0 ov1 ov2 iv xv xv' v9 : Value} {os os0 os1 os2 : List Hd} {gT gX : Nat} {cs : Array Value} {lv : Int} {acc ins : List Int}
theorem GrV.of_new (h:OwnNA W B ov os)(hb:Below W.heap.size W w):GrV B ov os W ov os w:=⟨h.ext hb,Kept.of_new _ hb,fun g e=>.inl e,fun x hx=>.inl hx⟩
theorem GrV.trans (h:GrV B ov os W ov1 os1 w1)(k:GrV B ov1 os1 w1 ov2 os2 w2):GrV B ov os W ov2 os2 w2:=by
 have hs:=h.kp.below.size;refine⟨k.own,⟨h.kp.below.trans k.kp.below,fun g hg hn=>(k.kp.block g (Nat.lt_of_lt_of_le hg hs) fun h2=>?_).trans (h.kp.block g hg hn)⟩,fun g e=>?_,fun x hx=>?_⟩
 ·rcases h.mo g h2 with h3 | h3
  ·exact hn h3
  ·omega
 ·rcases k.mo g e with h3 | h3
  ·exact h.mo g h3
  ·exact .inr (by omega)
 ·rcases k.new x hx with h3 | h3
  ·exact h.new x h3
  ·exact .inr fun g e=>Nat.le_trans hs (h3 g e)
theorem GrV.below (h:GrV B ov os W ov1 os1 w)(ho:OwnNA W B ov os)(hB:B≤W.heap.size):Below B W w:=by
 refine h.kp.to_below hB fun g hg e=>?_;have:=(own_lt' ho.1 e).2;omega
theorem GrL.ext (h:GrL B W ov0 os0 gT gX cs lv acc iv ins ov os xv wr)(hb:Below wr.heap.size wr w):GrL B W ov0 os0 gT gX cs lv acc iv ins ov os xv w:=
 ⟨h.mv.trans (GrV.of_new h.mv.own hb),h.T.below hb h.T.lt,h.G.below hb h.G.lt,h.R.ext hb,h.I.ext hb,h.ne,h.neX,h.li,h.tx,h.hX⟩
theorem GrL.start (h:OwnNA W B ov os)(hi:OwnIA W 0 iv ins)(hb:Below W.heap.size W w)(hT:Blk w gT 26 cs)(hG:Blk w gX 58 #[.int .i64 lv,.slice none 0 0])(ht:gT≠gX)(hX:W.heap.size≤gX) :
  GrL B W ov os gT gX cs lv [] iv ins ov os (.slice none 0 0) w:=
 ⟨GrV.of_new h hb,hT,hG,OwnI.nil _ _ _,hi.ext hb,fun x hx g e=>by simp[Value.ownBlock],fun he=>by have:=(own_lt' h.1 he).1;omega,fun g e=>(own_lt' hi e).1,ht,hX⟩
theorem GrL.turn (h:GrL B W ov0 os0 gT gX cs lv acc iv ins ov os xv wr)(hv:GrV B ov os wr ov1 os1 w):GrL B W ov0 os0 gT gX cs lv acc iv ins ov1 os1 xv w:=by
 refine⟨h.mv.trans hv,hv.kp.blk h.T (own_blk_ne' h.mv.own.1 h.T (by decide)),hv.kp.blk h.G h.neX,hv.kp.own h.R (fun g e1 e2=>own_ne h.R h.mv.own.1 (by decide) e1 e2),hv.kp.own h.I (fun g e1 e2=>own_ne h.I h.mv.own.1 (by decide) e1 e2),fun x hx g e=>?_,fun e=>?_,h.li,h.tx,h.hX⟩
 ·rcases hv.new x hx with hx | hx
  ·exact h.ne x hx g e
  ·intro e2;have:=(own_lt' h.R e2).1;have:=hx g e;omega
 ·rcases hv.mo _ e with e2 | e2
  ·exact h.neX e2
  ·have:=h.G.lt;omega
theorem GrL.push (h:GrL B W ov0 os0 gT gX cs lv acc iv ins ov os xv wr){z:Int}(ho:OwnIA w6 W.heap.size xv' (acc ++ [z]))(hk:Kept (fun g=>xv.ownBlock=some g) wr w6)(hm:xv'.ownBlock=xv.ownBlock∨∃ g,xv'.ownBlock=some g∧wr.heap.size≤g) :
  GrL B W ov0 os0 gT gX cs lv (acc ++ [z]) iv ins ov os xv' (w6.setCell ⟨gX,1,none⟩ xv')∧Blk w6 gX 58 #[.int .i64 lv,xv]:=by
 have k7:Kept (fun g=>g=gX) w6 (w6.setCell ⟨gX,1,none⟩ xv'):=(Kept.refl (fun g=>g=gX) w6).setCell (p:=⟨gX,1,none⟩) (Or.inl rfl) xv';have g6:=hk.blk h.G (own_blk_ne' h.R h.G (by decide));have t6:=hk.blk h.T (own_blk_ne' h.R h.T (by decide));have o6:=h.mv.own.kept hk (fun g e1 e2=>own_ne h.R h.mv.own.1 (by decide) e2 e1) (fun x hx g e1 e2=>h.ne x hx g e1 e2);have i6:OwnIA w6 0 iv ins:=hk.own h.I (fun g e1 e2=>by have:=(own_lt' h.R e2).2;have:=h.li g e1;omega);refine⟨⟨⟨o6.kept k7 (fun g e e2=>by subst e2;exact h.neX e) (fun x hx g e e2=>by subst e2;exact own_blk_ne' (o6.2 x hx) g6 (by decide) e),(h.mv.kp.overB hk (fun g e=>(own_lt' h.R e).2)).overB k7 (fun g e=>by rw[e];exact h.hX),h.mv.mo,h.mv.new⟩,
  k7.blk t6 h.tx,g6.set_ 1 xv',k7.own ho (fun g e1 e2=>by subst e2;exact own_blk_ne' ho g6 (by decide) e1),k7.own i6 (fun g e1 e2=>by subst e2;exact own_blk_ne' i6 g6 (by decide) e1),fun x hx g e1 e2=>?_,h.neX,h.li,h.tx,h.hX⟩,g6⟩
 rcases hm with hm | ⟨g',hg,hs⟩
 ·rw[hm] at e2;exact h.ne x hx g e1 e2
 ·rw[hg] at e2;injection e2 with e2
  have:=(own_lt' (h.mv.own.2 x hx) e1).1;omega
theorem GrL.node (h:GrL B W ov0 os0 gT gX cs lv acc iv ins ov os xv wr){x:Hd}(hN:OwnNA w9 B v9 (os ++ [x]))(hk:Kept (fun g=>ov.ownBlock=some g) wr w9)(hm:v9.ownBlock=ov.ownBlock∨∃ g,v9.ownBlock=some g∧wr.heap.size≤g)(hx:x.val=xv) :
  GrV B ov0 os0 W v9 (os ++ [x]) w9:=by
 have hs:=h.mv.kp.below.size;refine⟨hN,⟨h.mv.kp.below.trans hk.below,fun g hg hn=>(hk.block g (Nat.lt_of_lt_of_le hg hs) fun h2=>?_).trans (h.mv.kp.block g hg hn)⟩,fun g e=>?_,fun y hy=>?_⟩
 ·rcases h.mv.mo g h2 with h3 | h3
  ·exact hn h3
  ·omega
 ·rcases hm with hm | ⟨g',hg',hs'⟩
  ·exact h.mv.mo g (by rw[← hm];exact e)
  ·rw[hg'] at e;injection e with e
   exact .inr (by omega)
 ·rcases List.mem_append.1 hy with hy | hy
  ·exact h.mv.new y hy
  ·rw[List.mem_singleton.1 hy,hx];exact .inr fun g e=>(own_lt' h.R e).2
end
end Go.Proofs.YtlegfdllipkggaaGreatDoor
namespace Go.Proofs.YtlegfdllipkggaaGreatDoor
open Lib(hid)
open Go.RowKit Go.Sort Go.Maps
set_option maxRecDepth 100000
set_option linter.unusedVariables false
set_option linter.unusedSimpArgs false
structure RgJ (V:World)(B:Nat)(os1:List Hd)(tv:Value)(rw_:Int)(nv:Value)(iv:Value)(jj:Int)(nn:Nat)(tl:List Int)(kk:Int)(rl:List Nd)(b0 b1 b2 b3 b4 b5 b6 b7 b8 b9 b10 b11:Bool)(v40 v41 v42 v43 v44 v45 v46 v39 v47 v48 v12 v13:Value)(w:World):Prop where
 h0:b0=true→v40=tv
 h1:b1=true→v41=.int .i64 rw_
 h2:b2=true→v42=nv
 h3:b3=true→v43=iv
 h4:b4=true→v44=.int .i64 jj
 below:b6=false→Below V.heap.size V w
 x5:b5=true→b6=false→∃ A9 c9,v45=.slice A9 nn c9∧OwnIA w 0 (.slice A9 nn c9) tl
 o5:b5=true→b3=true∧b4=true
 o6:b6=true→b0=true∧b1=true∧b2=true∧b5=true
 x6:b6=true→∃ ov' os',v46=.tuple #[ov',.int .i64 kk]∧os'.map Hd.nd=rl∧GrV B nv os1 V ov' os' w
 x7:b7=true→b6=true∧v39=v46
 x8:b8=true→b7=true∧∃ o,v39=.tuple #[o,.int .i64 kk]∧v47=o
 x9:b9=true→b7=true∧v48=.int .i64 kk
 x10:b10=true→b8=true∧v12=v47
 x11:b11=true→b10=true∧b9=true∧v13=.int .i64 kk
set_option maxHeartbeats 64000000 in
theorem rgrow_any (hA:Option Addr)(hc:Nat)(vA:Option Addr)(vc:Nat)(rA:Option Addr)(rc:Nat)(t:TabH)(q:Nat)(row:Option Nat)(hrow:∀ i,row=some i→i < t.rs.length)(WB:World)(hT:TabR WB hA vA rA t)(hr:rightTab t.tab=true)(hst:t.st=(q:Int))(f:List Nat→Int)(hfv:∀ l:List Nat,l.length=t.hood.length→(∀ s ∈ l,s < q)→valRP t.tab row (intsN l)=f l)(hF:∀ l:List Nat,l.length=t.hood.length→(∀ s ∈ l,s < q)→0≤f l∧f l < (q:Int)) :
  ∀ (n:Nat) (ins:List Nat) (iA:Option Addr) (ic:Nat) (ov:Value) (os:List Hd) (w:World),ins.length+n=t.hood.length→(∀ s ∈ ins,s < q)→Below WB.heap.size WB w→OwnNA w WB.heap.size ov os→OwnIA w 0 (.slice iA ins.length ic) (intsN ins)→NV q (os.map Hd.nd)→os.length+cap q n≤1000000→
  Calls Tryz.prog 52 #[tabV hA hc vA vc rA rc t,.int .i64 (rowN row),ov,.slice iA ins.length ic] w fun e w'=>∃ ov' os',e=.returned (.tuple #[ov',.int .i64 (growP q f n ins (os.map Hd.nd)).1])∧os'.map Hd.nd=(growP q f n ins (os.map Hd.nd)).2∧GrV WB.heap.size ov os w ov' os' w':=by
 have hq8:q≤8∧2≤q∧t.hood.length≤25:=by
  obtain⟨q1,q2,-⟩:=rightTab_parts hr;have h1:t.tab.st=t.st:=rfl;have:=(hoodB_len q2).2;have h2:t.tab.hood=t.hood:=rfl;rw[h2] at this;omega
 obtain⟨rv,hrv⟩:∃ z,z=rowN row:=⟨_,rfl⟩
 have HRV:=hid hrv;have HF:=hid hF;have hval:∀ (l:List Nat) (iA:Option Addr) (ic:Nat) (W:World),l.length=t.hood.length→(∀ s ∈ l,s < q)→Below WB.heap.size WB W→Ints W iA (intsN l)→Calls Tryz.prog 74 #[tabV hA hc vA vc rA rc t,.int .i64 rv,.slice iA l.length ic] W fun en w'=>en=.returned (.int .i64 (f l))∧Below W.heap.size W w':=fun l iA ic W h1 h2 h3 h4=>by
  have h:=rvalue15_any hA hc vA vc rA rc t row hrow iA ic (intsN l) W (hT.ext h3) hr h4 (by rw[intsN_len,h1]) (states_intsN hst h2).2;rw[intsN_len,← hrv,hfv l h1 h2] at h;exact h
 rw[← hrv];have HVAL:=hid hval;have HQ:=hid hq8;have hh9:t.hood.length≤9223372036854775807:=by omega
 have hv9:=hT.vars.le;have hr9:=hT.rows.le;clear hrow hT hr hF hfv hval hq8 hrv;obtain⟨st,sym,hood,vs,rs⟩:=t;unfold tabV at HVAL ⊢;dsimp only at hst hh9 hv9 hr9 HF HVAL HQ ⊢;subst hst;intro n;induction n with
 | zero=>
  intro ins iA ic ov os w hl hq hb ho hi hnv hsz;have hln:ins.length=hood.length:=by omega
  obtain⟨w0,hw0⟩:∃ w0,w0=w.alloc (.cells #[.int .i64 (q:Int),.int .i64 sym,.slice hA hood.length hc,.slice vA vs.length vc,.slice rA rs.length rc] 26):=⟨_,rfl⟩
  have hb0:Below w.heap.size w w0:=by rw[hw0];exact below_new _ _
  have p0:Blk w0 w.heap.size 26 #[.int .i64 (q:Int),.int .i64 sym,.slice hA hood.length hc,.slice vA vs.length vc,.slice rA rs.length rc]:=by rw[hw0];exact Blk.new _ _ _
  have hB:=hb.size;have hcall:=HVAL.out ins iA ic w0 hln hq (hb.trans (hb0.mono hB)) ((OwnI.reads hi).ext hb0);have HCALL:=hid hcall;obtain⟨gT,hgT⟩:∃ g,g=w.heap.size:=⟨_,rfl⟩
  rw[← hgT] at p0;have HW0:=hid (And.intro hw0 hgT);have HB0:=hid hb0;have HO:=hid ho;have x0:=p0.cell_ 0 (.int .i64 (q:Int)) rfl;have x1:=p0.cell_ 1 (.int .i64 sym) rfl;have x2:=p0.cell_ 2 (.slice hA hood.length hc) rfl;have x3:=p0.cell_ 3 (.slice vA vs.length vc) rfl;have x4:=p0.cell_ 4 (.slice rA rs.length rc) rfl;have hll:((ins.length:Int) == (hood.length:Int))=true:=by rw[hln];simp
  have hi9:ins.length≤9223372036854775807:=by omega
  clear hl hq hb ho hi hnv hsz hw0 hb0 p0 hB hcall hgT hln;go_enter Tryz.func52,Tryz.ntmps52;go_upto_region 1 with fail
  rw[← HW0.out.1,← HW0.out.2];go_wp2_with (go_at_call 74;refine HCALL.out.mono ?_;rintro en w2 ⟨rfl,hb2⟩;refine Hid.out ?_);refine hid ?_;clear x0 x1 x2 x3 x4 HCALL;go_wp2;go_ret2;exact⟨ov,os,rfl,rfl,GrV.of_new HO.out (HB0.out.trans (hb2.mono HB0.out.size))⟩
 | succ n IH=>
  intro ins iA ic ov os w hl hq hb ho hi hnv hsz;obtain⟨w0,hw0⟩:∃ w0,w0=w.alloc (.cells #[.int .i64 (q:Int),.int .i64 sym,.slice hA hood.length hc,.slice vA vs.length vc,.slice rA rs.length rc] 26):=⟨_,rfl⟩
  have hb0:Below w.heap.size w w0:=by rw[hw0];exact below_new _ _
  have p0:Blk w0 w.heap.size 26 #[.int .i64 (q:Int),.int .i64 sym,.slice hA hood.length hc,.slice vA vs.length vc,.slice rA rs.length rc]:=by rw[hw0];exact Blk.new _ _ _
  obtain⟨gT,hgT⟩:∃ g,g=w.heap.size:=⟨_,rfl⟩
  rw[← hgT] at p0;obtain⟨lv,hlv⟩:∃ l,l=(hood.length:Int) - (ins.length:Int):=⟨_,rfl⟩
  have HLV:Hid (lv=((n+1:Nat):Int)):=hid (by omega);have hwl:wrap64 ((hood.length:Int) - (ins.length:Int))=lv:=by rw[hlv];unfold wrap64;omega
  obtain⟨gk,hgk⟩:∃ gk:Nat→List Int × List Nd,gk=fun j=>growK (growP q f n) ins j (os.map Hd.nd):=⟨_,rfl⟩
  have hko:=growK_ok HF.out hl hq hnv;have HKO:Hid (∀ j,j≤q→GKOk q f n ins j (os.map Hd.nd) (gk j)):=hid (by rw[hgk];exact hko);have HG0:Hid (gk 0=([],os.map Hd.nd)):=hid (by rw[hgk];rfl);have HGS:Hid (∀ j,gk (j+1)=((gk j).1 ++ [(growP q f n (ins ++ [j]) (gk j).2).1],(growP q f n (ins ++ [j]) (gk j).2).2)):=hid (fun j=>by rw[hgk];rfl);obtain⟨rg,hrg⟩:∃ r,r=growP q f (n+1) ins (os.map Hd.nd):=⟨_,rfl⟩
  have HRG:Hid (rg=(((addN (gk q).2 (lv,(gk q).1)).1:Int),(addN (gk q).2 (lv,(gk q).1)).2)):=hid (by rw[hrg,hgk,HLV.out];rfl);rw[← hrg];have HW0:=hid (And.intro hw0 hgT);have HB0:=hid hb0;have HO:=hid ho;have HI:=hid hi;have HNV:=hid hnv;have HSZ:=hid hsz;have HB:=hid hb;have HL:=hid (And.intro hl hq);have HP:=hid p0;have HIH:=hid IH;have hll:((ins.length:Int) == (hood.length:Int))=false:=by simp;omega
  have hi9:ins.length≤9223372036854775807:=by omega
  have HLV2:=hid hlv;have x0:=p0.cell_ 0 (.int .i64 (q:Int)) rfl;have x1:=p0.cell_ 1 (.int .i64 sym) rfl;have x2:=p0.cell_ 2 (.slice hA hood.length hc) rfl;have x3:=p0.cell_ 3 (.slice vA vs.length vc) rfl;have x4:=p0.cell_ 4 (.slice rA rs.length rc) rfl;clear hl hq hb ho hi hnv hsz hw0 hb0 p0 hgT hko hgk hrg IH hlv;go_enter Tryz.func52,Tryz.ntmps52;go_upto_region 1 with fail
  rw[← HW0.out.1,← HW0.out.2];go_upto_region 4 with fail
  rw[← HLV2.out];obtain⟨w2,hw2⟩:∃ W,W=w0.alloc (.cells #[.int .i64 lv,.slice none 0 0] 58):=⟨_,rfl⟩
  have hb2:Below w0.heap.size w0 w2:=by rw[hw2];exact below_new _ _
  obtain⟨gX,hgX⟩:∃ g,g=w0.heap.size:=⟨_,rfl⟩
  rw[← hw2,← hgX];have hG2:Blk w2 gX 58 #[.int .i64 lv,.slice none 0 0]:=by rw[hgX,hw2];exact Blk.new _ _ _
  have hX:w.heap.size≤gX:=by rw[hgX];exact HB0.out.size
  have HL2:Hid (GrL WB.heap.size w ov os gT gX #[.int .i64 (q:Int),.int .i64 sym,.slice hA hood.length hc,.slice vA vs.length vc,.slice rA rs.length rc] lv [] (.slice iA ins.length ic) (intsN ins) ov os (.slice none 0 0) w2):=hid (GrL.start HO.out HI.out (HB0.out.trans (hb2.mono HB0.out.size)) (HP.out.below hb2 HP.out.lt) hG2 (by have:=HP.out.lt;omega) hX);clear hw2 hb2 hgX hG2 hX x0 x1 x2 x3 x4 hll hwl;go_wp2;go_loopw [2,11] (fun nv sv wr=>∃ (j:Nat) (ov1:Value) (os1:List Hd) (xA:Option Addr) (xc:Nat),j≤q∧sv=.int .i64 j∧ov1=nv∧Hid (GrL WB.heap.size w ov os gT gX #[.int .i64 (q:Int),.int .i64 sym,.slice hA hood.length hc,.slice vA vs.length vc,.slice rA rs.length rc] lv (gk j).1 (.slice iA ins.length ic) (intsN ins) ov1 os1 (.slice xA j xc) wr)∧Hid (os1.map Hd.nd=(gk j).2)) (fun _ sv _=>q - (intOf sv).toNat)
  case atStart=>exact⟨0,ov,os,none,0,Nat.zero_le _,rfl,rfl,hid (by rw[HG0.out];exact HL2.out),hid (by rw[HG0.out])⟩
  case round=>
   clear HL2 HG0;obtain⟨j,ov1,os1,xA,xc,hj,rfl,rfl,HLo,HOS⟩:=hrel;have t0:=HLo.out.T.cell_ 0 (.int .i64 (q:Int)) rfl;by_cases hjq:j < q
   ·have hkoj:=HKO.out j hj;have hal9:=hkoj.len;have HJ:=hid hjq;have hwj:wrap64 ((j:Int)+1)=(j:Int)+1:=by have:=HQ.out;unfold wrap64;omega
    have HWJ:=hid hwj;have hsz1:os1.length+cap q n≤1000000:=by
     have h1:=hkoj.sz;rw[← HOS.out,List.length_map,List.length_map] at h1;have h2:=HSZ.out;have h3:(j+1)*cap q n≤q*cap q n:=Nat.mul_le_mul_right _ hjq;rw[Nat.succ_mul] at h3;rw[show cap q (n+1)=q*cap q n+1 from rfl] at h2;omega
    obtain⟨acc,hacc⟩:∃ acc,acc=(gk j).1:=⟨_,rfl⟩
    obtain⟨rk,hrk⟩:∃ r,r=(growP q f n (ins ++ [j]) (os1.map Hd.nd)).1:=⟨_,rfl⟩
    obtain⟨rl,hrl⟩:∃ r,r=(growP q f n (ins ++ [j]) (os1.map Hd.nd)).2:=⟨_,rfl⟩
    have hgs:=HGS.out j;rw[← HOS.out,← hrk,← hrl,← hacc] at hgs;have HGSJ:=hid hgs;rw[← hacc] at HLo hal9;have HACC:=hid hal9;have hnvj:NV q (os1.map Hd.nd):=by rw[HOS.out];exact hkoj.nv
    have HTB:=hid HLo.out.T;have HBR:Hid (Below WB.heap.size WB wr):=hid (HB.out.trans (HLo.out.mv.below HO.out HB.out.size));have hWI:∀ W,Below wr.heap.size wr W→Calls Tryz.prog 55 #[.slice iA ins.length ic,.int .i64 (j:Int)] W fun e w'=>∃ A9 c9,e=.returned (.slice A9 (ins.length+1) c9)∧OwnIA w' 0 (.slice A9 (ins.length+1) c9) (intsN (ins ++ [j]))∧Below W.heap.size W w':=fun W hW=>by
     have h:=with_any iA ic (intsN ins) (j:Int) W ((OwnI.reads HLo.out.I).ext hW) (by rw[intsN_len];have:=HL.out.1;have:=HQ.out;omega);rw[intsN_len] at h;refine h.mono fun e w' ⟨v,h1,h2,h3⟩=>?_;rw[← intsN_snoc] at h2;obtain⟨A9,c9,e9,-,-⟩:=h2.ints;rw[intsN_len,List.length_append,List.length_singleton] at e9;subst e9;exact⟨A9,c9,h1,own_down h2 (Nat.zero_le _),h3⟩
    have HWI:=hid hWI;have HGR:Hid (∀ W A9 c9,Below wr.heap.size wr W→OwnIA W 0 (.slice A9 (ins.length+1) c9) (intsN (ins ++ [j]))→Calls Tryz.prog 52 #[.agg #[.int .i64 (q:Int),.int .i64 sym,.slice hA hood.length hc,.slice vA vs.length vc,.slice rA rs.length rc],.int .i64 rv,ov1,.slice A9 (ins.length+1) c9] W fun e w'=>∃ ov' os',e=.returned (.tuple #[ov',.int .i64 rk])∧os'.map Hd.nd=rl∧GrV WB.heap.size ov1 os1 W ov' os' w'):=hid (fun W A9 c9 hW hi=>by
     have h:=HIH.out (ins ++ [j]) A9 c9 ov1 os1 W (by rw[List.length_append,List.length_singleton];have:=HL.out.1;omega) (fun t ht=>by
       rcases List.mem_append.1 ht with ht | ht
       ·exact HL.out.2 t ht
       ·rw[List.mem_singleton.1 ht];exact HJ.out) (HBR.out.trans (hW.mono HBR.out.size)) (HLo.out.mv.own.ext hW) (by rw[List.length_append,List.length_singleton];exact hi) hnvj hsz1
     rw[List.length_append,List.length_singleton,← hrk,← hrl] at h;exact h)
    clear hkoj hal9 hj hwj hsz1 hacc hgs hnvj hWI hrk hrl;go_upto_region 7 with fail
    clear t0;refine wp_region_J (by kernel_rfl) (fun listed act w'=>∃ b0 b1 b2 b3 b4 b5 b6 b7 b8 b9 b10 b11 v40 v41 v42 v43 v44 v45 v46 v39 v47 v48 v12 v13,listed=#[b0,b1,b2,b3,b4,b5,b6,b7,b8,b9,b10,b11]∧act=Act.mk #[.agg #[.int .i64 ↑q,.int .i64 sym,.slice hA hood.length hc,.slice vA vs.length vc,.slice rA rs.length rc],.int .i64 rv,ov1,.slice iA ins.length ic,.pointer (some ⟨gT,0,none⟩),undef,undef,undef,.slice none 0 0,.int .i64 0,.pointer (some ⟨gX,0,none⟩),.int .i64 ↑j,v12,v13,undef,.slice iA ins.length ic,.int .i64 ↑ins.length,.pointer (some ⟨gT,2,none⟩),.slice hA hood.length hc,.int .i64 ↑hood.length,.bool false,undef,undef,undef,undef,undef,.pointer (some ⟨gT,2,none⟩),.slice hA hood.length hc,.int .i64 ↑hood.length,.slice iA ins.length ic,.int .i64 ↑ins.length,.int .i64 lv,.agg #[.int .i64 lv,.slice none 0 0],.int .i64 ↑j,.pointer (some ⟨gT,0,none⟩),.int .i64 ↑q,.bool true,u37,u38,v39,v40,v41,v42,v43,v44,v45,v46,v47,v48,u49,u50,u51,u52,u53,u54,u55,undef,undef,undef,undef,undef,undef,undef,undef,undef,undef,undef,undef,undef,undef,undef] []∧RgJ wr WB.heap.size os1 (.agg #[.int .i64 (q:Int),.int .i64 sym,.slice hA hood.length hc,.slice vA vs.length vc,.slice rA rs.length rc]) rv ov1 (.slice iA ins.length ic) (j:Int) (ins.length+1) (intsN (ins ++ [j])) rk rl b0 b1 b2 b3 b4 b5 b6 b7 b8 b9 b10 b11 v40 v41 v42 v43 v44 v45 v46 v39 v47 v48 v12 v13 w') ?_ ?_ ?_
    ·exact (e_8 (e_8 (e_8 ⟨rfl,rfl,(by constructor;(case below=>exact (fun _=>(Below.refl _ wr).drew));all_goals simp)⟩)))
    ·rintro i listed act w' hi ⟨b0,b1,b2,b3,b4,b5,b6,b7,b8,b9,b10,b11,v40,v41,v42,v43,v44,v45,v46,v39,v47,v48,v12,v13,rfl,rfl,H⟩;have hi16:i < 12:=by
      obtain⟨-,o,ho,-⟩:=mem_ready.1 hi;exact (Array.getElem?_eq_some_iff.1 ho).1
     obtain rfl | rfl | rfl | rfl | rfl | rfl | rfl | rfl | rfl | rfl | rfl | rfl:i=0∨i=1∨i=2∨i=3∨i=4∨i=5∨i=6∨i=7∨i=8∨i=9∨i=10∨i=11:=by omega
     all_goals simp[mem_ready,Region.binds] at hi
     ·have bff:b6=false:=by
       cases hb:b6 with
       | false=>rfl
       | true=>exact absurd (H.o6 hb).1 (by simp[hi])
      have hB:=H.below bff;have hcc:=HTB.out.below hB HTB.out.lt;have cc0:=hcc.cell_ 0 (.int .i64 (q:Int)) rfl;have cc1:=hcc.cell_ 1 (.int .i64 sym) rfl;have cc2:=hcc.cell_ 2 (.slice hA hood.length hc) rfl;have cc3:=hcc.cell_ 3 (.slice vA vs.length vc) rfl;have cc4:=hcc.cell_ 4 (.slice rA rs.length rc) rfl;clear hcc hB bff;refine wpOp_hidden rfl fun K hK=>?_;go_wp2;refine OnlyN.mk (hK.out _ _ (e_8 (e_8 (e_8 ⟨rfl,rfl,{ H with h0:=fun _=>rfl,o6:=fun h=>⟨rfl,(H.o6 h).2⟩ }⟩))))
     ·refine wpOp_hidden rfl fun K hK=>?_;go_wp2;refine OnlyN.mk (hK.out _ _ (e_8 (e_8 (e_8 ⟨rfl,rfl,{ H with h1:=fun _=>rfl,o6:=fun h=>⟨(H.o6 h).1,rfl,(H.o6 h).2.2⟩ }⟩))))
     ·refine wpOp_hidden rfl fun K hK=>?_;go_wp2;refine OnlyN.mk (hK.out _ _ (e_8 (e_8 (e_8 ⟨rfl,rfl,{ H with h2:=fun _=>rfl,o6:=fun h=>⟨(H.o6 h).1,(H.o6 h).2.1,rfl,(H.o6 h).2.2.2⟩ }⟩))))
     ·refine wpOp_hidden rfl fun K hK=>?_;go_wp2;refine OnlyN.mk (hK.out _ _ (e_8 (e_8 (e_8 ⟨rfl,rfl,{ H with h3:=fun _=>rfl,o5:=fun h=>⟨rfl,(H.o5 h).2⟩ }⟩))))
     ·refine wpOp_hidden rfl fun K hK=>?_;go_wp2;refine OnlyN.mk (hK.out _ _ (e_8 (e_8 (e_8 ⟨rfl,rfl,{ H with h4:=fun _=>rfl,o5:=fun h=>⟨(H.o5 h).1,rfl⟩ }⟩))))
     ·obtain rfl:=H.h3 (by simp[hi]);obtain rfl:=H.h4 (by simp[hi]);have bff:b6=false:=by
       cases hb:b6 with
       | false=>rfl
       | true=>exact absurd (H.o6 hb).2.2.2 (by simp[hi])
      have hB:=H.below bff;have HBW5:=hid hB;have BFF:=hid bff;have HC5:=hid (HWI.out w' hB);clear hB bff;refine wpOp_hidden rfl fun K hK=>?_;go_wp2_with (go_at_call 55;refine HC5.out.mono ?_;rintro en w9 ⟨A9,c9,rfl,ho9,hb9⟩;refine Hid.out ?_);refine hid ?_;have HO9:=hid ho9;have HB9:=hid (HBW5.out.trans (hb9.mono HBW5.out.size));clear ho9 hb9 HC5;go_wp2;refine OnlyN.mk (hK.out _ _ (e_8 (e_8 (e_8 ⟨rfl,rfl,{ H with below:=fun _=>HB9.out,x5:=fun _ _=>⟨A9,c9,rfl,HO9.out⟩,o5:=fun _=>⟨(by simp[hi]),(by simp[hi])⟩,o6:=fun h=>⟨(H.o6 h).1,(H.o6 h).2.1,(H.o6 h).2.2.1,rfl⟩,x6:=fun h=>absurd h (by rw[BFF.out];decide) }⟩))))
     ·obtain rfl:=H.h0 (by simp[hi]);obtain rfl:=H.h1 (by simp[hi]);obtain rfl:=H.h2 (by simp[hi]);have bff:b6=false:=by simp[hi]
      have hB:=H.below bff;obtain⟨A5,c5,e5,ho5⟩:=H.x5 (by simp[hi]) bff;subst e5;have HBW5:=hid hB;have HC5:=hid (HGR.out w' A5 c5 hB ho5);clear hB bff ho5;refine wpOp_hidden rfl fun K hK=>?_;go_wp2_with (go_at_call 52;refine HC5.out.mono ?_;rintro en w9 ⟨ov2,os2,rfl,hm2,hv2⟩;refine Hid.out ?_);refine hid ?_;have HM2:=hid hm2;have HV2:=hid (GrV.trans (GrV.of_new HLo.out.mv.own HBW5.out) hv2);clear hm2 hv2 HC5;go_wp2;refine OnlyN.mk (hK.out _ _ (e_8 (e_8 (e_8 ⟨rfl,rfl,{ H with below:=fun h=>(by cases h),x5:=fun _ h=>(by cases h),o6:=fun _=>⟨(by simp[hi]),(by simp[hi]),(by simp[hi]),(by simp[hi])⟩,x6:=fun _=>⟨ov2,os2,rfl,HM2.out,HV2.out⟩,x7:=fun h=>absurd (H.x7 h).1 (by simp[hi]) }⟩))))
     ·refine wpOp_hidden rfl fun K hK=>?_;go_wp2;refine OnlyN.mk (hK.out _ _ (e_8 (e_8 (e_8 ⟨rfl,rfl,{ H with x7:=fun _=>⟨(by simp[hi]),rfl⟩,x8:=fun h=>absurd (H.x8 h).1 (by simp[hi]),x9:=fun h=>absurd (H.x9 h).1 (by simp[hi]) }⟩))))
     ·obtain⟨h6,e7⟩:=H.x7 (by simp[hi]);obtain⟨ov2,os2,e6,-,-⟩:=H.x6 h6;have e39:=e7.trans e6;clear e7 e6 h6;subst e39;refine wpOp_hidden rfl fun K hK=>?_;go_wp2;refine OnlyN.mk (hK.out _ _ (e_8 (e_8 (e_8 ⟨rfl,rfl,{ H with x8:=fun _=>⟨(by simp[hi]),ov2,rfl,rfl⟩,x10:=fun h=>absurd (H.x10 h).1 (by simp[hi]) }⟩))))
     ·obtain⟨h6,e7⟩:=H.x7 (by simp[hi]);obtain⟨ov2,os2,e6,-,-⟩:=H.x6 h6;have e39:=e7.trans e6;clear e7 e6 h6;subst e39;refine wpOp_hidden rfl fun K hK=>?_;go_wp2;refine OnlyN.mk (hK.out _ _ (e_8 (e_8 (e_8 ⟨rfl,rfl,{ H with x9:=fun _=>⟨(by simp[hi]),rfl⟩,x11:=fun h=>absurd (H.x11 h).2.1 (by simp[hi]) }⟩))))
     ·refine wpOp_hidden rfl fun K hK=>?_;go_wp2;refine OnlyN.mk (hK.out _ _ (e_8 (e_8 (e_8 ⟨rfl,rfl,{ H with x10:=fun _=>⟨(by simp[hi]),rfl⟩,x11:=fun h=>absurd (H.x11 h).1 (by simp[hi]) }⟩))))
     ·obtain⟨-,e48⟩:=H.x9 (by simp[hi]);subst e48;refine wpOp_hidden rfl fun K hK=>?_;go_wp2;refine OnlyN.mk (hK.out _ _ (e_8 (e_8 (e_8 ⟨rfl,rfl,{ H with x11:=fun _=>⟨(by simp[hi]),(by simp[hi]),rfl⟩ }⟩))))
    ·rintro listed act w' hr ⟨b0,b1,b2,b3,b4,b5,b6,b7,b8,b9,b10,b11,v40,v41,v42,v43,v44,v45,v46,v39,v47,v48,v12,v13,rfl,rfl,H⟩;have hn:=List.eq_nil_iff_forall_not_mem.1 hr;have r0:=hn 0;simp[mem_ready,Region.binds] at r0;subst r0;have r1:=hn 1;simp[mem_ready,Region.binds] at r1;subst r1;have r2:=hn 2;simp[mem_ready,Region.binds] at r2;subst r2;have r3:=hn 3;simp[mem_ready,Region.binds] at r3;subst r3;have r4:=hn 4;simp[mem_ready,Region.binds] at r4;subst r4;have r5:=hn 5;simp[mem_ready,Region.binds] at r5;subst r5;have r6:=hn 6;simp[mem_ready,Region.binds] at r6;subst r6;have r7:=hn 7;simp[mem_ready,Region.binds] at r7;subst r7;have r8:=hn 8;simp[mem_ready,Region.binds] at r8;subst r8;have r9:=hn 9;simp[mem_ready,Region.binds] at r9;subst r9;have r10:=hn 10;simp[mem_ready,Region.binds] at r10;subst r10;have r11:=hn 11;simp[mem_ready,Region.binds] at r11;subst r11;try dsimp only
     obtain⟨-,e10⟩:=H.x10 rfl;obtain⟨-,o,e8,e47⟩:=H.x8 rfl;obtain⟨-,e7⟩:=H.x7 rfl;obtain⟨ov2,os2,e6,hm2,hv2⟩:=H.x6 rfl;obtain⟨-,-,e13⟩:=H.x11 rfl;have eo:o=ov2:=by
      have h:=e8.symm.trans (e7.trans e6);simpa using h
     subst eo e47;obtain rfl:=e10;obtain rfl:=e13;have HL8:=hid (HLo.out.turn hv2);have HEQ:=hid hm2;obtain⟨W9,rfl⟩:∃ W:World,W=w':=⟨_,rfl⟩
     have x1:=HL8.out.G.cell_ 1 (.slice xA j xc) rfl;have hown:=HL8.out.R;have hln:acc.length < 1000000000000:=by have:=HACC.out;have:=HJ.out;have:=HQ.out;omega
     have hbs:w.heap.size≤W9.heap.size:=HL8.out.mv.kp.below.size;clear H hr hn e8 e7 e6 hm2 hv2 HLo;go_wp2_with (at_builtin;refine wpList_pushIk rfl _ _ _ rfl w.heap.size 3 Tryz.underlying38 Tryz.infoInt _ _ rfl hown _ rfl hln hbs ?_);intro vv w12 ho12 hk12 hm12;obtain⟨xA2,xc2,e12,-,-⟩:=ho12.ints;rw[List.length_append,List.length_singleton,HACC.out] at e12;subst e12;obtain⟨hL12,g12⟩:=HL8.out.push ho12 hk12 hm12;have c12:=g12.cell_ 1 (.slice xA j xc) rfl;have f12:=g12.frozen 1;have HL12:=hid hL12;clear hL12 g12 ho12 hk12 hm12 hown hln hbs x1;go_wp2;go_roundw
     case rel=>exact⟨j+1,_,os2,xA2,xc2,HJ.out,(by first | rfl | (rw[HWJ.out];rfl)),rfl,hid (by rw[HGSJ.out];exact HL12.out),hid (by rw[HGSJ.out];exact HEQ.out)⟩
     case measure=>(try rw[HWJ.out]);exact meas_step HJ.out
   ·obtain rfl:q=j:=Nat.le_antisymm (Nat.le_of_not_lt hjq) hj;have hkoj:=HKO.out q hj;have hal9:=hkoj.len;have hsz1:os1.length≤1000000:=by
     have h1:=hkoj.sz;rw[← HOS.out,List.length_map,List.length_map] at h1;have h2:=HSZ.out;rw[show cap q (n+1)=q*cap q n+1 from rfl] at h2;omega
    obtain⟨acc,hacc⟩:∃ acc,acc=(gk q).1:=⟨_,rfl⟩
    have hrg2:=HRG.out;rw[← hacc,← HOS.out] at hrg2;rw[← hacc] at HLo hal9;have HRG2:=hid hrg2;have HALN:=hid hal9.symm;have HSZ1:=hid hsz1;obtain⟨oA,oc,eov,hnds,-⟩:=HLo.out.mv.own.nds;subst eov;have ho9:os1.length≤9223372036854775807:=by omega
    have hcall:=rfind_any oA oc os1 lv xA xc acc wr hnds (by have:=OwnI.reads HLo.out.R;exact this);rw[hal9] at hcall;have x0:=HLo.out.G.cell_ 0 (.int .i64 lv) rfl;have x1:=HLo.out.G.cell_ 1 (.slice xA q xc) rfl;have hws:WB.heap.size≤w.heap.size:=HB.out.size;have HWS:=hid hws;clear hkoj hal9 hsz1 hacc hrg2 hnds hj hjq hws;cases hpo:posOf (os1.map Hd.nd) (lv,acc) with
    | some i=>
     have hfp:findP (os1.map Hd.nd) (lv,acc)=(i:Int):=by unfold findP;rw[hpo]
     rw[hfp] at hcall;have HE:Hid (rg=((i:Int),os1.map Hd.nd)):=hid (by rw[HRG2.out];unfold addN;rw[hpo]);have HCALL:=hid hcall;have d0:decide ((0:Int)≤(i:Int))=true:=decide_eq_true (Int.natCast_nonneg i);clear hcall hpo hfp;go_wp2_with (go_at_call 75;refine HCALL.out.mono ?_;rintro en w10 ⟨rfl,hb10⟩;refine Hid.out ?_);refine hid ?_;have HL10:=hid (HLo.out.ext hb10);clear hb10 HCALL x0 x1;go_wp2;go_ret2;exact⟨_,os1,(by first | (rw[HE.out];done) | (rw[HE.out];rfl)),(by rw[HE.out]),HL10.out.mv⟩
    | none=>
     have hfp:findP (os1.map Hd.nd) (lv,acc) = -1:=by unfold findP;rw[hpo]
     rw[hfp] at hcall;have HE:Hid (rg=((os1.length:Int),os1.map Hd.nd ++ [(lv,acc)])):=hid (by rw[HRG2.out];unfold addN;rw[hpo];simp);have HCALL:=hid hcall;clear hcall hpo hfp;go_wp2_with (go_at_call 75;refine HCALL.out.mono ?_;rintro en w10 ⟨rfl,hb10⟩;refine Hid.out ?_);refine hid ?_;have HL10:=hid (HLo.out.ext hb10);clear hb10 HCALL x0 x1;have x0:=HL10.out.G.cell_ 0 (.int .i64 lv) rfl;have x1:=HL10.out.G.cell_ 1 (.slice xA q xc) rfl;have hown:=HL10.out.mv.own;have hI:OwnIA w10 WB.heap.size (.slice xA q xc) acc:=own_down HL10.out.R HWS.out;have hal:os1.length < 1000000000000:=by have:=HSZ1.out;omega
     have hbs:WB.heap.size≤w10.heap.size:=Nat.le_trans HWS.out HL10.out.mv.kp.below.size;go_wp2_with (at_builtin;refine wpList_pushNn rfl _ _ _ rfl WB.heap.size 58 3 (by decide) Tryz.underlying29 Tryz.infoNode _ _ rfl hown _ _ _ _ _ HALN hI rfl hal hbs ?_);intro v9 w9 ho9 hk9 hm9;obtain⟨oA2,oc2,e9,-,-⟩:=ho9.nds;rw[List.length_append,List.length_singleton] at e9;subst e9;have HG9:=hid (HL10.out.node (x:=⟨lv,xA,xc,acc⟩) ho9 hk9 hm9 (by show Value.slice xA acc.length xc=_;rw[← HALN.out]));clear ho9 hk9 hm9 hown hI hal hbs x0 x1;go_wp2;go_ret2;exact⟨_,os1 ++ [⟨lv,xA,xc,acc⟩],(by rw[HE.out] <;> simp),(by rw[HE.out,List.map_append] <;> rfl),HG9.out⟩
end Go.Proofs.YtlegfdllipkggaaGreatDoor
namespace Go.Proofs.YtlegfdllipkggaaGreatDoor
open Lib(hid)
open Go.RowKit Go.Maps
set_option maxRecDepth 100000
set_option linter.unusedVariables false
set_option linter.unusedSimpArgs false
set_option maxHeartbeats 16000000 in
theorem rmade15_any (hA:Option Addr)(hc:Nat)(vA:Option Addr)(vc:Nat)(rA:Option Addr)(rc:Nat)(t:TabH)(q:Nat)(row:Option Nat)(hrow:∀ i,row=some i→i < t.rs.length)(w:World)(hT:TabR w hA vA rA t)(hr:rightTab t.tab=true)(hst:t.st=(q:Int))(f:List Nat→Int)(hfv:∀ l:List Nat,l.length=t.hood.length→(∀ s ∈ l,s < q)→valRP t.tab row (intsN l)=f l)(hF:∀ l:List Nat,l.length=t.hood.length→(∀ s ∈ l,s < q)→0≤f l∧f l < (q:Int)) :
  Calls Tryz.prog 28 #[tabV hA hc vA vc rA rc t,.int .i64 (rowN row)] w (RetMade (madeP q t.hood f) t.hood hA hc w):=by
 have hq8:q≤8∧2≤q∧t.hood.length≤25∧1≤t.hood.length:=by
  obtain⟨q1,q2,-⟩:=rightTab_parts hr;have h1:t.tab.st=t.st:=rfl;have:=hoodB_len q2;have h2:t.tab.hood=t.hood:=rfl;rw[h2] at this;omega
 obtain⟨w0,hw0⟩:∃ w0,w0=(w.alloc (.cells #[.int .i64 t.st,.int .i64 t.sym,.slice hA t.hood.length hc,.slice vA t.vs.length vc,.slice rA t.rs.length rc] 26)).alloc (.cells #[.int .i64 0,.slice none 0 0,.slice none 0 0] 31):=⟨_,rfl⟩
 have hb0:Below w.heap.size w w0:=by rw[hw0];exact (below_new _ _).alloc (by simp) _
 have p0:Blk w0 w.heap.size 26 #[.int .i64 t.st,.int .i64 t.sym,.slice hA t.hood.length hc,.slice vA t.vs.length vc,.slice rA t.rs.length rc]:=by rw[hw0];exact (Blk.new w _ _).alloc _
 have q0:Blk w0 (w.heap.size+1) 31 #[.int .i64 0,.slice none 0 0,.slice none 0 0]:=by rw[hw0];have:=Blk.new (w.alloc (.cells #[.int .i64 t.st,.int .i64 t.sym,.slice hA t.hood.length hc,.slice vA t.vs.length vc,.slice rA t.rs.length rc] 26)) 31 #[.int .i64 0,.slice none 0 0,.slice none 0 0];simpa using this
 have hsm:=rsmall15_any hA hc vA vc rA rc t q w0 hst (by omega) hq8.1 (by omega);have hgr:∀ W,Below w0.heap.size w0 W→smallP q t.hood.length=true→Calls Tryz.prog 52 #[tabV hA hc vA vc rA rc t,.int .i64 (rowN row),.slice none 0 0,.slice none 0 0] W fun e w'=>∃ ov' os',e=.returned (.tuple #[ov',.int .i64 (growP q f t.hood.length [] []).1])∧os'.map Hd.nd=(growP q f t.hood.length [] []).2∧OwnNA w' W.heap.size ov' os'∧Below W.heap.size W w':=fun W hW hs=>by
  have hcap:=cap_small hq8.2.1 t.hood.length;have hs16:q ^ t.hood.length≤65536:=by unfold smallP at hs;exact of_decide_eq_true hs
  have h:=rgrow_any hA hc vA vc rA rc t q row hrow W ((hT.ext hb0).ext hW) hr hst f hfv hF t.hood.length [] none 0 (.slice none 0 0) [] W (by simp) (fun s hs=>absurd hs (by simp)) (Below.refl _ W) (OwnN.nil _ _ _ _) (OwnI.nil _ _ _) (NV.nil q) (by simp;omega);refine h.mono fun e w' ⟨ov',os',h1,h2,h3⟩=>⟨ov',os',h1,h2,h3.own,h3.below (OwnN.nil _ _ _ _) (Nat.le_refl _)⟩
 have HPT:=hid hT.hood;have hh9:t.hood.length≤9223372036854775807:=hT.hood.le;have hv9:=hT.vars.le;have hr9:=hT.rows.le;obtain⟨rv,hrv⟩:∃ z,z=rowN row:=⟨_,rfl⟩
 rw[← hrv] at hgr ⊢;obtain⟨st,sym,hood,vs,rs⟩:=t;unfold tabV at hsm hgr ⊢;dsimp only at hst HPT hh9 hv9 hr9 hsm hgr p0 hw0 hq8 ⊢;subst hst;have HB0:=hid hb0;have HP:=hid p0;have HQ0:=hid q0;have HW0:=hid hw0;have HGR:=hid hgr;have HN:=hid hq8;have c0:=p0.cell_ 0 (.int .i64 (q:Int)) rfl;have c1:=p0.cell_ 1 (.int .i64 sym) rfl;have c2:=p0.cell_ 2 (.slice hA hood.length hc) rfl;have c3:=p0.cell_ 3 (.slice vA vs.length vc) rfl;have c4:=p0.cell_ 4 (.slice rA rs.length rc) rfl;obtain⟨res,hres⟩:∃ r,r=madeP q hood f:=⟨_,rfl⟩
 rw[← hres];have HRES:=hid hres;clear hb0 p0 q0 hw0 hF hfv hT hrow hr hrv hq8 hgr hres;cases hs:smallP q hood.length with
 | false=>
  have HE:Hid (res=(PT.zero,6)):=hid (by rw[HRES.out];unfold madeP;rw[if_pos hs]);rw[hs] at hsm;have HSM:=hid hsm;clear hs hsm;go_enter Tryz.func28,Tryz.ntmps28;go_upto_region 1 with fail
  rw[← HW0.out];go_wp2_with (go_at_call 15;refine HSM.out.mono ?_;rintro e w1 ⟨rfl,hb⟩;refine Hid.out ?_);refine hid ?_;have HQ1:=hid (HQ0.out.below hb HQ0.out.lt);have HB1:=hid (HB0.out.trans (hb.mono HB0.out.size));clear hb c0 c1 c2 c3 c4;have d0:=HQ1.out.cell_ 0 (.int .i64 0) rfl;have f0:=HQ1.out.frozen 0;have d1:=HQ1.out.cell_ 1 (.slice none 0 0) rfl;have f1:=HQ1.out.frozen 1;have d2:=HQ1.out.cell_ 2 (.slice none 0 0) rfl;have f2:=HQ1.out.frozen 2;go_wp2;have hq:Blk (((w1.setCell ⟨w.heap.size+1,0,none⟩ (.int .i64 0)).setCell ⟨w.heap.size+1,1,none⟩ (.slice none 0 0)).setCell ⟨w.heap.size+1,2,none⟩ (.slice none 0 0)) (w.heap.size+1) 31 #[.int .i64 0,.slice none 0 0,.slice none 0 0]:=(((HQ1.out.set_ 0 (.int .i64 0)).set_ 1 (.slice none 0 0)).set_ 2 (.slice none 0 0))
  rw[HE.out];exact bodyPost_ret (results_ct Tryz.results28 _ _ (w.heap.size+1) 31 #[.int .i64 0,.slice none 0 0,.slice none 0 0] (0,0) _ rfl hq Tryz.underlying31 rfl Tryz.sizeTree) rfl
   ⟨_,_,_,_,_,_,_,rfl,(((HB1.out.setCell (p:=⟨w.heap.size+1,0,none⟩) (by simp) _).setCell (p:=⟨w.heap.size+1,1,none⟩) (by simp) _).setCell (p:=⟨w.heap.size+1,2,none⟩) (by simp) _),.inl ⟨rfl,rfl,rfl,rfl,rfl,rfl,rfl,rfl⟩⟩
 | true=>
  have HSP:=hid hs;rw[hs] at hsm;have HSM:=hid hsm;clear hs hsm;go_enter Tryz.func28,Tryz.ntmps28;go_upto_region 1 with fail
  rw[← HW0.out];go_wp2_with (go_at_call 15;refine HSM.out.mono ?_;rintro e w1 ⟨rfl,hb⟩;refine Hid.out ?_);refine hid ?_;have HQ1:=hid (HQ0.out.below hb HQ0.out.lt);have HB1:=hid (HB0.out.trans (hb.mono HB0.out.size));have HP1:=hid (HP.out.below hb HP.out.lt);have hcall:=HGR.out w1 hb HSP.out;obtain⟨rg,hrg⟩:∃ r,r=growP q f hood.length [] []:=⟨_,rfl⟩
  rw[← hrg] at hcall;have HRG:Hid (res=if 4096 < rg.2.length then (PT.zero,6) else (⟨(q:Int),hood,rg.2⟩,0)):=hid (by rw[HRES.out];unfold madeP;rw[if_neg (by rw[HSP.out];simp),hrg]);have HCALL:=hid hcall;clear hb hcall hrg c0 c1 c2 c3 c4;have c0:=HP1.out.cell_ 0 (.int .i64 (q:Int)) rfl;have c1:=HP1.out.cell_ 1 (.int .i64 sym) rfl;have c2:=HP1.out.cell_ 2 (.slice hA hood.length hc) rfl;have c3:=HP1.out.cell_ 3 (.slice vA vs.length vc) rfl;have c4:=HP1.out.cell_ 4 (.slice rA rs.length rc) rfl;go_wp2_with (go_at_call 52;refine HCALL.out.mono ?_;rintro e w4 ⟨ov4,os4,rfl,heq,how4,hb4⟩;refine Hid.out ?_);refine hid ?_;obtain⟨oA,oc,eov,hnd4,-⟩:=how4.nds;subst eov;have HOW:=hid how4;have HQ4:=hid (HQ1.out.below hb4 HQ1.out.lt);have HP4:=hid (HP1.out.below hb4 HP1.out.lt);have HB4:Hid (Below w.heap.size w w4):=hid (HB1.out.trans (hb4.mono HB1.out.size));have HLT:Hid (w.heap.size+1 < w1.heap.size):=hid HQ1.out.lt;have HEQ:=hid heq;have ho9:os4.length≤9223372036854775807:=hnd4.le;have hlen:rg.2.length=os4.length:=by rw[← heq,List.length_map]
  have HLEN:=hid hlen;clear heq how4 hb4 hnd4 HCALL hlen c0 c1 c2 c3 c4;have c0:=HP4.out.cell_ 0 (.int .i64 (q:Int)) rfl;have c2:=HP4.out.cell_ 2 (.slice hA hood.length hc) rfl;by_cases h4:4096 < os4.length
  ·have HE:Hid (res=(PT.zero,6)):=hid (by rw[HRG.out,if_pos (by rw[HLEN.out];exact h4)]);have db:decide ((4096:Int) < (os4.length:Int))=true:=decide_eq_true (by omega);have db':decide (4096 < os4.length)=true:=decide_eq_true h4;clear h4;have d0:=HQ4.out.cell_ 0 (.int .i64 0) rfl;have f0:=HQ4.out.frozen 0;have d1:=HQ4.out.cell_ 1 (.slice none 0 0) rfl;have f1:=HQ4.out.frozen 1;have d2:=HQ4.out.cell_ 2 (.slice none 0 0) rfl;have f2:=HQ4.out.frozen 2;go_wp2;have hq:Blk (((w4.setCell ⟨w.heap.size+1,0,none⟩ (.int .i64 0)).setCell ⟨w.heap.size+1,1,none⟩ (.slice none 0 0)).setCell ⟨w.heap.size+1,2,none⟩ (.slice none 0 0)) (w.heap.size+1) 31 #[.int .i64 0,.slice none 0 0,.slice none 0 0]:=(((HQ4.out.set_ 0 (.int .i64 0)).set_ 1 (.slice none 0 0)).set_ 2 (.slice none 0 0))
   rw[HE.out];exact bodyPost_ret (results_ct Tryz.results28 _ _ (w.heap.size+1) 31 #[.int .i64 0,.slice none 0 0,.slice none 0 0] (0,0) _ rfl hq Tryz.underlying31 rfl Tryz.sizeTree) rfl
    ⟨_,_,_,_,_,_,_,rfl,(((HB4.out.setCell (p:=⟨w.heap.size+1,0,none⟩) (by simp) _).setCell (p:=⟨w.heap.size+1,1,none⟩) (by simp) _).setCell (p:=⟨w.heap.size+1,2,none⟩) (by simp) _),.inl ⟨rfl,rfl,rfl,rfl,rfl,rfl,rfl,rfl⟩⟩
  ·have HE:Hid (res=(⟨(q:Int),hood,rg.2⟩,0)):=hid (by rw[HRG.out,if_neg (by rw[HLEN.out];exact h4)]);have db:decide ((4096:Int) < (os4.length:Int))=false:=decide_eq_false (by omega);have db':decide (4096 < os4.length)=false:=decide_eq_false h4;clear h4;have d0:=HQ4.out.cell_ 0 (.int .i64 0) rfl;have f0:=HQ4.out.frozen 0;have d1:=HQ4.out.cell_ 1 (.slice none 0 0) rfl;have f1:=HQ4.out.frozen 1;have d2:=HQ4.out.cell_ 2 (.slice none 0 0) rfl;have f2:=HQ4.out.frozen 2;go_wp2;have hq:Blk (((w4.setCell ⟨w.heap.size+1,0,none⟩ (.int .i64 (q:Int))).setCell ⟨w.heap.size+1,1,none⟩ (.slice hA hood.length hc)).setCell ⟨w.heap.size+1,2,none⟩ (.slice oA os4.length oc)) (w.heap.size+1) 31 #[.int .i64 (q:Int),.slice hA hood.length hc,.slice oA os4.length oc]:=(((HQ4.out.set_ 0 (.int .i64 (q:Int))).set_ 1 (.slice hA hood.length hc)).set_ 2 (.slice oA os4.length oc))
   have hk:Kept (fun g=>g=w.heap.size+1) w4 (((w4.setCell ⟨w.heap.size+1,0,none⟩ (.int .i64 (q:Int))).setCell ⟨w.heap.size+1,1,none⟩ (.slice hA hood.length hc)).setCell ⟨w.heap.size+1,2,none⟩ (.slice oA os4.length oc)):=((((Kept.refl (fun g=>g=w.heap.size+1) w4).setCell (p:=⟨w.heap.size+1,0,none⟩) (Or.inl rfl) _).setCell (p:=⟨w.heap.size+1,1,none⟩) (Or.inl rfl) _).setCell (p:=⟨w.heap.size+1,2,none⟩) (Or.inl rfl) _)
   have hon:=HOW.out.kept hk (fun g g1 g2=>by subst g2;have:=(own_lt' HOW.out.1 g1).2;have:=HLT.out;omega) (fun x hx g g1 g2=>by subst g2;have:=(own_lt' (HOW.out.2 x hx) g1).2;have:=HLT.out;omega);have hbe:Below w.heap.size w (((w4.setCell ⟨w.heap.size+1,0,none⟩ (.int .i64 (q:Int))).setCell ⟨w.heap.size+1,1,none⟩ (.slice hA hood.length hc)).setCell ⟨w.heap.size+1,2,none⟩ (.slice oA os4.length oc)):=(((HB4.out.setCell (p:=⟨w.heap.size+1,0,none⟩) (by simp) _).setCell (p:=⟨w.heap.size+1,1,none⟩) (by simp) _).setCell (p:=⟨w.heap.size+1,2,none⟩) (by simp) _)
   rw[HE.out];exact bodyPost_ret (results_ct Tryz.results28 _ _ (w.heap.size+1) 31 #[.int .i64 (q:Int),.slice hA hood.length hc,.slice oA os4.length oc] (0,0) _ rfl hq Tryz.underlying31 rfl Tryz.sizeTree) rfl
    ⟨_,_,_,_,_,_,_,rfl,hbe,.inr ⟨os4,rfl,rfl,rfl,rfl,rfl,rfl,OwnN.down15 hon (by have:=HLT.out;omega),HEQ.out⟩⟩
end Go.Proofs.YtlegfdllipkggaaGreatDoor
