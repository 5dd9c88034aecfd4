/-
  texts Tiny RSameT Samet: parts of the proof; conditions stand with each theorem.
-/
import Derived.Test.YtlegfdllipkggaaGreatDoorWG19
import Derived.BigRegion
import Derived.Test.YtlegfdllipkggaaGreatDoorWG5
namespace Go.Proofs.YtlegfdllipkggaaGreatDoor
open Lib(hid)
open Go.RowKit
set_option maxRecDepth 100000
set_option linter.unusedVariables false
set_option linter.unusedSimpArgs false
def tinyM (st:Int):Nat:=(max 1 (min st 9)).toNat
def tinyB (t:TabL):Bool:=decide (tinyM t.st ^ t.hood.length≤1024) && few11 t
theorem tinyM_rng (st:Int):1≤tinyM st∧tinyM st≤9∧max 1 (min st 9)=(tinyM st:Int):=by
 unfold tinyM;omega
set_option maxHeartbeats 8000000 in
theorem tiny_any (hA:Option Addr)(hc:Nat)(vA:Option Addr)(vc:Nat)(rA:Option Addr)(rc:Nat)(t:TabH)(w:World)(hT:TabR w hA vA rA t) :
  Calls Tryz.prog 6 #[tabV hA hc vA vc rA rc t] w fun e w'=>e=.returned (.bool (tinyB t.tab))∧Below w.heap.size w w':=by
 obtain⟨w0,hw0⟩:∃ w0,w0=w.alloc (.cells #[.int .i64 t.st,.int .i64 t.sym,.slice hA t.hood.length hc,.slice vA t.vs.length vc,.slice rA t.rs.length rc] 26):=⟨_,rfl⟩
 have hb0:Below w.heap.size w w0:=by rw[hw0];exact below_new _ _
 have p0:Blk w0 w.heap.size 26 #[.int .i64 t.st,.int .i64 t.sym,.slice hA t.hood.length hc,.slice vA t.vs.length vc,.slice rA t.rs.length rc]:=by rw[hw0];exact Blk.new _ _ _
 have HCALL:=hid (few11_any hA hc vA vc rA rc t w0 (hT.ext hb0));have HB0:=hid hb0;have HW0:=hid hw0;have hh9:t.hood.length≤9223372036854775807:=hT.hood.le;obtain⟨m,hm⟩:∃ m,m=tinyM t.st:=⟨_,rfl⟩
 obtain⟨m1,m9,hmm⟩:=tinyM_rng t.st;rw[← hm] at m1 m9 hmm;have HM:=hid (And.intro m1 m9);obtain⟨res,hres⟩:∃ res,res=tinyB t.tab:=⟨_,rfl⟩
 rw[← hres];unfold tinyB at hres;rw[show t.tab.st=t.st from rfl,show t.tab.hood=t.hood from rfl,← hm] at hres;have HRES:=hid hres;have x0:=p0.cell_ 0 (.int .i64 t.st) rfl;have x1:=p0.cell_ 1 (.int .i64 t.sym) rfl;have x2:=p0.cell_ 2 (.slice hA t.hood.length hc) rfl;have x3:=p0.cell_ 3 (.slice vA t.vs.length vc) rfl;have x4:=p0.cell_ 4 (.slice rA t.rs.length rc) rfl;unfold tabV at HCALL ⊢;clear hb0 p0 hw0 hT hres hm m1 m9;go_enter Tryz.func6,Tryz.ntmps6;go_upto_region 1 with fail
 rw[← HW0.out];go_wp2;go_loopw [3,7] (fun nv iv wr=>∃ i:Nat,i≤t.hood.length∧nv=.int .i64 ((m ^ i:Nat):Int)∧iv=.int .i64 i∧w0=wr∧Hid (m ^ i≤1024)) (fun _ iv _=>t.hood.length - (intOf iv).toNat)
 case atStart=>exact⟨0,Nat.zero_le _,(by first | rfl | (rw[Nat.pow_zero];rfl)),rfl,rfl,hid (by rw[Nat.pow_zero];decide)⟩
 case round=>
  obtain⟨i,hi,rfl,rfl,rfl,HN⟩:=hrel;by_cases hil:i < t.hood.length
  ·have hwi:wrap64 ((i:Int)+1)=(i:Int)+1:=by unfold wrap64;omega
   have HI:=hid hil;have HWI:=hid hwi;obtain⟨n,hn⟩:∃ n,n=m ^ i:=⟨_,rfl⟩
   have hn1:n*m≤1024*9:=Nat.mul_le_mul (by rw[hn];exact HN.out) HM.out.2;have hps:m ^ (i+1)=n*m:=by rw[hn,Nat.pow_succ]
   have hw:wrap64 ((n:Int)*(m:Int))=((n*m:Nat):Int):=by rw[← Int.natCast_mul];unfold wrap64;omega
   obtain⟨nn,hnn⟩:∃ nn,nn=n*m:=⟨_,rfl⟩
   rw[← hnn] at hn1 hps hw;have HPS:=hid hps;rw[← hn];clear hi hn hps hnn;by_cases hb:1024 < nn
   ·have q1:decide ((1024:Int) < (nn:Int))=true:=decide_eq_true (by omega);have HE:Hid (res=false):=hid (by
     have h1:m ^ (i+1)≤m ^ t.hood.length:=Nat.pow_le_pow_right (by have:=HM.out;omega) HI.out;rw[HPS.out] at h1;rw[HRES.out,decide_eq_false (by omega),Bool.false_and])
    clear hb hn1;go_wp2;go_ret;exact⟨by first | (rw[HE.out];done) | (rw[HE.out];rfl),HB0.out⟩
   ·have q1:decide ((1024:Int) < (nn:Int))=false:=decide_eq_false (by omega);have HN2:Hid (m ^ (i+1)≤1024):=hid (by rw[HPS.out];omega);clear hb hn1;go_wp2;go_roundw
    case rel=>exact⟨i+1,HI.out,(by first | rfl | (rw[HPS.out];done) | (rw[HPS.out];rfl) | (rw[HPS.out,hw])),(by first | rfl | (rw[HWI.out];rfl)),(by first | trivial | rfl),HN2⟩
    case measure=>(try rw[HWI.out]);exact meas_step HI.out
  ·obtain rfl:i=t.hood.length:=Nat.le_antisymm hi (Nat.le_of_not_lt hil);have HE:Hid (res=few11 t.tab):=hid (by rw[HRES.out,decide_eq_true HN.out,Bool.true_and]);obtain⟨n,hn⟩:∃ n,n=m ^ t.hood.length:=⟨_,rfl⟩
   rw[← hn];clear hi hil hn;go_wp2_with (go_at_call 13;refine HCALL.out.mono ?_;rintro e w2 ⟨rfl,hb2⟩;refine Hid.out ?_);refine hid ?_;have HB2:=hid (HB0.out.trans (hb2.mono HB0.out.size));clear hb2;go_wp2;go_ret;exact⟨by first | (rw[HE.out];done) | (rw[HE.out];rfl),HB2.out⟩

set_option maxHeartbeats 16000000 in
theorem rsamet_any (s1 s2:Int)(A1:Option Addr)(c1:Nat)(p1:List (Int × Int))(B1:Option Addr)(d1:Nat)(h1:List Hd)(A2:Option Addr)(c2:Nat)(p2:List (Int × Int))(B2:Option Addr)(d2:Nat)(h2:List Hd)(w:World)
  (hp1:Pts w A1 p1) (hn1:Nds w B1 h1) (hp2:Pts w A2 p2) (hn2:Nds w B2 h2) :
  Calls Tryz.prog 12 #[.agg #[.int .i64 s1,.slice A1 p1.length c1,.slice B1 h1.length d1],.agg #[.int .i64 s2,.slice A2 p2.length c2,.slice B2 h2.length d2]] w
   fun e w'=>e=.returned (.bool (sameP ⟨s1,p1,h1.map Hd.nd⟩ ⟨s2,p2,h2.map Hd.nd⟩))∧Below w.heap.size w w':=by
 have l1:=hp1.le;have l2:=hp2.le;have l3:=hn1.le;have l4:=hn2.le;obtain⟨v1,hv1⟩:∃ v1,v1=w.alloc (.cells #[.int .i64 s1,.slice A1 p1.length c1,.slice B1 h1.length d1] 31):=⟨_,rfl⟩
 obtain⟨w0,hw0⟩:∃ w0,w0=v1.alloc (.cells #[.int .i64 s2,.slice A2 p2.length c2,.slice B2 h2.length d2] 31):=⟨_,rfl⟩
 have b1:Below w.heap.size w v1:=by rw[hv1];exact below_new _ _
 have b2:Below v1.heap.size v1 w0:=by rw[hw0];exact below_new _ _
 have z1:v1.heap.size=w.heap.size+1:=by rw[hv1];simp
 have q1:Blk v1 w.heap.size 31 #[.int .i64 s1,.slice A1 p1.length c1,.slice B1 h1.length d1]:=by rw[hv1];exact Blk.new _ _ _
 have q2:Blk w0 v1.heap.size 31 #[.int .i64 s2,.slice A2 p2.length c2,.slice B2 h2.length d2]:=by rw[hw0];exact Blk.new _ _ _
 have q1':=q1.below b2 q1.lt;rw[z1] at q2;have hb0:=b1.trans (b2.mono b1.size);rw[hv1] at hw0;have HW:=hid hw0;have HB:=hid hb0;have HP1:=hid (hp1.ext hb0);have HP2:=hid (hp2.ext hb0);have HN1:=hid (hn1.ext hb0);have HN2:=hid (hn2.ext hb0);have HQ1:=hid q1';have HQ2:=hid q2;have x0:=q1'.cell_ 0 (.int .i64 s1) rfl;have x1:=q1'.cell_ 1 (.slice A1 p1.length c1) rfl;have x2:=q1'.cell_ 2 (.slice B1 h1.length d1) rfl;have y0:=q2.cell_ 0 (.int .i64 s2) rfl;have y1:=q2.cell_ 1 (.slice A2 p2.length c2) rfl;have y2:=q2.cell_ 2 (.slice B2 h2.length d2) rfl;clear hv1 hw0 b1 b2 z1 q1 q2 q1' hb0 hp1 hp2 hn1 hn2;by_cases e1:s1=s2
 ·have f1:(s1 != s2)=false:=by simp[e1]
  have HE1:=hid e1;clear e1;by_cases e2:p1.length=p2.length
  ·have f2:((p1.length:Int) != (p2.length:Int))=false:=by simp[e2]
   have HE2:=hid e2;clear e2;by_cases e3:h1.length=h2.length
   ·have f3:((h1.length:Int) != (h2.length:Int))=false:=by simp[e3]
    have HE3:=hid e3;clear e3;go_enter Tryz.func12,Tryz.ntmps12;go_upto_region 1 with fail
    rw[← HW.out];go_wp2;clear f1 f2 f3 x0 y0;go_loopw [5] (fun i wr=>∃ k q:Nat,k≤p1.length∧i=.int .i64 k∧wr=w0.drewN q∧Hid (p1.take k=p2.take k)) (fun i _=>p1.length - (intOf i).toNat)
    case atStart=>exact⟨0,0,Nat.zero_le _,rfl,rfl,hid rfl⟩
    case round=>
     obtain⟨k,q,hk,rfl,rfl,HT⟩:=hrel;by_cases hlt:k < p1.length
     ·have hlt2:k < p2.length:=by have:=HE2.out;omega
      obtain⟨b1,o1,rfl,-,hc,hc'⟩:=HP1.out.at_ hlt;obtain⟨b2,o2,rfl,-,hc2,hc2'⟩:=HP2.out.at_ hlt2;go_wp2;have hst:=Tryz.stood_pt;have heg:=Tryz.guard_pt;have hnq:=neq_pt;go_quiet (fail)
      go_wp2
      ·have hne:¬ p1[k]=p2[k]:=ptNe_true ‹_›;have HF:Hid (sameP ⟨s1,p1,h1.map Hd.nd⟩ ⟨s2,p2,h2.map Hd.nd⟩=false):=hid (by
        unfold sameP;rw[show decide (p1=p2)=false from decide_eq_false (by rintro rfl;exact hne rfl)]
        simp)
       go_ret;exact⟨ret_bool (by rw[HF.out] <;> rfl),below_drewN (below_drewN HB.out _) _⟩
      ·have he:p1[k]=p2[k]:=ptNe_false ‹_›;go_roundw
       case rel=>exact⟨k+1,_,by omega,by go_num,rfl,hid (take_eq_snoc HT.out hlt hlt2 he)⟩
       case measure=>simp[intOf];omega
     ·have hk':k=p1.length:=by omega
      have hfin:p1=p2:=by
       have:=HT.out;rwa [hk',List.take_of_length_le (Nat.le_refl _),List.take_of_length_le (by rw[HE2.out];exact Nat.le_refl _)] at this
      have HF:=hid hfin;clear hfin hk';go_wp2;clear x1 y1 x2 y2 hlt hk HT;obtain⟨W,hW⟩:∃ W,W=w0.drewN q:=⟨_,rfl⟩
      have HBW:Hid (Below w0.heap.size w0 W):=hid (by rw[hW];exact below_drewN (Below.refl _ _) _);rw[← hW];clear hW;go_loopw [6] (fun i wr=>∃ k:Nat,k≤h1.length∧i=.int .i64 k∧Hid (Below w0.heap.size w0 wr)∧Hid ((h1.take k).map Hd.nd=(h2.take k).map Hd.nd)) (fun i _=>h1.length - (intOf i).toNat)
      case atStart=>exact⟨0,Nat.zero_le _,rfl,HBW,hid rfl⟩
      case round=>
       obtain⟨k,hk,rfl,HB2,HT⟩:=hrel;have r1:=HQ1.out.below HB2.out HQ1.out.lt;have r2:=HQ2.out.below HB2.out HQ2.out.lt;have x2:=r1.cell_ 2 (.slice B1 h1.length d1) rfl;have y2:=r2.cell_ 2 (.slice B2 h2.length d2) rfl;by_cases hlt:k < h1.length
       ·have hlt2:k < h2.length:=by have:=HE3.out;omega
        obtain⟨b1,o1,eb1,hb1,x0,x1,xi⟩:=(HN1.out.ext HB2.out).at_ hlt;obtain⟨b2,o2,eb2,hb2,y0,y1,yi⟩:=(HN2.out.ext HB2.out).at_ hlt2;have HTK:=hid (fun (h3:h1[k].nd=h2[k].nd)=>nd_take hlt hlt2 HT.out h3);have HNE:Hid (h1[k].nd≠h2[k].nd→sameP ⟨s1,p1,h1.map Hd.nd⟩ ⟨s2,p2,h2.map Hd.nd⟩=false):=hid (fun h9=>by
         have:h1.map Hd.nd≠h2.map Hd.nd:=fun h2'=>h9 (by
          have h3:=congrArg (fun l=>l[k]?) h2';simp only[List.getElem?_map,List.getElem?_eq_getElem hlt,List.getElem?_eq_getElem hlt2,Option.map_some,Option.some.injEq] at h3;exact h3)
         unfold sameP;rw[show decide (h1.map Hd.nd=h2.map Hd.nd)=false from decide_eq_false this]
         simp)
        obtain⟨x,hx⟩:∃ x,x=h1[k]:=⟨_,rfl⟩
        obtain⟨y,hy⟩:∃ y,y=h2[k]:=⟨_,rfl⟩
        rw[← hx] at x0 x1 xi HTK HNE;rw[← hy] at y0 y1 yi HTK HNE;obtain⟨lx,xA,xc,xs⟩:=x;obtain⟨ly,yA,yc,ys⟩:=y;dsimp only at x0 x1 xi y0 y1 yi;have HXI:=hid xi;have HYI:=hid yi;subst eb1 eb2;have hz1:w.heap.size < wr.heap.size:=r1.lt;have hz2:w.heap.size+1 < wr.heap.size:=r2.lt;clear hx hy xi yi hk r1 r2;go_wp2;go_region
        ·obtain⟨u1,hu1⟩:∃ u1,u1=wr.alloc (.cells #[.int .i64 lx,.slice xA xs.length xc] 58):=⟨_,rfl⟩
         obtain⟨u2,hu2⟩:∃ u2,u2=u1.alloc (.cells #[.int .i64 ly,.slice yA ys.length yc] 58):=⟨_,rfl⟩
         have t1:Below wr.heap.size wr u1:=by rw[hu1];exact below_new _ _
         have t2:Below u1.heap.size u1 u2:=by rw[hu2];exact below_new _ _
         have z1:u1.heap.size=wr.heap.size+1:=by rw[hu1];simp
         have v1:Blk u1 wr.heap.size 58 #[.int .i64 lx,.slice xA xs.length xc]:=by rw[hu1];exact Blk.new _ _ _
         have v2:Blk u2 u1.heap.size 58 #[.int .i64 ly,.slice yA ys.length yc]:=by rw[hu2];exact Blk.new _ _ _
         have v1':=v1.below t2 v1.lt;rw[z1] at v2;have t3:=t1.trans (t2.mono t1.size);rw[hu1] at hu2;rw[← hu2];obtain⟨u3,hu3⟩:∃ u3,u3=u2.drew:=⟨_,rfl⟩
         rw[← hu3];have t3:Below wr.heap.size wr u3:=by rw[hu3];exact t3.drew
         have v1':Blk u3 wr.heap.size 58 #[.int .i64 lx,.slice xA xs.length xc]:=by rw[hu3];exact v1'
         have v2:Blk u3 (wr.heap.size+1) 58 #[.int .i64 ly,.slice yA ys.length yc]:=by rw[hu3];exact v2
         have HU:=hid ((HB2.out.trans (t3.mono HB2.out.size)));have HXU:=hid (HXI.out.ext t3);have HYU:=hid (HYI.out.ext t3);have m0:=v1'.cell_ 0 (.int .i64 lx) rfl;have m1:=v1'.cell_ 1 (.slice xA xs.length xc) rfl;have n0:=v2.cell_ 0 (.int .i64 ly) rfl;have n1:=v2.cell_ 1 (.slice yA ys.length yc) rfl;clear t1 t2 v1 v2 v1' t3 hu1 hu2 hu3 z1 x0 x1 y0 y1 x2 y2 hz1 hz2 hb1 hb2;by_cases e1:lx=ly
         ·have f1:(lx != ly)=false:=by simp[e1]
          have HE4:=hid e1;clear e1;by_cases e2:xs.length=ys.length
          ·have f2:((xs.length:Int) != (ys.length:Int))=false:=by simp[e2]
           have HE5:=hid e2;have lx1:=HXU.out.le;have ly1:=HYU.out.le;clear e2;have HLT:=hid hlt;have HL3:=hid l3;clear hlt hlt2 l1 l2 l3 l4;go_wp2;clear f1 f2;go_loopw [9] (fun i wi=>∃ m q:Nat,m≤xs.length∧i=.int .i64 m∧wi=u3.drewN q∧Hid (xs.take m=ys.take m)) (fun i _=>xs.length - (intOf i).toNat)
           case atStart=>exact⟨0,0,Nat.zero_le _,rfl,rfl,hid rfl⟩
           case round=>
            obtain⟨m,qd,hm,rfl,rfl,HTI⟩:=hrel;by_cases hml:m < xs.length
            ·have hml2:m < ys.length:=by have:=HE5.out;omega
             obtain⟨bx,ox,rfl,-,hc⟩:=HXU.out.at_ hml;obtain⟨bz,oz,rfl,-,hc2⟩:=HYU.out.at_ hml2;go_wp2;go_quiet (fail)
             go_wp2
             ·have hne:¬ xs[m]=ys[m]:=by simpa using ‹(xs[m] != ys[m])=true›
              have HF2:=hid (HNE.out (fun h=>hne (by
               have h5:xs=ys:=congrArg Prod.snd h;subst h5;rfl)))
              go_ret;exact⟨ret_bool (by rw[HF2.out] <;> rfl),below_drewN (below_drewN (HB.out.trans (HU.out.mono HB.out.size)) _) _⟩
             ·have he:xs[m]=ys[m]:=by simpa using ‹(xs[m] != ys[m])=false›
              go_roundw
              case rel=>exact⟨m+1,_,by omega,by go_num,rfl,hid (take_eq_snoc HTI.out hml hml2 he)⟩
              case measure=>simp[intOf];omega
            ·have hk':m=xs.length:=by omega
             have hfin:xs=ys:=by
              have:=HTI.out;rwa [hk',List.take_of_length_le (Nat.le_refl _),List.take_of_length_le (by rw[HE5.out];exact Nat.le_refl _)] at this
             have HNX:=hid (HTK.out (by
              have h4:=HE4.out;subst h4 hfin;rfl))
             clear hfin hk';have hw1:wrap64 ((k:Int)+1)=(k:Int)+1:=by have:=HLT.out;have:=HL3.out;unfold wrap64;omega
             go_wp2;go_roundw
             case rel=>exact⟨k+1,HLT.out,(by rw[hw1];rfl),hid (below_drewN HU.out _),HNX⟩
             case measure=>rw[hw1];have:=HLT.out;simp[intOf];omega
          ·have f2:((xs.length:Int) != (ys.length:Int))=true:=by simp;omega
           have HF2:=hid (HNE.out (fun h=>e2 (by
            have h5:xs=ys:=congrArg Prod.snd h;rw[h5])))
           clear e2;go_wp2;go_ret;exact⟨ret_bool (by rw[HF2.out] <;> rfl),HB.out.trans (HU.out.mono HB.out.size)⟩
         ·have f1:(lx != ly)=true:=by simp[e1]
          have HF2:=hid (HNE.out (fun h=>e1 (congrArg Prod.fst h)));clear e1;go_wp2;go_ret;exact⟨ret_bool (by rw[HF2.out] <;> rfl),HB.out.trans (HU.out.mono HB.out.size)⟩
        ·obtain⟨u1,hu1⟩:∃ u1,u1=wr.alloc (.cells #[.int .i64 ly,.slice yA ys.length yc] 58):=⟨_,rfl⟩
         obtain⟨u2,hu2⟩:∃ u2,u2=u1.alloc (.cells #[.int .i64 lx,.slice xA xs.length xc] 58):=⟨_,rfl⟩
         have t1:Below wr.heap.size wr u1:=by rw[hu1];exact below_new _ _
         have t2:Below u1.heap.size u1 u2:=by rw[hu2];exact below_new _ _
         have z1:u1.heap.size=wr.heap.size+1:=by rw[hu1];simp
         have v1:Blk u1 wr.heap.size 58 #[.int .i64 ly,.slice yA ys.length yc]:=by rw[hu1];exact Blk.new _ _ _
         have v2:Blk u2 u1.heap.size 58 #[.int .i64 lx,.slice xA xs.length xc]:=by rw[hu2];exact Blk.new _ _ _
         have v1':=v1.below t2 v1.lt;rw[z1] at v2;have t3:=t1.trans (t2.mono t1.size);rw[hu1] at hu2;rw[← hu2];obtain⟨u3,hu3⟩:∃ u3,u3=u2.drew:=⟨_,rfl⟩
         rw[← hu3];have t3:Below wr.heap.size wr u3:=by rw[hu3];exact t3.drew
         have v1':Blk u3 wr.heap.size 58 #[.int .i64 ly,.slice yA ys.length yc]:=by rw[hu3];exact v1'
         have v2:Blk u3 (wr.heap.size+1) 58 #[.int .i64 lx,.slice xA xs.length xc]:=by rw[hu3];exact v2
         have HU:=hid ((HB2.out.trans (t3.mono HB2.out.size)));have HXU:=hid (HXI.out.ext t3);have HYU:=hid (HYI.out.ext t3);have m0:=v2.cell_ 0 (.int .i64 lx) rfl;have m1:=v2.cell_ 1 (.slice xA xs.length xc) rfl;have n0:=v1'.cell_ 0 (.int .i64 ly) rfl;have n1:=v1'.cell_ 1 (.slice yA ys.length yc) rfl;clear t1 t2 v1 v2 v1' t3 hu1 hu2 hu3 z1 x0 x1 y0 y1 x2 y2 hz1 hz2 hb1 hb2;by_cases e1:lx=ly
         ·have f1:(lx != ly)=false:=by simp[e1]
          have HE4:=hid e1;clear e1;by_cases e2:xs.length=ys.length
          ·have f2:((xs.length:Int) != (ys.length:Int))=false:=by simp[e2]
           have HE5:=hid e2;have lx1:=HXU.out.le;have ly1:=HYU.out.le;clear e2;have HLT:=hid hlt;have HL3:=hid l3;clear hlt hlt2 l1 l2 l3 l4;go_wp2;clear f1 f2;go_loopw [9] (fun i wi=>∃ m q:Nat,m≤xs.length∧i=.int .i64 m∧wi=u3.drewN q∧Hid (xs.take m=ys.take m)) (fun i _=>xs.length - (intOf i).toNat)
           case atStart=>exact⟨0,0,Nat.zero_le _,rfl,rfl,hid rfl⟩
           case round=>
            obtain⟨m,qd,hm,rfl,rfl,HTI⟩:=hrel;by_cases hml:m < xs.length
            ·have hml2:m < ys.length:=by have:=HE5.out;omega
             obtain⟨bx,ox,rfl,-,hc⟩:=HXU.out.at_ hml;obtain⟨bz,oz,rfl,-,hc2⟩:=HYU.out.at_ hml2;go_wp2;go_quiet (fail)
             go_wp2
             ·have hne:¬ xs[m]=ys[m]:=by simpa using ‹(xs[m] != ys[m])=true›
              have HF2:=hid (HNE.out (fun h=>hne (by
               have h5:xs=ys:=congrArg Prod.snd h;subst h5;rfl)))
              go_ret;exact⟨ret_bool (by rw[HF2.out] <;> rfl),below_drewN (below_drewN (HB.out.trans (HU.out.mono HB.out.size)) _) _⟩
             ·have he:xs[m]=ys[m]:=by simpa using ‹(xs[m] != ys[m])=false›
              go_roundw
              case rel=>exact⟨m+1,_,by omega,by go_num,rfl,hid (take_eq_snoc HTI.out hml hml2 he)⟩
              case measure=>simp[intOf];omega
            ·have hk':m=xs.length:=by omega
             have hfin:xs=ys:=by
              have:=HTI.out;rwa [hk',List.take_of_length_le (Nat.le_refl _),List.take_of_length_le (by rw[HE5.out];exact Nat.le_refl _)] at this
             have HNX:=hid (HTK.out (by
              have h4:=HE4.out;subst h4 hfin;rfl))
             clear hfin hk';have hw1:wrap64 ((k:Int)+1)=(k:Int)+1:=by have:=HLT.out;have:=HL3.out;unfold wrap64;omega
             go_wp2;go_roundw
             case rel=>exact⟨k+1,HLT.out,(by rw[hw1];rfl),hid (below_drewN HU.out _),HNX⟩
             case measure=>rw[hw1];have:=HLT.out;simp[intOf];omega
          ·have f2:((xs.length:Int) != (ys.length:Int))=true:=by simp;omega
           have HF2:=hid (HNE.out (fun h=>e2 (by
            have h5:xs=ys:=congrArg Prod.snd h;rw[h5])))
           clear e2;go_wp2;go_ret;exact⟨ret_bool (by rw[HF2.out] <;> rfl),HB.out.trans (HU.out.mono HB.out.size)⟩
         ·have f1:(lx != ly)=true:=by simp[e1]
          have HF2:=hid (HNE.out (fun h=>e1 (congrArg Prod.fst h)));clear e1;go_wp2;go_ret;exact⟨ret_bool (by rw[HF2.out] <;> rfl),HB.out.trans (HU.out.mono HB.out.size)⟩
       ·have hk':k=h1.length:=by omega
        have HF2:Hid (sameP ⟨s1,p1,h1.map Hd.nd⟩ ⟨s2,p2,h2.map Hd.nd⟩=true):=hid (by
         have h7:=HT.out;rw[hk',List.take_of_length_le (Nat.le_refl _),List.take_of_length_le (by rw[HE3.out];exact Nat.le_refl _)] at h7;unfold sameP;dsimp only;rw[decide_eq_true HE1.out,decide_eq_true HF.out,decide_eq_true h7];rfl)
        clear hk' r1 r2;go_wp2;go_ret;exact⟨ret_bool (by rw[HF2.out] <;> rfl),HB.out.trans (HB2.out.mono HB.out.size)⟩
   ·have f3:((h1.length:Int) != (h2.length:Int))=true:=by simp;omega
    have HF:Hid (sameP ⟨s1,p1,h1.map Hd.nd⟩ ⟨s2,p2,h2.map Hd.nd⟩=false):=hid (by
     unfold sameP;rw[show decide (h1.map Hd.nd=h2.map Hd.nd)=false from decide_eq_false (fun h=>e3 (by simpa using congrArg List.length h))]
     simp)
    clear e3;go_enter Tryz.func12,Tryz.ntmps12;go_upto_region 1 with fail
    rw[← HW.out];go_wp2;go_ret;exact⟨ret_bool (by rw[HF.out] <;> rfl),HB.out⟩
  ·have f2:((p1.length:Int) != (p2.length:Int))=true:=by simp;omega
   have HF:Hid (sameP ⟨s1,p1,h1.map Hd.nd⟩ ⟨s2,p2,h2.map Hd.nd⟩=false):=hid (by
    unfold sameP;rw[show decide (p1=p2)=false from decide_eq_false (fun h=>e2 (by rw[h]))]
    simp)
   clear e2;go_enter Tryz.func12,Tryz.ntmps12;go_upto_region 1 with fail
   rw[← HW.out];go_wp2;go_ret;exact⟨ret_bool (by rw[HF.out] <;> rfl),HB.out⟩
 ·have f1:(s1 != s2)=true:=by simp[e1]
  have HF:Hid (sameP ⟨s1,p1,h1.map Hd.nd⟩ ⟨s2,p2,h2.map Hd.nd⟩=false):=hid (by
   unfold sameP;rw[show decide (s1=s2)=false from decide_eq_false e1]
   simp)
  clear e1;go_enter Tryz.func12,Tryz.ntmps12;go_upto_region 1 with fail
  rw[← HW.out];go_wp2;go_ret;exact⟨ret_bool (by rw[HF.out] <;> rfl),HB.out⟩
end Go.Proofs.YtlegfdllipkggaaGreatDoor
namespace Go.Proofs.YtlegfdllipkggaaGreatDoor
open Go.RowKit
set_option maxRecDepth 100000
set_option linter.unusedVariables false
set_option linter.unusedSimpArgs false

theorem rsamet_at {t u:PT}{v x:Value}{w:World}(h:TreeAt w v t)(k:TreeAt w x u):Calls Tryz.prog 12 #[v,x] w fun e w'=>e=.returned (.bool (sameP t u))∧Below w.heap.size w w':=by
 obtain⟨A,c,B,d,os,rfl,h2,h3,h4⟩:=h;obtain⟨A',c',B',d',os',rfl,k2,k3,k4⟩:=k;have:=rsamet_any t.st u.st A c t.ps B d os A' c' u.ps B' d' os' w h2 h3 k2 k3;rw[h4,k4] at this;exact this
theorem sameP_self (t:PT):sameP t t=true:=by
 unfold sameP
 simp
end Go.Proofs.YtlegfdllipkggaaGreatDoor
