/-
  texts Small15 MadeT MadeR TreeP: parts of the proof; conditions stand with each theorem.
-/
import Derived.Test.YtlegfdllipkggaaGreatDoorWG6
import Derived.Test.YtlegfdllipkggaaGreatDoorWG5
import Derived.Test.YtlegfdllipkggaaGreatDoorWBldrT
import Derived.Test.YtlegfdllipkggaaGreatDoorWBldrR
import Derived.Test.YtlegfdllipkggaaGreatDoorWG12
namespace Go.Proofs.YtlegfdllipkggaaGreatDoor
open Lib(hid)
open Go.RowKit
set_option maxRecDepth 100000
set_option linter.unusedVariables false
set_option linter.unusedSimpArgs false
def smallP (q L:Nat):Bool:=decide (q ^ L≤65536)
set_option maxHeartbeats 4000000 in
theorem small15_any (hA:Option Addr)(hc:Nat)(vA:Option Addr)(vc:Nat)(rA:Option Addr)(rc:Nat)(t:TabH)(q:Nat)(w:World)(hq:t.st=(q:Int))(hq1:1≤q)(hq8:q≤8)(hl:t.hood.length≤1000000) :
  Calls Tryz.prog 35 #[tabV hA hc vA vc rA rc t] w fun e w'=>e=.returned (.bool (smallP q t.hood.length))∧Below w.heap.size w w':=by
 obtain⟨st,sym,hood,vs,rs⟩:=t;unfold tabV;dsimp only at hq hl ⊢;subst hq;obtain⟨L,hL⟩:∃ L,L=hood.length:=⟨_,rfl⟩
 rw[← hL] at hl ⊢;obtain⟨w0,hw0⟩:∃ w0,w0=w.alloc (.cells #[.int .i64 (q:Int),.int .i64 sym,.slice hA L hc,.slice vA vs.length vc,.slice rA rs.length rc] 26):=⟨_,rfl⟩
 have hb0:Below w.heap.size w w0:=by rw[hw0];exact below_new _ _
 have p0:Blk w0 w.heap.size 26 #[.int .i64 (q:Int),.int .i64 sym,.slice hA L hc,.slice vA vs.length vc,.slice rA rs.length rc]:=by rw[hw0];exact Blk.new _ _ _
 obtain⟨gT,hgT⟩:∃ g,g=w.heap.size:=⟨_,rfl⟩
 rw[← hgT] at p0;have c0:=p0.cell_ 0 (.int .i64 (q:Int)) rfl;have c2:=p0.cell_ 2 (.slice hA L hc) rfl;have HB0:=hid hb0;have HW0:=hid (And.intro hw0 hgT);have HQ:=hid (And.intro hq1 hq8);have hl9:L≤9223372036854775807:=by omega
 have HLL:=hid hl;clear hb0 p0 hw0 hgT hL hq1 hq8 hl;go_enter Tryz.func35,Tryz.ntmps35;go_upto_region 2 with fail
 rw[← HW0.out.1,← HW0.out.2];go_wp2;go_loopw [3,7] (fun nv iv wr=>∃ (k n:Nat),k≤L∧iv=.int .i64 k∧nv=.int .i64 n∧w0=wr∧Hid (n=q ^ k∧n≤65536)) (fun _ iv _=>L - (intOf iv).toNat)
 case atStart=>exact⟨0,1,Nat.zero_le _,rfl,rfl,rfl,hid ⟨by simp,by decide⟩⟩
 case round=>
  obtain⟨k,n,hk,rfl,rfl,rfl,HN⟩:=hrel;by_cases hkl:k < L
  ·have HK:=hid hkl;have hwk:wrap64 ((k:Int)+1)=(k:Int)+1:=by have:=HLL.out;unfold wrap64;omega
   have HWK:=hid hwk;obtain⟨m,hm⟩:∃ m,m=n*q:=⟨_,rfl⟩
   have hm8:m≤524288:=by rw[hm];exact Nat.le_trans (Nat.mul_le_mul HN.out.2 HQ.out.2) (by decide)
   have hmi:(n:Int)*(q:Int)=(m:Int):=by rw[hm,Int.natCast_mul]
   have hwm:wrap64 ((n:Int)*(q:Int))=(m:Int):=by rw[hmi];unfold wrap64;omega
   have HWM:=hid hwm;have HM:Hid (m=q ^ (k+1)):=hid (by rw[hm,HN.out.1,Nat.pow_succ]);clear hk hwk hm;by_cases hb:65536 < m
   ·have db:decide ((65536:Int) < (m:Int))=true:=decide_eq_true (by omega);have db':decide (65536 < m)=true:=decide_eq_true hb;have HF:Hid (smallP q L=false):=hid (decide_eq_false (by
     have h1:q ^ (k+1)≤q ^ L:=Nat.pow_le_pow_right HQ.out.1 HK.out;rw[← HM.out] at h1;omega))
    clear hb hm8 hmi;go_wp2;go_ret;exact⟨ret_bool HF.out.symm,HB0.out⟩
   ·have db:decide ((65536:Int) < (m:Int))=false:=decide_eq_false (by omega);have db':decide (65536 < m)=false:=decide_eq_false hb;have HN2:Hid (m=q ^ (k+1)∧m≤65536):=hid ⟨HM.out,by omega⟩;clear hb hm8 hmi;go_wp2;go_roundw
    case rel=>exact⟨k+1,m,HK.out,(by first | rfl | (rw[HWK.out];rfl)),(by first | rfl | (rw[HWM.out])),(by first | rfl | trivial),HN2⟩
    case measure=>(try rw[HWK.out]);exact meas_step HK.out
  ·obtain rfl:k=L:=Nat.le_antisymm hk (Nat.le_of_not_lt hkl);have HF:Hid (smallP q k=true):=hid (decide_eq_true (by rw[← HN.out.1];exact HN.out.2));clear hk hkl;go_wp2;go_ret;exact⟨ret_bool HF.out.symm,HB0.out⟩
end Go.Proofs.YtlegfdllipkggaaGreatDoor
namespace Go.Proofs.YtlegfdllipkggaaGreatDoor
open Lib(hid)
open Go.RowKit Go.Maps
set_option maxRecDepth 100000
set_option linter.unusedVariables false
set_option linter.unusedSimpArgs false
def madeP (q:Nat)(hood:List (Int × Int))(f:List Nat→Int):PT × Int:=
 if smallP q hood.length=false then (PT.zero,6) else if 4096 < (growP q f hood.length [] []).2.length then (PT.zero,6) else (⟨(q:Int),hood,(growP q f hood.length [] []).2⟩,0)
theorem TreeAt.zero (w:World):TreeAt w (.agg #[.int .i64 0,.slice none 0 0,.slice none 0 0]) PT.zero:=⟨none,0,none,0,[],rfl,Pts.nil,Nds.nil,rfl⟩
def RetMade (te:PT × Int)(hood:List (Int × Int))(hA:Option Addr)(hc:Nat)(w:World)(e:Ending)(w':World):Prop:=
 ∃ s0 A0 n0 c0 A1 n1 c1,e=.returned (.tuple #[.agg #[.int .i64 s0,.slice A0 n0 c0,.slice A1 n1 c1],.int .i64 te.2])∧Below w.heap.size w w'∧
  ((te.1=PT.zero∧s0=0∧A0=none∧n0=0∧c0=0∧A1=none∧n1=0∧c1=0)∨
   ∃ os:List Hd,s0=te.1.st∧hA=A0∧n0=hood.length∧hc=c0∧n1=os.length∧te.1.ps=hood∧OwnNA w' w.heap.size (.slice A1 n1 c1) os∧os.map Hd.nd=te.1.ns)
theorem OwnN.down15 {w:World}{b b':Nat}{v:Value}{hs:List Hd}(h:OwnNA w b v hs)(hb:b'≤b):OwnNA w b' v hs:=⟨own_down h.1 hb,fun x hx=>own_down (h.2 x hx) hb⟩
theorem cap_small {q:Nat}(hq:2≤q):∀ n:Nat,cap q n+1≤q ^ n
 | 0=>by simp[cap]
 | n+1=>by
  have h:=cap_small hq n;have h2:q*(cap q n+1)≤q*q ^ n:=Nat.mul_le_mul_left q h;rw[Nat.pow_succ,Nat.mul_comm (q ^ n) q];rw[Nat.mul_add,Nat.mul_one] at h2;show q*cap q n+1+1≤q*q ^ n;omega

set_option maxHeartbeats 16000000 in
theorem madeT_any (hA:Option Addr)(hc:Nat)(vA:Option Addr)(vc:Nat)(rA:Option Addr)(rc:Nat)(t:TabH)(q:Nat)(gt:Nat)(f:List Nat→Int)(w:World)(hst:t.st=(q:Int))(hq1:2≤q)(hq8:q≤8)(hl1:1≤t.hood.length)(hl:t.hood.length≤25)(hp:Pts w hA t.hood)(hT:TabB w.heap.size w)(hF:∀ l:List Nat,l.length=t.hood.length→(∀ s ∈ l,s < q)→0≤f l∧f l < (q:Int))
  (hval:∀ (l:List Nat) (A:Option Addr) (c:Nat) (W:World),l.length=t.hood.length→(∀ s ∈ l,s < q)→Ints W A (intsN l)→Below w.heap.size w W→Calls Tryz.prog 26 #[.slice A t.hood.length c,.pointer (some ⟨gt,0,none⟩)] W fun e w'=>e=.returned (.int .i64 (f l))∧Below W.heap.size W w') :
  Calls Tryz.prog 25 #[tabV hA hc vA vc rA rc t,(.func (.func 26) #[] #[.pointer (some ⟨gt,0,none⟩)])] w (RetMade (madeP q t.hood f) t.hood hA hc w):=by
 obtain⟨w0,hw0⟩:∃ w0,w0=(w.alloc (.cells #[.int .i64 t.st,.int .i64 t.sym,.slice hA t.hood.length hc,.slice vA t.vs.length vc,.slice rA t.rs.length rc] 26)).alloc (.cells #[.int .i64 0,.slice none 0 0,.slice none 0 0] 31):=⟨_,rfl⟩
 have hb0:Below w.heap.size w w0:=by rw[hw0];exact (below_new _ _).alloc (by simp) _
 have p0:Blk w0 w.heap.size 26 #[.int .i64 t.st,.int .i64 t.sym,.slice hA t.hood.length hc,.slice vA t.vs.length vc,.slice rA t.rs.length rc]:=by rw[hw0];exact (Blk.new w _ _).alloc _
 have q0:Blk w0 (w.heap.size+1) 31 #[.int .i64 0,.slice none 0 0,.slice none 0 0]:=by rw[hw0];have:=Blk.new (w.alloc (.cells #[.int .i64 t.st,.int .i64 t.sym,.slice hA t.hood.length hc,.slice vA t.vs.length vc,.slice rA t.rs.length rc] 26)) 31 #[.int .i64 0,.slice none 0 0,.slice none 0 0];simpa using this
 have hsm:=small15_any hA hc vA vc rA rc t q w0 hst (by omega) hq8 (by omega);obtain⟨st,sym,hood,vs,rs⟩:=t;unfold tabV at hsm ⊢;dsimp only at hst hl1 hl hp hF hval hsm p0 hw0 ⊢;subst hst;have HB0:=hid hb0;have HP:=hid p0;have HQ0:=hid q0;have HW0:=hid hw0;have HV:=hid (And.intro hF hval);have HN:=hid (And.intro hq1 (And.intro hq8 (And.intro hl1 hl)));have HPT:=hid hp;have HTB:=hid hT;have hh9:hood.length≤9223372036854775807:=hp.le;have c0:=p0.cell_ 0 (.int .i64 (q:Int)) rfl;have c1:=p0.cell_ 1 (.int .i64 sym) rfl;have c2:=p0.cell_ 2 (.slice hA hood.length hc) rfl;have c3:=p0.cell_ 3 (.slice vA vs.length vc) rfl;have c4:=p0.cell_ 4 (.slice rA rs.length rc) rfl;obtain⟨res,hres⟩:∃ r,r=madeP q hood f:=⟨_,rfl⟩
 rw[← hres];have HRES:=hid hres;clear hb0 p0 q0 hw0 hF hval hq1 hq8 hl1 hl hp hT hres;cases hs:smallP q hood.length with
 | false=>
  have HE:Hid (res=(PT.zero,6)):=hid (by rw[HRES.out];unfold madeP;rw[if_pos hs]);rw[hs] at hsm;have HSM:=hid hsm;clear hs hsm;go_enter Tryz.func25,Tryz.ntmps25;go_upto_region 1 with fail
  rw[← HW0.out];go_wp2_with (go_at_call 35;refine HSM.out.mono ?_;rintro e w1 ⟨rfl,hb⟩;refine Hid.out ?_);refine hid ?_;have HQ1:=hid (HQ0.out.below hb HQ0.out.lt);have HB1:=hid (HB0.out.trans (hb.mono HB0.out.size));clear hb c0 c1 c2 c3 c4;have d0:=HQ1.out.cell_ 0 (.int .i64 0) rfl;have f0:=HQ1.out.frozen 0;have d1:=HQ1.out.cell_ 1 (.slice none 0 0) rfl;have f1:=HQ1.out.frozen 1;have d2:=HQ1.out.cell_ 2 (.slice none 0 0) rfl;have f2:=HQ1.out.frozen 2;go_wp2;have hq:Blk (((w1.setCell ⟨w.heap.size+1,0,none⟩ (.int .i64 0)).setCell ⟨w.heap.size+1,1,none⟩ (.slice none 0 0)).setCell ⟨w.heap.size+1,2,none⟩ (.slice none 0 0)) (w.heap.size+1) 31 #[.int .i64 0,.slice none 0 0,.slice none 0 0]:=(((HQ1.out.set_ 0 (.int .i64 0)).set_ 1 (.slice none 0 0)).set_ 2 (.slice none 0 0))
  rw[HE.out];exact bodyPost_ret (results_ct Tryz.results25 _ _ (w.heap.size+1) 31 #[.int .i64 0,.slice none 0 0,.slice none 0 0] (0,0) _ rfl hq Tryz.underlying31 rfl Tryz.sizeTree) rfl
   ⟨_,_,_,_,_,_,_,rfl,(((HB1.out.setCell (p:=⟨w.heap.size+1,0,none⟩) (by simp) _).setCell (p:=⟨w.heap.size+1,1,none⟩) (by simp) _).setCell (p:=⟨w.heap.size+1,2,none⟩) (by simp) _),.inl ⟨rfl,rfl,rfl,rfl,rfl,rfl,rfl,rfl⟩⟩
 | true=>
  have HSP:=hid hs;rw[hs] at hsm;have HSM:=hid hsm;clear hs hsm;have hmm:=@run_makeMap Tryz.prog;go_enter Tryz.func25,Tryz.ntmps25;go_upto_region 1 with fail
  rw[← HW0.out];go_wp2_with (go_at_call 35;refine HSM.out.mono ?_;rintro e w1 ⟨rfl,hb⟩;refine Hid.out ?_);refine hid ?_;have HQ1:=hid (HQ0.out.below hb HQ0.out.lt);have HB1:=hid (HB0.out.trans (hb.mono HB0.out.size));have HP1:=hid (HP.out.below hb HP.out.lt);clear hb c0 c1 c2 c3 c4;have c0:=HP1.out.cell_ 0 (.int .i64 (q:Int)) rfl;have c2:=HP1.out.cell_ 2 (.slice hA hood.length hc) rfl;go_upto_region 4 with fail
  obtain⟨wm,hwm⟩:∃ W,W=w1.alloc (.map #[] 0):=⟨_,rfl⟩
  obtain⟨w3,hw3⟩:∃ W,W=wm.alloc (.cells #[.int .i64 (q:Int),.slice hA hood.length hc,.slice none 0 0,.map (some w1.heap.size),.slice none 0 0,(.func (.func 26) #[] #[.pointer (some ⟨gt,0,none⟩)])] 78):=⟨_,rfl⟩
  obtain⟨gM,hgM⟩:∃ g,g=w1.heap.size:=⟨_,rfl⟩
  have hzm:wm.heap.size=w1.heap.size+1:=by rw[hwm];simp
  have hbm:Below w1.heap.size w1 wm:=by rw[hwm];exact below_new _ _
  have hb3:Below wm.heap.size wm w3:=by rw[hw3];exact below_new _ _
  have hb13:Below w1.heap.size w1 w3:=hbm.trans (hb3.mono hbm.size);have hmap:MapA w3 gM 0 (.map []):=by
   have h1:MapA wm gM 0 (.map []):=by rw[hwm,hgM];exact World.ownsMap_made (H:=Unit) w1 Tryz.prog 9 (plainElem Tryz.prog 3)
   exact (Kept.of_new (fun _=>False) hb3).map h1 (fun h=>h)
  have hblk:Blk w3 (gM+1) 78 #[.int .i64 (q:Int),.slice hA hood.length hc,.slice none 0 0,.map (some gM),.slice none 0 0,(.func (.func 26) #[] #[.pointer (some ⟨gt,0,none⟩)])]:=by rw[hgM,← hzm,hw3];exact Blk.new _ _ _
  have HT3:Hid (TbM gM (gM+1) gM (q:Int) hA hood.length hc (.func (.func 26) #[] #[.pointer (some ⟨gt,0,none⟩)]) (.slice none 0 0) [] (.map []) (.slice none 0 0) (intsN []) w3):=hid ⟨hblk,OwnN.nil _ _ _ _,hmap,Known.nil,OwnI.nil _ _ _,fun x hx=>absurd hx (by simp),by omega⟩;have HW3:Hid ((w1.alloc (.map #[] 0)).alloc (.cells #[.int .i64 (q:Int),.slice hA hood.length hc,.slice none 0 0,.map (some gM),.slice none 0 0,(.func (.func 26) #[] #[.pointer (some ⟨gt,0,none⟩)])] 78)=w3):=hid (by rw[hgM,hw3,hwm]);have HGM:Hid (w1.heap.size=gM∧w.heap.size+1 < gM):=hid ⟨hgM.symm,by rw[hgM];exact HQ1.out.lt⟩;have HB13:Hid (Below gM w1 w3):=hid (by rw[hgM];exact hb13);have HTW:Hid (TabB gM w1):=hid ((HTB.out.on HB1.out).up (by have:=HGM.out.2;omega));have hcap:=cap_small HN.out.1 hood.length;have hs16:q ^ hood.length≤65536:=by have:=HSP.out;unfold smallP at this;exact of_decide_eq_true this
  have hcall:=buildT_any gM (gM+1) gM hA hc q hood.length gt f w1 HGM.out.1 (by have:=HN.out;omega) HN.out.2.1 HN.out.2.2.2 HTW.out HV.out.1 (fun l A c W h1 h2 h3 h4=>HV.out.2 l A c W h1 h2 h3 (HB1.out.trans (h4.mono (by have:=HGM.out.2;omega))))
   hood.length [] (.slice none 0 0) (.slice none 0 0) [] (.map []) w3 (by simp) (fun s hs=>absurd hs (by simp)) (NV.nil q) HT3.out HB13.out (by simp;omega)
  obtain⟨rg,hrg⟩:∃ r,r=growP q f hood.length [] []:=⟨_,rfl⟩
  rw[show (([]:List Hd).map Hd.nd)=[] from rfl,← hrg] at hcall;have HRG:Hid (res=if 4096 < rg.2.length then (PT.zero,6) else (⟨(q:Int),hood,rg.2⟩,0)):=hid (by rw[HRES.out];unfold madeP;rw[if_neg (by rw[HSP.out];simp),hrg]);have HCALL:=hid hcall;clear hwm hw3 hzm hbm hb3 hb13 hmap hblk hcap hs16 hcall hrg c0 c2;rw[← hgM,HW3.out];clear hgM;go_wp2_with (go_at_call 49;refine HCALL.out.mono ?_;rintro e w4 ⟨ov4,os4,D4,iv4,rfl,heq,ht4,hv4⟩;refine Hid.out ?_);refine hid ?_;obtain⟨oA,oc,eov,-,-⟩:=ht4.out.nds;subst eov;have HBx:Hid (Below gM w1 w4):=hid (HB13.out.trans (HT3.out.below hv4));have HT4:=hid ht4;have HQ4:=hid (HQ1.out.below HBx.out HGM.out.2);have HB4:Hid (Below w.heap.size w w4):=hid (HB1.out.trans (HBx.out.mono (by have:=HGM.out.2;omega)));have HEQ:=hid heq;have ho9:os4.length≤9223372036854775807:=ht4.out.reads.le;have x0:=ht4.blk.cell_ 0 (.int .i64 (q:Int)) rfl;have x1:=ht4.blk.cell_ 1 (.slice hA hood.length hc) rfl;have x2:=ht4.blk.cell_ 2 (.slice oA os4.length oc) rfl;have hlen:rg.2.length=os4.length:=by rw[← heq,List.length_map]
  have HLEN:=hid hlen;clear heq ht4 hv4 HCALL hlen;by_cases h4:4096 < os4.length
  ·have HE:Hid (res=(PT.zero,6)):=hid (by rw[HRG.out,if_pos (by rw[HLEN.out];exact h4)]);have db:decide ((4096:Int) < (os4.length:Int))=true:=decide_eq_true (by omega);have db':decide (4096 < os4.length)=true:=decide_eq_true h4;clear h4;have d0:=HQ4.out.cell_ 0 (.int .i64 0) rfl;have f0:=HQ4.out.frozen 0;have d1:=HQ4.out.cell_ 1 (.slice none 0 0) rfl;have f1:=HQ4.out.frozen 1;have d2:=HQ4.out.cell_ 2 (.slice none 0 0) rfl;have f2:=HQ4.out.frozen 2;go_wp2;have hq:Blk (((w4.setCell ⟨w.heap.size+1,0,none⟩ (.int .i64 0)).setCell ⟨w.heap.size+1,1,none⟩ (.slice none 0 0)).setCell ⟨w.heap.size+1,2,none⟩ (.slice none 0 0)) (w.heap.size+1) 31 #[.int .i64 0,.slice none 0 0,.slice none 0 0]:=(((HQ4.out.set_ 0 (.int .i64 0)).set_ 1 (.slice none 0 0)).set_ 2 (.slice none 0 0))
   rw[HE.out];exact bodyPost_ret (results_ct Tryz.results25 _ _ (w.heap.size+1) 31 #[.int .i64 0,.slice none 0 0,.slice none 0 0] (0,0) _ rfl hq Tryz.underlying31 rfl Tryz.sizeTree) rfl
    ⟨_,_,_,_,_,_,_,rfl,(((HB4.out.setCell (p:=⟨w.heap.size+1,0,none⟩) (by simp) _).setCell (p:=⟨w.heap.size+1,1,none⟩) (by simp) _).setCell (p:=⟨w.heap.size+1,2,none⟩) (by simp) _),.inl ⟨rfl,rfl,rfl,rfl,rfl,rfl,rfl,rfl⟩⟩
  ·have HE:Hid (res=(⟨(q:Int),hood,rg.2⟩,0)):=hid (by rw[HRG.out,if_neg (by rw[HLEN.out];exact h4)]);have db:decide ((4096:Int) < (os4.length:Int))=false:=decide_eq_false (by omega);have db':decide (4096 < os4.length)=false:=decide_eq_false h4;clear h4;have d0:=HQ4.out.cell_ 0 (.int .i64 0) rfl;have f0:=HQ4.out.frozen 0;have d1:=HQ4.out.cell_ 1 (.slice none 0 0) rfl;have f1:=HQ4.out.frozen 1;have d2:=HQ4.out.cell_ 2 (.slice none 0 0) rfl;have f2:=HQ4.out.frozen 2;go_wp2;have hq:Blk (((w4.setCell ⟨w.heap.size+1,0,none⟩ (.int .i64 (q:Int))).setCell ⟨w.heap.size+1,1,none⟩ (.slice hA hood.length hc)).setCell ⟨w.heap.size+1,2,none⟩ (.slice oA os4.length oc)) (w.heap.size+1) 31 #[.int .i64 (q:Int),.slice hA hood.length hc,.slice oA os4.length oc]:=(((HQ4.out.set_ 0 (.int .i64 (q:Int))).set_ 1 (.slice hA hood.length hc)).set_ 2 (.slice oA os4.length oc))
   have hk:Kept (fun g=>g=w.heap.size+1) w4 (((w4.setCell ⟨w.heap.size+1,0,none⟩ (.int .i64 (q:Int))).setCell ⟨w.heap.size+1,1,none⟩ (.slice hA hood.length hc)).setCell ⟨w.heap.size+1,2,none⟩ (.slice oA os4.length oc)):=((((Kept.refl (fun g=>g=w.heap.size+1) w4).setCell (p:=⟨w.heap.size+1,0,none⟩) (Or.inl rfl) _).setCell (p:=⟨w.heap.size+1,1,none⟩) (Or.inl rfl) _).setCell (p:=⟨w.heap.size+1,2,none⟩) (Or.inl rfl) _)
   have hon:=HT4.out.out.kept hk (fun g g1 g2=>by subst g2;have:=(own_lt' HT4.out.out.1 g1).2;have:=HGM.out.2;omega) (fun x hx g g1 g2=>by subst g2;have:=(own_lt' (HT4.out.out.2 x hx) g1).2;have:=HGM.out.2;omega);have hbe:Below w.heap.size w (((w4.setCell ⟨w.heap.size+1,0,none⟩ (.int .i64 (q:Int))).setCell ⟨w.heap.size+1,1,none⟩ (.slice hA hood.length hc)).setCell ⟨w.heap.size+1,2,none⟩ (.slice oA os4.length oc)):=(((HB4.out.setCell (p:=⟨w.heap.size+1,0,none⟩) (by simp) _).setCell (p:=⟨w.heap.size+1,1,none⟩) (by simp) _).setCell (p:=⟨w.heap.size+1,2,none⟩) (by simp) _)
   rw[HE.out];exact bodyPost_ret (results_ct Tryz.results25 _ _ (w.heap.size+1) 31 #[.int .i64 (q:Int),.slice hA hood.length hc,.slice oA os4.length oc] (0,0) _ rfl hq Tryz.underlying31 rfl Tryz.sizeTree) rfl
    ⟨_,_,_,_,_,_,_,rfl,hbe,.inr ⟨os4,rfl,rfl,rfl,rfl,rfl,rfl,OwnN.down15 hon (by have:=HGM.out.2;omega),HEQ.out⟩⟩

set_option maxHeartbeats 16000000 in
theorem madeR_any (hA:Option Addr)(hc:Nat)(vA:Option Addr)(vc:Nat)(rA:Option Addr)(rc:Nat)(t:TabH)(q:Nat)(gt:Nat)(gr:Nat)(f:List Nat→Int)(w:World)(hst:t.st=(q:Int))(hq1:2≤q)(hq8:q≤8)(hl1:1≤t.hood.length)(hl:t.hood.length≤25)(hp:Pts w hA t.hood)(hT:TabB w.heap.size w)(hF:∀ l:List Nat,l.length=t.hood.length→(∀ s ∈ l,s < q)→0≤f l∧f l < (q:Int))
  (hval:∀ (l:List Nat) (A:Option Addr) (c:Nat) (W:World),l.length=t.hood.length→(∀ s ∈ l,s < q)→Ints W A (intsN l)→Below w.heap.size w W→Calls Tryz.prog 29 #[.slice A t.hood.length c,.pointer (some ⟨gt,0,none⟩),.pointer (some ⟨gr,0,none⟩)] W fun e w'=>e=.returned (.int .i64 (f l))∧Below W.heap.size W w') :
  Calls Tryz.prog 25 #[tabV hA hc vA vc rA rc t,(.func (.func 29) #[] #[.pointer (some ⟨gt,0,none⟩),.pointer (some ⟨gr,0,none⟩)])] w (RetMade (madeP q t.hood f) t.hood hA hc w):=by
 obtain⟨w0,hw0⟩:∃ w0,w0=(w.alloc (.cells #[.int .i64 t.st,.int .i64 t.sym,.slice hA t.hood.length hc,.slice vA t.vs.length vc,.slice rA t.rs.length rc] 26)).alloc (.cells #[.int .i64 0,.slice none 0 0,.slice none 0 0] 31):=⟨_,rfl⟩
 have hb0:Below w.heap.size w w0:=by rw[hw0];exact (below_new _ _).alloc (by simp) _
 have p0:Blk w0 w.heap.size 26 #[.int .i64 t.st,.int .i64 t.sym,.slice hA t.hood.length hc,.slice vA t.vs.length vc,.slice rA t.rs.length rc]:=by rw[hw0];exact (Blk.new w _ _).alloc _
 have q0:Blk w0 (w.heap.size+1) 31 #[.int .i64 0,.slice none 0 0,.slice none 0 0]:=by rw[hw0];have:=Blk.new (w.alloc (.cells #[.int .i64 t.st,.int .i64 t.sym,.slice hA t.hood.length hc,.slice vA t.vs.length vc,.slice rA t.rs.length rc] 26)) 31 #[.int .i64 0,.slice none 0 0,.slice none 0 0];simpa using this
 have hsm:=small15_any hA hc vA vc rA rc t q w0 hst (by omega) hq8 (by omega);obtain⟨st,sym,hood,vs,rs⟩:=t;unfold tabV at hsm ⊢;dsimp only at hst hl1 hl hp hF hval hsm p0 hw0 ⊢;subst hst;have HB0:=hid hb0;have HP:=hid p0;have HQ0:=hid q0;have HW0:=hid hw0;have HV:=hid (And.intro hF hval);have HN:=hid (And.intro hq1 (And.intro hq8 (And.intro hl1 hl)));have HPT:=hid hp;have HTB:=hid hT;have hh9:hood.length≤9223372036854775807:=hp.le;have c0:=p0.cell_ 0 (.int .i64 (q:Int)) rfl;have c1:=p0.cell_ 1 (.int .i64 sym) rfl;have c2:=p0.cell_ 2 (.slice hA hood.length hc) rfl;have c3:=p0.cell_ 3 (.slice vA vs.length vc) rfl;have c4:=p0.cell_ 4 (.slice rA rs.length rc) rfl;obtain⟨res,hres⟩:∃ r,r=madeP q hood f:=⟨_,rfl⟩
 rw[← hres];have HRES:=hid hres;clear hb0 p0 q0 hw0 hF hval hq1 hq8 hl1 hl hp hT hres;cases hs:smallP q hood.length with
 | false=>
  have HE:Hid (res=(PT.zero,6)):=hid (by rw[HRES.out];unfold madeP;rw[if_pos hs]);rw[hs] at hsm;have HSM:=hid hsm;clear hs hsm;go_enter Tryz.func25,Tryz.ntmps25;go_upto_region 1 with fail
  rw[← HW0.out];go_wp2_with (go_at_call 35;refine HSM.out.mono ?_;rintro e w1 ⟨rfl,hb⟩;refine Hid.out ?_);refine hid ?_;have HQ1:=hid (HQ0.out.below hb HQ0.out.lt);have HB1:=hid (HB0.out.trans (hb.mono HB0.out.size));clear hb c0 c1 c2 c3 c4;have d0:=HQ1.out.cell_ 0 (.int .i64 0) rfl;have f0:=HQ1.out.frozen 0;have d1:=HQ1.out.cell_ 1 (.slice none 0 0) rfl;have f1:=HQ1.out.frozen 1;have d2:=HQ1.out.cell_ 2 (.slice none 0 0) rfl;have f2:=HQ1.out.frozen 2;go_wp2;have hq:Blk (((w1.setCell ⟨w.heap.size+1,0,none⟩ (.int .i64 0)).setCell ⟨w.heap.size+1,1,none⟩ (.slice none 0 0)).setCell ⟨w.heap.size+1,2,none⟩ (.slice none 0 0)) (w.heap.size+1) 31 #[.int .i64 0,.slice none 0 0,.slice none 0 0]:=(((HQ1.out.set_ 0 (.int .i64 0)).set_ 1 (.slice none 0 0)).set_ 2 (.slice none 0 0))
  rw[HE.out];exact bodyPost_ret (results_ct Tryz.results25 _ _ (w.heap.size+1) 31 #[.int .i64 0,.slice none 0 0,.slice none 0 0] (0,0) _ rfl hq Tryz.underlying31 rfl Tryz.sizeTree) rfl
   ⟨_,_,_,_,_,_,_,rfl,(((HB1.out.setCell (p:=⟨w.heap.size+1,0,none⟩) (by simp) _).setCell (p:=⟨w.heap.size+1,1,none⟩) (by simp) _).setCell (p:=⟨w.heap.size+1,2,none⟩) (by simp) _),.inl ⟨rfl,rfl,rfl,rfl,rfl,rfl,rfl,rfl⟩⟩
 | true=>
  have HSP:=hid hs;rw[hs] at hsm;have HSM:=hid hsm;clear hs hsm;have hmm:=@run_makeMap Tryz.prog;go_enter Tryz.func25,Tryz.ntmps25;go_upto_region 1 with fail
  rw[← HW0.out];go_wp2_with (go_at_call 35;refine HSM.out.mono ?_;rintro e w1 ⟨rfl,hb⟩;refine Hid.out ?_);refine hid ?_;have HQ1:=hid (HQ0.out.below hb HQ0.out.lt);have HB1:=hid (HB0.out.trans (hb.mono HB0.out.size));have HP1:=hid (HP.out.below hb HP.out.lt);clear hb c0 c1 c2 c3 c4;have c0:=HP1.out.cell_ 0 (.int .i64 (q:Int)) rfl;have c2:=HP1.out.cell_ 2 (.slice hA hood.length hc) rfl;go_upto_region 4 with fail
  obtain⟨wm,hwm⟩:∃ W,W=w1.alloc (.map #[] 0):=⟨_,rfl⟩
  obtain⟨w3,hw3⟩:∃ W,W=wm.alloc (.cells #[.int .i64 (q:Int),.slice hA hood.length hc,.slice none 0 0,.map (some w1.heap.size),.slice none 0 0,(.func (.func 29) #[] #[.pointer (some ⟨gt,0,none⟩),.pointer (some ⟨gr,0,none⟩)])] 78):=⟨_,rfl⟩
  obtain⟨gM,hgM⟩:∃ g,g=w1.heap.size:=⟨_,rfl⟩
  have hzm:wm.heap.size=w1.heap.size+1:=by rw[hwm];simp
  have hbm:Below w1.heap.size w1 wm:=by rw[hwm];exact below_new _ _
  have hb3:Below wm.heap.size wm w3:=by rw[hw3];exact below_new _ _
  have hb13:Below w1.heap.size w1 w3:=hbm.trans (hb3.mono hbm.size);have hmap:MapA w3 gM 0 (.map []):=by
   have h1:MapA wm gM 0 (.map []):=by rw[hwm,hgM];exact World.ownsMap_made (H:=Unit) w1 Tryz.prog 9 (plainElem Tryz.prog 3)
   exact (Kept.of_new (fun _=>False) hb3).map h1 (fun h=>h)
  have hblk:Blk w3 (gM+1) 78 #[.int .i64 (q:Int),.slice hA hood.length hc,.slice none 0 0,.map (some gM),.slice none 0 0,(.func (.func 29) #[] #[.pointer (some ⟨gt,0,none⟩),.pointer (some ⟨gr,0,none⟩)])]:=by rw[hgM,← hzm,hw3];exact Blk.new _ _ _
  have HT3:Hid (TbM gM (gM+1) gM (q:Int) hA hood.length hc (.func (.func 29) #[] #[.pointer (some ⟨gt,0,none⟩),.pointer (some ⟨gr,0,none⟩)]) (.slice none 0 0) [] (.map []) (.slice none 0 0) (intsN []) w3):=hid ⟨hblk,OwnN.nil _ _ _ _,hmap,Known.nil,OwnI.nil _ _ _,fun x hx=>absurd hx (by simp),by omega⟩;have HW3:Hid ((w1.alloc (.map #[] 0)).alloc (.cells #[.int .i64 (q:Int),.slice hA hood.length hc,.slice none 0 0,.map (some gM),.slice none 0 0,(.func (.func 29) #[] #[.pointer (some ⟨gt,0,none⟩),.pointer (some ⟨gr,0,none⟩)])] 78)=w3):=hid (by rw[hgM,hw3,hwm]);have HGM:Hid (w1.heap.size=gM∧w.heap.size+1 < gM):=hid ⟨hgM.symm,by rw[hgM];exact HQ1.out.lt⟩;have HB13:Hid (Below gM w1 w3):=hid (by rw[hgM];exact hb13);have HTW:Hid (TabB gM w1):=hid ((HTB.out.on HB1.out).up (by have:=HGM.out.2;omega));have hcap:=cap_small HN.out.1 hood.length;have hs16:q ^ hood.length≤65536:=by have:=HSP.out;unfold smallP at this;exact of_decide_eq_true this
  have hcall:=buildR_any gM (gM+1) gM hA hc q hood.length gt gr f w1 HGM.out.1 (by have:=HN.out;omega) HN.out.2.1 HN.out.2.2.2 HTW.out HV.out.1 (fun l A c W h1 h2 h3 h4=>HV.out.2 l A c W h1 h2 h3 (HB1.out.trans (h4.mono (by have:=HGM.out.2;omega))))
   hood.length [] (.slice none 0 0) (.slice none 0 0) [] (.map []) w3 (by simp) (fun s hs=>absurd hs (by simp)) (NV.nil q) HT3.out HB13.out (by simp;omega)
  obtain⟨rg,hrg⟩:∃ r,r=growP q f hood.length [] []:=⟨_,rfl⟩
  rw[show (([]:List Hd).map Hd.nd)=[] from rfl,← hrg] at hcall;have HRG:Hid (res=if 4096 < rg.2.length then (PT.zero,6) else (⟨(q:Int),hood,rg.2⟩,0)):=hid (by rw[HRES.out];unfold madeP;rw[if_neg (by rw[HSP.out];simp),hrg]);have HCALL:=hid hcall;clear hwm hw3 hzm hbm hb3 hb13 hmap hblk hcap hs16 hcall hrg c0 c2;rw[← hgM,HW3.out];clear hgM;go_wp2_with (go_at_call 49;refine HCALL.out.mono ?_;rintro e w4 ⟨ov4,os4,D4,iv4,rfl,heq,ht4,hv4⟩;refine Hid.out ?_);refine hid ?_;obtain⟨oA,oc,eov,-,-⟩:=ht4.out.nds;subst eov;have HBx:Hid (Below gM w1 w4):=hid (HB13.out.trans (HT3.out.below hv4));have HT4:=hid ht4;have HQ4:=hid (HQ1.out.below HBx.out HGM.out.2);have HB4:Hid (Below w.heap.size w w4):=hid (HB1.out.trans (HBx.out.mono (by have:=HGM.out.2;omega)));have HEQ:=hid heq;have ho9:os4.length≤9223372036854775807:=ht4.out.reads.le;have x0:=ht4.blk.cell_ 0 (.int .i64 (q:Int)) rfl;have x1:=ht4.blk.cell_ 1 (.slice hA hood.length hc) rfl;have x2:=ht4.blk.cell_ 2 (.slice oA os4.length oc) rfl;have hlen:rg.2.length=os4.length:=by rw[← heq,List.length_map]
  have HLEN:=hid hlen;clear heq ht4 hv4 HCALL hlen;by_cases h4:4096 < os4.length
  ·have HE:Hid (res=(PT.zero,6)):=hid (by rw[HRG.out,if_pos (by rw[HLEN.out];exact h4)]);have db:decide ((4096:Int) < (os4.length:Int))=true:=decide_eq_true (by omega);have db':decide (4096 < os4.length)=true:=decide_eq_true h4;clear h4;have d0:=HQ4.out.cell_ 0 (.int .i64 0) rfl;have f0:=HQ4.out.frozen 0;have d1:=HQ4.out.cell_ 1 (.slice none 0 0) rfl;have f1:=HQ4.out.frozen 1;have d2:=HQ4.out.cell_ 2 (.slice none 0 0) rfl;have f2:=HQ4.out.frozen 2;go_wp2;have hq:Blk (((w4.setCell ⟨w.heap.size+1,0,none⟩ (.int .i64 0)).setCell ⟨w.heap.size+1,1,none⟩ (.slice none 0 0)).setCell ⟨w.heap.size+1,2,none⟩ (.slice none 0 0)) (w.heap.size+1) 31 #[.int .i64 0,.slice none 0 0,.slice none 0 0]:=(((HQ4.out.set_ 0 (.int .i64 0)).set_ 1 (.slice none 0 0)).set_ 2 (.slice none 0 0))
   rw[HE.out];exact bodyPost_ret (results_ct Tryz.results25 _ _ (w.heap.size+1) 31 #[.int .i64 0,.slice none 0 0,.slice none 0 0] (0,0) _ rfl hq Tryz.underlying31 rfl Tryz.sizeTree) rfl
    ⟨_,_,_,_,_,_,_,rfl,(((HB4.out.setCell (p:=⟨w.heap.size+1,0,none⟩) (by simp) _).setCell (p:=⟨w.heap.size+1,1,none⟩) (by simp) _).setCell (p:=⟨w.heap.size+1,2,none⟩) (by simp) _),.inl ⟨rfl,rfl,rfl,rfl,rfl,rfl,rfl,rfl⟩⟩
  ·have HE:Hid (res=(⟨(q:Int),hood,rg.2⟩,0)):=hid (by rw[HRG.out,if_neg (by rw[HLEN.out];exact h4)]);have db:decide ((4096:Int) < (os4.length:Int))=false:=decide_eq_false (by omega);have db':decide (4096 < os4.length)=false:=decide_eq_false h4;clear h4;have d0:=HQ4.out.cell_ 0 (.int .i64 0) rfl;have f0:=HQ4.out.frozen 0;have d1:=HQ4.out.cell_ 1 (.slice none 0 0) rfl;have f1:=HQ4.out.frozen 1;have d2:=HQ4.out.cell_ 2 (.slice none 0 0) rfl;have f2:=HQ4.out.frozen 2;go_wp2;have hq:Blk (((w4.setCell ⟨w.heap.size+1,0,none⟩ (.int .i64 (q:Int))).setCell ⟨w.heap.size+1,1,none⟩ (.slice hA hood.length hc)).setCell ⟨w.heap.size+1,2,none⟩ (.slice oA os4.length oc)) (w.heap.size+1) 31 #[.int .i64 (q:Int),.slice hA hood.length hc,.slice oA os4.length oc]:=(((HQ4.out.set_ 0 (.int .i64 (q:Int))).set_ 1 (.slice hA hood.length hc)).set_ 2 (.slice oA os4.length oc))
   have hk:Kept (fun g=>g=w.heap.size+1) w4 (((w4.setCell ⟨w.heap.size+1,0,none⟩ (.int .i64 (q:Int))).setCell ⟨w.heap.size+1,1,none⟩ (.slice hA hood.length hc)).setCell ⟨w.heap.size+1,2,none⟩ (.slice oA os4.length oc)):=((((Kept.refl (fun g=>g=w.heap.size+1) w4).setCell (p:=⟨w.heap.size+1,0,none⟩) (Or.inl rfl) _).setCell (p:=⟨w.heap.size+1,1,none⟩) (Or.inl rfl) _).setCell (p:=⟨w.heap.size+1,2,none⟩) (Or.inl rfl) _)
   have hon:=HT4.out.out.kept hk (fun g g1 g2=>by subst g2;have:=(own_lt' HT4.out.out.1 g1).2;have:=HGM.out.2;omega) (fun x hx g g1 g2=>by subst g2;have:=(own_lt' (HT4.out.out.2 x hx) g1).2;have:=HGM.out.2;omega);have hbe:Below w.heap.size w (((w4.setCell ⟨w.heap.size+1,0,none⟩ (.int .i64 (q:Int))).setCell ⟨w.heap.size+1,1,none⟩ (.slice hA hood.length hc)).setCell ⟨w.heap.size+1,2,none⟩ (.slice oA os4.length oc)):=(((HB4.out.setCell (p:=⟨w.heap.size+1,0,none⟩) (by simp) _).setCell (p:=⟨w.heap.size+1,1,none⟩) (by simp) _).setCell (p:=⟨w.heap.size+1,2,none⟩) (by simp) _)
   rw[HE.out];exact bodyPost_ret (results_ct Tryz.results25 _ _ (w.heap.size+1) 31 #[.int .i64 (q:Int),.slice hA hood.length hc,.slice oA os4.length oc] (0,0) _ rfl hq Tryz.underlying31 rfl Tryz.sizeTree) rfl
    ⟨_,_,_,_,_,_,_,rfl,hbe,.inr ⟨os4,rfl,rfl,rfl,rfl,rfl,rfl,OwnN.down15 hon (by have:=HGM.out.2;omega),HEQ.out⟩⟩
end Go.Proofs.YtlegfdllipkggaaGreatDoor
namespace Go.Proofs.YtlegfdllipkggaaGreatDoor
set_option linter.unusedVariables false
set_option linter.unusedSimpArgs false
def Inv15 (st:Int)(bs:List Int):Prop:=∀ v,-1≤bs.getD v 0∧bs.getD v 0 < st
theorem getD_set15 (bs:List Int)(i v:Nat)(z:Int):(bs.set i z).getD v 0=if i=v∧i < bs.length then z else bs.getD v 0:=by
 rw[List.getD_eq_getElem?_getD,List.getElem?_set,List.getD_eq_getElem?_getD];by_cases h:i=v
 ·subst h;rw[if_pos rfl];by_cases h2:i < bs.length
  ·rw[if_pos h2,if_pos ⟨rfl,h2⟩];rfl
  ·rw[if_neg h2,if_neg (fun h=>h2 h.2),List.getElem?_eq_none (Nat.le_of_not_lt h2)]
 ·rw[if_neg h,if_neg (fun h2=>h h2.1)]
theorem accept_inv {st:Int}{vars:List (List Int)}{bs:List Int}{e s:Int}(h:Inv15 st bs)(hl:bs.length=40)(hs:0≤s∧s < st)(he:ElOk 40 e)(hok:(acceptP vars bs e s).1=true) :
  Inv15 st (acceptP vars bs e s).2.2∧(e < 0→0≤(acceptP vars bs e s).2.2.getD (-1 - e).toNat 0)∧∀ v,0≤bs.getD v 0→0≤(acceptP vars bs e s).2.2.getD v 0:=by
 unfold acceptP at hok ⊢;by_cases h0:0≤e
 ·rw[if_pos h0] at hok ⊢;exact⟨h,fun h2=>absurd h2 (by omega),fun v hv=>hv⟩
 ·rw[if_neg h0] at hok ⊢;by_cases h1:0≤bs.getD (-1 - e).toNat 0
  ·rw[if_pos h1] at hok ⊢;exact⟨h,fun _=>h1,fun v hv=>hv⟩
  ·rw[if_neg h1] at hok ⊢;by_cases h2:s ∈ vars.getD (-1 - e).toNat []
   ·rw[if_pos h2] at hok ⊢;have hv40:=he.1 (by omega);refine⟨fun v=>?_,fun _=>?_,fun v hv=>?_⟩
    ·dsimp only;rw[getD_set15]
     split
     ·omega
     ·exact h v
    ·dsimp only;rw[getD_set15,if_pos ⟨rfl,by omega⟩];exact hs.1
    ·dsimp only;rw[getD_set15]
     split
     ·exact hs.1
     ·exact hv
   ·rw[if_neg h2] at hok;cases hok
theorem bind_inv {st:Int}{vars:List (List Int)}:∀ (ins inn bs bs':List Int),Inv15 st bs→bs.length=40→(∀ s ∈ inn,0≤s∧s < st)→(∀ e ∈ ins,ElOk 40 e)→bindAll vars ins inn bs=some bs'→
  Inv15 st bs'∧(∀ e ∈ ins,e < 0→0≤bs'.getD (-1 - e).toNat 0)∧∀ v,0≤bs.getD v 0→0≤bs'.getD v 0
 | [],inn,bs,bs',h,_,_,_,hb=>by
  injection hb with hb
  subst hb;exact⟨h,fun e he=>absurd he (by simp),fun v hv=>hv⟩
 | e :: l,[],bs,bs',_,_,_,_,hb=>by cases hb
 | e :: l,s :: r,bs,bs',h,hl,hs,he,hb=>by
  unfold bindAll at hb;by_cases hok:(acceptP vars bs e s).1=true
  ·rw[if_pos hok] at hb;obtain⟨k1,k2,k3⟩:=accept_inv h hl (hs s (by simp)) (he e (by simp)) hok;obtain⟨m1,m2,m3⟩:=bind_inv l r _ bs' k1 (by rw[acceptP_len];exact hl) (fun x hx=>hs x (by simp[hx])) (fun x hx=>he x (by simp[hx])) hb;refine⟨m1,fun x hx hx0=>?_,fun v hv=>m3 v (k3 v hv)⟩;rcases List.mem_cons.1 hx with rfl | hx
   ·exact m3 _ (k2 hx0)
   ·exact m2 x hx hx0
  ·rw[if_neg hok] at hb;cases hb
theorem inv_neg {st:Int}(h:0 < st):Inv15 st negL:=fun v=>by
 unfold negL;rw[List.getD_eq_getElem?_getD,List.getElem?_replicate]
 split
 ·exact⟨by decide,by show (-1:Int) < st;omega⟩
 ·exact⟨by decide,h⟩
def OutOk (st:Int)(ins:List Int)(out:Int):Prop:=out < st∧(0≤out∨out ∈ ins)
theorem plain_rng {st:Int}{vars:List (List Int)}{ins inn:List Int}{out:Int}(h0:0 < st)(hs:∀ s ∈ inn,0≤s∧s < st)(he:∀ e ∈ ins,ElOk 40 e)(ho:OutOk st ins out)(h:(plainP vars ins out inn).2=true):0≤(plainP vars ins out inn).1∧(plainP vars ins out inn).1 < st:=by
 cases hb:bindAll vars ins inn negL with
 | none=>rw[plainP_none hb] at h;cases h
 | some bs=>
  obtain⟨k1,k2,-⟩:=bind_inv ins inn negL bs (inv_neg h0) (by simp[negL]) hs he hb;rw[plainP_some hb];dsimp only;unfold outP;by_cases h1:0≤out
  ·rw[if_pos h1];exact⟨h1,ho.1⟩
  ·rw[if_neg h1];rcases ho.2 with h2 | h2
   ·exact absurd h2 h1
   ·exact⟨k2 out h2 (by omega),(k1 _).2⟩
theorem turned_st {st:Int}{hood:List (Int × Int)}{k:Int}{inn:List Int}(h0:0 < st)(hs:∀ s ∈ inn,0≤s∧s < st):∀ s ∈ turnedP hood k inn,0≤s∧s < st:=by
 intro s h;unfold turnedP at h;obtain⟨q,-,rfl⟩:=List.mem_map.1 h;rw[List.getD_eq_getElem?_getD];cases h2:inn[(idxF (symP k q) 0 hood).toNat]? with
 | none=>exact⟨by simp,by simpa using h0⟩
 | some z=>exact hs z (List.mem_of_getElem? h2)
theorem decTo_rng {st:Int}{hood:List (Int × Int)}{vars:List (List Int)}{ins inn:List Int}{out:Int}(h0:0 < st)(hs:∀ s ∈ inn,0≤s∧s < st)(he:∀ e ∈ ins,ElOk 40 e)(ho:OutOk st ins out):∀ k,(decTo hood vars ins out inn k).2=true→0≤(decTo hood vars ins out inn k).1∧(decTo hood vars ins out inn k).1 < st
 | 0,h=>by cases h
 | k+1,h=>by
  unfold decTo at h ⊢;by_cases hp:(plainP vars ins out (turnedP hood (k:Int) inn)).2=true
  ·rw[if_pos hp] at h ⊢;have hr:=plain_rng h0 (turned_st h0 hs) he ho hp;unfold better at h ⊢
   split
   ·exact hr
   ·rename_i hn;rw[if_neg hn] at h;exact decTo_rng h0 hs he ho k h
  ·rw[if_neg hp] at h ⊢;exact decTo_rng h0 hs he ho k h
def PermRng:Prop:=∀ (st:Int)(hood:List (Int × Int))(vars:List (List Int))(ins inn:List Int)(out:Int),0 < st→(∀ s ∈ inn,0≤s∧s < st)→(∀ e ∈ ins,ElOk 40 e)→OutOk st ins out→ins.length=inn.length→hood.length=inn.length→hoodB hood=true→(permutedP hood vars ins out inn).2=true→0≤(permutedP hood vars ins out inn).1∧(permutedP hood vars ins out inn).1 < st
abbrev SymOk (sym:Int):Prop:=sym≠3∨(PermOK∧PermRng)
theorem SymOk.c {sym:Int}(h:SymOk sym):sym≠3∨PermOK:=h.imp id And.left
theorem row_rng {t:TabL}{inn:List Int}{r:Rw}(ht:rightTab t=true)(hs:SymOk t.sym)(hi:∀ s ∈ inn,0≤s∧s < t.st)(hl:inn.length=t.hood.length)(hr:r ∈ t.rows)(h:(rowD t inn r).2=true):0≤(rowD t inn r).1∧(rowD t inn r).1 < t.st:=by
 obtain⟨h1,h2,h3,h4,h5,h6,h7⟩:=rightTab_parts ht;have hk:=h7 r hr;obtain⟨k1,k2,k3⟩:=okRow_parts h4 hk;have he:∀ e ∈ r.1,ElOk 40 e:=fun e hx=>⟨fun hn=>Nat.lt_of_lt_of_le ((k3 e hx).1 hn) h4,(k3 e hx).2⟩
 have ho:OutOk t.st r.1 r.2:=by
  unfold okRow at hk;simp only[Bool.and_eq_true,Bool.or_eq_true,decide_eq_true_eq] at hk;obtain⟨⟨⟨-,m2⟩,m3⟩,-⟩:=hk;unfold elB at m2;simp only[Bool.and_eq_true,decide_eq_true_eq] at m2;exact⟨m2.1,m3⟩
 unfold rowD decideP at h ⊢;by_cases hq:t.sym=3
 ·rw[if_pos hq] at h ⊢;rcases hs with hs | hs
  ·exact absurd hq hs
  ·exact hs.2 t.st t.hood t.vars r.1 inn r.2 (by omega) hi he ho (by rw[k1,hl]) hl.symm h2 h
 ·rw[if_neg hq] at h ⊢;exact decTo_rng (by omega) hi he ho _ h
theorem first_rng {t:TabL}{inn:List Int}(ht:rightTab t=true)(hs:SymOk t.sym)(hi:∀ s ∈ inn,0≤s∧s < t.st)(hl:inn.length=t.hood.length):∀ (rs:List Rw)(z:Int),(∀ r ∈ rs,r ∈ t.rows)→firstD t inn rs=some z→0≤z∧z < t.st
 | [],z,_,h=>by cases h
 | r :: l,z,hr,h=>by
  unfold firstD at h;by_cases hd:(rowD t inn r).2=true
  ·rw[if_pos hd] at h;injection h with h
   subst h;exact row_rng ht hs hi hl (hr r (by simp)) hd
  ·rw[if_neg hd] at h;exact first_rng ht hs hi hl l z (fun x hx=>hr x (by simp[hx])) h
theorem val_rng {t:TabL}{inn:List Int}(ht:rightTab t=true)(hs:SymOk t.sym)(hi:∀ s ∈ inn,0≤s∧s < t.st)(hl:inn.length=t.hood.length):0≤valT t inn∧valT t inn < t.st:=by
 unfold valT;cases hf:firstD t inn t.rows with
 | some z=>exact first_rng ht hs hi hl t.rows z (fun r hr=>hr) hf
 | none=>
  dsimp only;have h0:=(rightTab_parts ht).1.1
  split
  ·rw[List.getD_eq_getElem?_getD];cases h2:inn[(ctrP t.hood).toNat]? with
   | none=>exact⟨by simp,by simp;omega⟩
   | some z=>exact hi z (List.mem_of_getElem? h2)
  ·exact⟨Int.le_refl _,by omega⟩
theorem states_intsN {st:Int}{q:Nat}(hq:st=(q:Int)){l:List Nat}(h:∀ s ∈ l,s < q):statesB st (intsN l)=true∧∀ s ∈ intsN l,0≤s∧s < st:=by
 have h2:∀ s ∈ intsN l,0≤s∧s < st:=fun s hs=>by
  unfold intsN at hs;obtain⟨n,hn,rfl⟩:=List.mem_map.1 hs;have:=h n hn;omega
 refine⟨?_,h2⟩;unfold statesB;have:(intsN l).any (badS st)=false:=List.any_eq_false.2 fun s hs=>by
  have:=h2 s hs;unfold badS
  simp
  omega
 rw[this];rfl
theorem next_intsN {t:TabL}{q:Nat}(ht:rightTab t=true)(hq:t.st=(q:Int)){l:List Nat}(hl:l.length=t.hood.length)(h:∀ s ∈ l,s < q):nextT t (intsN l)=(valT t (intsN l),0):=by
 unfold nextT;rw[if_neg (by rintro (h1 | h1);rw[ht] at h1;cases h1;exact h1 (by rw[intsN_len,hl])),if_neg (by rw[(states_intsN hq h).1];simp)]
end Go.Proofs.YtlegfdllipkggaaGreatDoor
