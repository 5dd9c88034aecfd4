/-
  texts Decide RuleR States: parts of the proof; conditions stand with each theorem.
-/
import Derived.Test.YtcmbdhopmncmnaaGreatDoorVG2
import Derived.Test.YtcmbdhopmncmnaaGreatDoorVG1
namespace Go.Proofs.YtcmbdhopmncmnaaGreatDoor
open Lib(hid)
open Go.RowKit
set_option maxRecDepth 100000
set_option linter.unusedVariables false
set_option linter.unusedSimpArgs false
def better (r:Int × Bool)(n:Int):Int × Bool:=if r.2=false∨n < r.1 then (n,true) else r
def decTo (hood:List (Int × Int))(vars:List (List Int))(ins:List Int)(out:Int)(inn:List Int):Nat→Int × Bool
 | 0=>(0,false)
 | k+1=>if (plainP vars ins out (turnedP hood (k:Int) inn)).2=true then better (decTo hood vars ins out inn k) (plainP vars ins out (turnedP hood (k:Int) inn)).1 else decTo hood vars ins out inn k
def nSym (sym:Int):Nat:=if sym=1 then 4 else if sym=2 then 8 else 1
def placeP (vars:List (List Int))(ins:List Int)(out:Int)(inn:List Int)(c:Int):Nat→List Int→List Bool→Int × Bool→Int × Bool
 | 0,bs,used,r=>better r (outP bs out)
 | L+1,bs,used,r=>if ((inn.length - (L+1):Nat):Int)=c then placeP vars ins out inn c L bs used r else
   ((List.range inn.length).foldl (fun (x:List Int × (Int × Bool)) (k:Nat)=>
    if (k:Int)=c∨used.getD k false=true∨inn.getD k 0 ∈ x.1 then x else
     (inn.getD k 0 :: x.1,if (acceptP vars bs (ins.getD (inn.length - (L+1)) 0) (inn.getD k 0)).1=true then placeP vars ins out inn c L (acceptP vars bs (ins.getD (inn.length - (L+1)) 0) (inn.getD k 0)).2.2 (used.set k true) x.2 else x.2)) ([],r)).2
def permutedP (hood:List (Int × Int))(vars:List (List Int))(ins:List Int)(out:Int)(inn:List Int):Int × Bool:=
 if 0≤ctrP hood then
  if (acceptP vars negL (ins.getD (ctrP hood).toNat 0) (inn.getD (ctrP hood).toNat 0)).1=true then placeP vars ins out inn (ctrP hood) inn.length (acceptP vars negL (ins.getD (ctrP hood).toNat 0) (inn.getD (ctrP hood).toNat 0)).2.2 (List.replicate inn.length false) (0,false)
  else (0,false)
 else placeP vars ins out inn (ctrP hood) inn.length negL (List.replicate inn.length false) (0,false)
def decideP (sym:Int)(hood:List (Int × Int))(vars:List (List Int))(ins:List Int)(out:Int)(inn:List Int):Int × Bool:=
 if sym=3 then permutedP hood vars ins out inn else decTo hood vars ins out inn (nSym sym)
structure DecR (w:World)(hA vA:Option Addr)(t:TabH)(zA:Option Addr)(ins:List Int)(out:Int)(iA:Option Addr)(inn:List Int):Prop where
 pts:Pts w hA t.hood
 hood:hoodB t.hood=true
 perm:permP t.hood t.sym=true
 vrs:Vrs w vA t.vs
 v40:t.vs.length≤40
 gm:GMat w
 rz:Ints w zA ins
 ri:Ints w iA inn
 lz:ins.length=t.hood.length
 li:inn.length=t.hood.length
 ez:∀ e ∈ ins,ElOk t.vs.length e
 eo:ElOk t.vs.length out
theorem DecR.ext {w w':World}{hA vA:Option Addr}{t:TabH}{zA:Option Addr}{ins:List Int}{out:Int}{iA:Option Addr}{inn:List Int}(h:DecR w hA vA t zA ins out iA inn)(hb:Below w.heap.size w w'):DecR w' hA vA t zA ins out iA inn:=
 ⟨h.pts.ext hb,h.hood,h.perm,h.vrs.ext hb,h.v40,h.gm.ext hb,h.rz.ext hb,h.ri.ext hb,h.lz,h.li,h.ez,h.eo⟩
def PermOK:Prop:=∀ (hA:Option Addr)(hc:Nat)(vA:Option Addr)(vc:Nat)(rA:Option Addr)(rc:Nat)(t:TabH)(zA:Option Addr)(zc:Nat)(ins:List Int)(out:Int)(iA:Option Addr)(ic:Nat)(inn:List Int)(w:World),DecR w hA vA t zA ins out iA inn→(∀ s ∈ inn,0≤s∧s < 8)→
  Calls Tryz.prog 75 #[tabV hA hc vA vc rA rc t,.agg #[.slice zA ins.length zc,.int .i64 out],.slice iA inn.length ic] w fun en w'=>en=.returned (.tuple #[.int .i64 (permutedP t.hood (t.vs.map Vh.zs) ins out inn).1,.bool (permutedP t.hood (t.vs.map Vh.zs) ins out inn).2])∧Below w.heap.size w w'
theorem hoodB_len {ps:List (Int × Int)}(h:hoodB ps=true):1≤ps.length∧ps.length≤25:=by
 unfold hoodB at h;simp only[Bool.and_eq_true,decide_eq_true_eq] at h;exact h.1
theorem symP_0 (q:Int × Int):symP 0 q=q:=by
 have h1:matL.getD (symJ 0*4) 0=1:=by decide
 have h2:matL.getD (symJ 0*4+1) 0=0:=by decide
 have h3:matL.getD (symJ 0*4+2) 0=0:=by decide
 have h4:matL.getD (symJ 0*4+3) 0=1:=by decide
 unfold symP;rw[h1,h2,h3,h4];exact Prod.ext (by simp) (by simp)
theorem symP_2 (q:Int × Int):symP 2 q=symP 1 (symP 1 q):=by
 have h1:matL.getD (symJ 2*4) 0 = -1:=by decide
 have h2:matL.getD (symJ 2*4+1) 0=0:=by decide
 have h3:matL.getD (symJ 2*4+2) 0=0:=by decide
 have h4:matL.getD (symJ 2*4+3) 0 = -1:=by decide
 have k1:matL.getD (symJ 1*4) 0=0:=by decide
 have k2:matL.getD (symJ 1*4+1) 0 = -1:=by decide
 have k3:matL.getD (symJ 1*4+2) 0=1:=by decide
 have k4:matL.getD (symJ 1*4+3) 0=0:=by decide
 unfold symP;rw[h1,h2,h3,h4,k1,k2,k3,k4];exact Prod.ext (by simp) (by simp)
theorem symP_3 (q:Int × Int):symP 3 q=symP 1 (symP 2 q):=by
 have h1:matL.getD (symJ 3*4) 0=0:=by decide
 have h2:matL.getD (symJ 3*4+1) 0=1:=by decide
 have h3:matL.getD (symJ 3*4+2) 0 = -1:=by decide
 have h4:matL.getD (symJ 3*4+3) 0=0:=by decide
 have k1:matL.getD (symJ 1*4) 0=0:=by decide
 have k2:matL.getD (symJ 1*4+1) 0 = -1:=by decide
 have k3:matL.getD (symJ 1*4+2) 0=1:=by decide
 have k4:matL.getD (symJ 1*4+3) 0=0:=by decide
 have m1:matL.getD (symJ 2*4) 0 = -1:=by decide
 have m2:matL.getD (symJ 2*4+1) 0=0:=by decide
 have m3:matL.getD (symJ 2*4+2) 0=0:=by decide
 have m4:matL.getD (symJ 2*4+3) 0 = -1:=by decide
 unfold symP;rw[h1,h2,h3,h4,k1,k2,k3,k4,m1,m2,m3,m4];exact Prod.ext (by simp) (by simp)
theorem symsTo_mem {ps:List (Int × Int)}{n:Nat}{k:Nat}(h:(k:Int) ∈ symsTo ps n):∀ q ∈ ps,symP (k:Int) q ∈ ps:=by
 unfold symsTo at h;obtain⟨j,hj,e⟩:=List.mem_map.1 h;have e':j=k:=by omega
 subst e';have h2:=(List.mem_filter.1 hj).2;intro q hq;by_cases hm:symP (j:Int) q ∈ ps
 ·exact hm
 ·have:ps.any (outH ps (j:Int))=true:=List.any_eq_true.2 ⟨q,hq,by unfold outH;rw[decide_eq_false hm];rfl⟩;rw[this] at h2;exact absurd h2 (by simp)
theorem symsTo_full {ps:List (Int × Int)}(h:(symsTo ps 8).length=8):∀ k:Nat,k < 8→(k:Int) ∈ symsTo ps 8:=by
 unfold symsTo at h ⊢;rw[List.length_map] at h;intro k hk;refine List.mem_map.2 ⟨k,?_,rfl⟩;have:(List.range 8).filter (fun (k:Nat)=>!ps.any (outH ps (k:Int)))=List.range 8:=(List.filter_sublist).eq_of_length (by rw[h];rfl);rw[this];exact List.mem_range.2 hk
theorem syms_in {ps:List (Int × Int)}{sym:Int}(hh:hoodB ps=true)(hp:permP ps sym=true)(h3:sym≠3){k:Nat}(hk:k < nSym sym):∀ q ∈ ps,symP (k:Int) q ∈ ps:=by
 have hs:symsP ps=symsTo ps 8:=if_pos hh;by_cases h0:sym=0
 ·subst h0;obtain rfl:k=0:=by unfold nSym at hk;simp at hk;omega
  intro q hq;rw[show ((0:Nat):Int)=0 from rfl,symP_0];exact hq
 ·by_cases h1:sym=1
  ·subst h1;have hm:((1:Nat):Int) ∈ symsTo ps 8:=by
    unfold permP at hp;rw[hs] at hp;simpa using hp
   have c1:=symsTo_mem hm;have hk4:k < 4:=by unfold nSym at hk;simpa using hk
   intro q hq;have e:k=0∨k=1∨k=2∨k=3:=by omega
   rcases e with rfl | rfl | rfl | rfl
   ·rw[show ((0:Nat):Int)=0 from rfl,symP_0];exact hq
   ·exact c1 q hq
   ·rw[show ((2:Nat):Int)=2 from rfl,symP_2];exact c1 _ (c1 _ hq)
   ·rw[show ((3:Nat):Int)=3 from rfl,symP_3,symP_2];exact c1 _ (c1 _ (c1 _ hq))
  ·by_cases h2:sym=2
   ·subst h2;have hm:(symsTo ps 8).length=8:=by
     unfold permP at hp;rw[hs] at hp;simp at hp;omega
    have hk8:k < 8:=by unfold nSym at hk;simpa using hk
    exact symsTo_mem (symsTo_full hm k hk8)
   ·unfold permP at hp;rw[if_neg h0,if_neg h1,if_neg h2,if_neg h3] at hp;cases hp
structure De12J (V:World)(tv:Value)(rv:Value)(kk:Nat)(iv:Value)(nn:Nat)(tl:List Int)(p1:Int)(p2:Bool)(b0 b1 b2 b3 b4 b5 b6 b7 b8 b9 b10 b11:Bool)(v31 v32 v33 v34 v35 v36 v37 v30 v38 v39 v10 v11:Value)(w:World):Prop where
 h0:b0=true→v31=tv
 h1:b1=true→v32=rv
 h2:b2=true→v33=tv
 h3:b3=true→v34=.int .i64 (kk:Int)
 h4:b4=true→v35=iv
 h6:b6=true→v37=.tuple #[.int .i64 p1,.bool p2]
 h7:b7=true→v30=.tuple #[.int .i64 p1,.bool p2]
 h8:b8=true→v38=.int .i64 p1
 h9:b9=true→v39=.bool p2
 h10:b10=true→v10=.int .i64 p1
 h11:b11=true→v11=.bool p2
 below:Below V.heap.size V w
 x5:b5=true→∃ A9 c9,v36=.slice A9 nn c9∧Ints w A9 tl
set_option maxHeartbeats 16000000 in
theorem decide_any (hA:Option Addr)(hc:Nat)(vA:Option Addr)(vc:Nat)(rA:Option Addr)(rc:Nat)(t:TabH)(zA:Option Addr)(zc:Nat)(ins:List Int)(out:Int)(iA:Option Addr)(ic:Nat)(inn:List Int)(w:World)(hR:DecR w hA vA t zA ins out iA inn)(hst:∀ s ∈ inn,0≤s∧s < 8)(hs:t.sym≠3∨PermOK) :
  Calls Tryz.prog 42 #[tabV hA hc vA vc rA rc t,.agg #[.slice zA ins.length zc,.int .i64 out],.slice iA inn.length ic] w fun en w'=>en=.returned (.tuple #[.int .i64 (decideP t.sym t.hood (t.vs.map Vh.zs) ins out inn).1,.bool (decideP t.sym t.hood (t.vs.map Vh.zs) ins out inn).2])∧Below w.heap.size w w':=by
 obtain⟨w0,hw0⟩:∃ w0,w0=(w.alloc (.cells #[.int .i64 t.st,.int .i64 t.sym,.slice hA t.hood.length hc,.slice vA t.vs.length vc,.slice rA t.rs.length rc] 26)).alloc (.cells #[.slice zA ins.length zc,.int .i64 out] 48):=⟨_,rfl⟩
 have hb0:Below w.heap.size w w0:=by rw[hw0];exact (below_new _ _).alloc (by simp) _
 have p0:Blk w0 w.heap.size 26 #[.int .i64 t.st,.int .i64 t.sym,.slice hA t.hood.length hc,.slice vA t.vs.length vc,.slice rA t.rs.length rc]:=by rw[hw0];exact (Blk.new w _ _).alloc _
 have q0:Blk w0 (w.heap.size+1) 48 #[.slice zA ins.length zc,.int .i64 out]:=by rw[hw0];have:=Blk.new (w.alloc (.cells #[.int .i64 t.st,.int .i64 t.sym,.slice hA t.hood.length hc,.slice vA t.vs.length vc,.slice rA t.rs.length rc] 26)) 48 #[.slice zA ins.length zc,.int .i64 out];simpa using this
 have HPERM:Hid (t.sym=3→∀ W,Below w0.heap.size w0 W→Calls Tryz.prog 75 #[tabV hA hc vA vc rA rc t,.agg #[.slice zA ins.length zc,.int .i64 out],.slice iA inn.length ic] W fun en w'=>en=.returned (.tuple #[.int .i64 (permutedP t.hood (t.vs.map Vh.zs) ins out inn).1,.bool (permutedP t.hood (t.vs.map Vh.zs) ins out inn).2])∧Below W.heap.size W w'):=hid (fun h3 W hW=>by
  rcases hs with h | h
  ·exact absurd h3 h
  ·exact h hA hc vA vc rA rc t zA zc ins out iA ic inn W ((hR.ext hb0).ext hW) hst)
 have HTURN:Hid (t.sym≠3→∀ k:Nat,k < nSym t.sym→∀ W,Below w0.heap.size w0 W→Calls Tryz.prog 77 #[tabV hA hc vA vc rA rc t,.int .i64 (k:Int),.slice iA inn.length ic] W fun e w'=>∃ A c,e=.returned (.slice A inn.length c)∧Ints w' A (turnedP t.hood (k:Int) inn)∧Below W.heap.size W w'):=hid (fun h3 k hk W hW=>
  turned_any hA hc vA vc rA rc t (k:Int) iA ic inn W (((hR.ext hb0).ext hW).pts) (((hR.ext hb0).ext hW).ri) hR.li (hoodB_len hR.hood).2 (hoodB_rng hR.hood) (syms_in hR.hood hR.perm h3 hk) (((hR.ext hb0).ext hW).gm))
 have HPLAIN:Hid (∀ (W:World) (k:Int) (A9:Option Addr) (c9:Nat),Below w0.heap.size w0 W→Ints W A9 (turnedP t.hood k inn)→Calls Tryz.prog 76 #[tabV hA hc vA vc rA rc t,.agg #[.slice zA ins.length zc,.int .i64 out],.slice A9 inn.length c9] W fun en w'=>en=.returned (.tuple #[.int .i64 (plainP (t.vs.map Vh.zs) ins out (turnedP t.hood k inn)).1,.bool (plainP (t.vs.map Vh.zs) ins out (turnedP t.hood k inn)).2])∧Below W.heap.size W w'):=hid (fun W k A9 c9 hW hi9=>by
  have hlen:(turnedP t.hood k inn).length=inn.length:=by unfold turnedP;rw[List.length_map,hR.li]
  have:=plain_any hA hc vA vc rA rc t zA zc ins out A9 c9 (turnedP t.hood k inn) W ((hR.ext hb0).ext hW).vrs hR.v40 ((hR.ext hb0).ext hW).rz hi9 (by rw[hlen,hR.li,hR.lz];exact Nat.le_refl _) (by have:=(hoodB_len hR.hood).2;have:=hR.lz;omega) hR.ez hR.eo;rw[hlen] at this;exact this)
 have HB0:=hid hb0;have HP:=hid p0;have HQ:=hid q0;have HW0:=hid hw0;obtain⟨st,sym,hood,vs,rs⟩:=t;unfold tabV at HPERM HTURN HPLAIN ⊢;dsimp only at HPERM HTURN HPLAIN HP HQ HW0 ⊢;obtain⟨vars,hvars⟩:∃ v,v=vs.map Vh.zs:=⟨_,rfl⟩
 rw[← hvars] at HPERM HPLAIN ⊢;have c1:=HP.out.cell_ 1 (.int .i64 sym) rfl;clear hb0 p0 q0 hw0 hR hs hvars hst;by_cases h3:sym=3
 ·have hE:decideP sym hood vars ins out inn=permutedP hood vars ins out inn:=if_pos h3;rw[hE];have hcall:=HPERM.out h3 w0 (Below.refl _ _);obtain⟨pr,hpr⟩:∃ r,r=permutedP hood vars ins out inn:=⟨_,rfl⟩
  rw[← hpr] at hcall ⊢;obtain⟨p1,p2⟩:=pr;dsimp only at hcall ⊢;have HCALL:=hid hcall;subst h3;have c0:=HP.out.cell_ 0 (.int .i64 st) rfl;have c2:=HP.out.cell_ 2 (.slice hA hood.length hc) rfl;have c3:=HP.out.cell_ 3 (.slice vA vs.length vc) rfl;have c4:=HP.out.cell_ 4 (.slice rA rs.length rc) rfl;have r0:=HQ.out.cell_ 0 (.slice zA ins.length zc) rfl;have r1:=HQ.out.cell_ 1 (.int .i64 out) rfl;clear hE hpr hcall HPERM HTURN HPLAIN;go_enter Tryz.func42,Tryz.ntmps42;go_upto_region 1 with fail
  rw[← HW0.out];go_wp2_with (go_at_call 75;refine HCALL.out.mono ?_;rintro en w1 ⟨rfl,hb1⟩;refine Hid.out ?_);refine hid ?_;go_wp2;go_ret2;exact⟨rfl,HB0.out.trans (hb1.mono HB0.out.size)⟩
 ·have hE:decideP sym hood vars ins out inn=decTo hood vars ins out inn (nSym sym):=if_neg h3;obtain⟨ns,hns⟩:∃ n,n=nSym sym:=⟨_,rfl⟩
  rw[hE,← hns];have HTURN3:Hid (∀ k:Nat,k < ns→∀ W,Below w0.heap.size w0 W→Calls Tryz.prog 77 #[.agg #[.int .i64 st,.int .i64 sym,.slice hA hood.length hc,.slice vA vs.length vc,.slice rA rs.length rc],.int .i64 (k:Int),.slice iA inn.length ic] W fun e w'=>∃ A c,e=.returned (.slice A inn.length c)∧Ints w' A (turnedP hood (k:Int) inn)∧Below W.heap.size W w'):=hid (fun k hk=>HTURN.out h3 k (by rw[← hns];exact hk));have hns8:ns≤8:=by rw[hns];unfold nSym;split;decide;split <;> decide
  have HN8:=hid hns8;have d3:(sym == 3)=false:=beq_false_of_ne h3;have HREG:Hid ((sym=1∧ns=4)∨(sym≠1∧sym=2∧ns=8)∨(sym≠1∧sym≠2∧ns=1)):=hid (by
   rw[hns];unfold nSym;by_cases h1:sym=1
   ·exact .inl ⟨h1,if_pos h1⟩
   ·by_cases h2:sym=2
    ·exact .inr (.inl ⟨h1,h2,by rw[if_neg h1,if_pos h2]⟩)
    ·exact .inr (.inr ⟨h1,h2,by rw[if_neg h1,if_neg h2]⟩))
  clear hE hns HPERM HTURN hns8;have HLOOP:Hid (∀ (nv:Int),nv=(ns:Int)→True):=hid (fun _ _=>trivial);rcases HREG.out with ⟨h1,hn⟩ | ⟨h1,h2,hn⟩ | ⟨h1,h2,hn⟩
  ·subst h1 hn;clear h3;go_enter Tryz.func42,Tryz.ntmps42;go_upto_region 1 with fail
   rw[← HW0.out];go_wp2;clear c1 d3;go_loopw [6,7,27] (fun bv fv iv wr=>∃ (k:Nat) (b:Int × Bool),k≤4∧iv=.int .i64 k∧bv=.int .i64 b.1∧fv=.bool b.2∧Hid (decTo hood vars ins out inn k=b)∧Hid (Below w0.heap.size w0 wr)) (fun _ _ iv _=>4 - (intOf iv).toNat)
   case atStart=>exact⟨0,(0,false),Nat.zero_le _,rfl,rfl,rfl,hid rfl,hid (Below.refl _ _)⟩
   case round=>
    obtain⟨k,⟨bz,bf⟩,hk,rfl,rfl,rfl,HD,HBW⟩:=hrel;dsimp only;by_cases hkn:k < 4
    ·have dk:decide ((k:Int) < 4)=true:=decide_eq_true (by omega);have HK:=hid hkn;have hwk:wrap64 ((k:Int)+1)=(k:Int)+1:=by unfold wrap64;omega
     have HWK:=hid hwk;have HTU:=hid (fun W (hW:Below wr.heap.size wr W)=>HTURN3.out k hkn W (HBW.out.trans (hW.mono HBW.out.size)));obtain⟨tl,htl⟩:∃ l,l=turnedP hood (k:Int) inn:=⟨_,rfl⟩
     obtain⟨pr,hpr⟩:∃ r,r=plainP vars ins out tl:=⟨_,rfl⟩
     have HPL:Hid (∀ (W:World) (A9:Option Addr) (c9:Nat),Below wr.heap.size wr W→Ints W A9 tl→Calls Tryz.prog 76 #[.agg #[.int .i64 st,.int .i64 1,.slice hA hood.length hc,.slice vA vs.length vc,.slice rA rs.length rc],.agg #[.slice zA ins.length zc,.int .i64 out],.slice A9 inn.length c9] W fun en w'=>en=.returned (.tuple #[.int .i64 pr.1,.bool pr.2])∧Below W.heap.size W w'):=hid (fun W A9 c9 hW hi9=>by
      have:=HPLAIN.out W (k:Int) A9 c9 (HBW.out.trans (hW.mono HBW.out.size)) (by rw[← htl];exact hi9);rw[← htl,← hpr] at this;exact this)
     rw[← htl] at HTU;have HSTEP:Hid (decTo hood vars ins out inn (k+1)=if pr.2=true then better (bz,bf) pr.1 else (bz,bf)):=hid (by
      show (if (plainP vars ins out (turnedP hood (k:Int) inn)).2=true then _ else _)=_;rw[← htl,← hpr,HD.out])
     obtain⟨p1,p2⟩:=pr;dsimp only at HPL HSTEP;have HPB:=hid (HP.out.below HBW.out HP.out.lt);have HQB:=hid (HQ.out.below HBW.out HQ.out.lt);clear hk hwk htl hpr;go_upto_region 12 with fail
     refine wp_region_J (by kernel_rfl) (fun listed act w'=>∃ b0 b1 b2 b3 b4 b5 b6 b7 b8 b9 b10 b11 v31 v32 v33 v34 v35 v36 v37 v30 v38 v39 v10 v11,listed=#[b0,b1,b2,b3,b4,b5,b6,b7,b8,b9,b10,b11]∧act=Act.mk #[.agg #[.int .i64 st,.int .i64 1,.slice hA hood.length hc,.slice vA vs.length vc,.slice rA rs.length rc],.agg #[.slice zA ins.length zc,.int .i64 out],.slice iA inn.length ic,.pointer (some ⟨w.heap.size,0,none⟩),.pointer (some ⟨w.heap.size+1,0,none⟩),undef,.int .i64 bz,.bool bf,.int .i64 4,.int .i64 ↑k,v10,v11,.pointer (some ⟨w.heap.size,1,none⟩),.int .i64 1,.bool true,.bool true,undef,undef,undef,undef,undef,undef,undef,undef,undef,undef,.int .i64 4,.int .i64 ↑k,.bool true,.int .i64 ↑k,v30,v31,v32,v33,v34,v35,v36,v37,v38,v39,u40,u41,u42,u43,u44,u45,u46,u47,u48,u49,u50,u51,undef,undef] []∧De12J wr (.agg #[.int .i64 st,.int .i64 1,.slice hA hood.length hc,.slice vA vs.length vc,.slice rA rs.length rc]) (.agg #[.slice zA ins.length zc,.int .i64 out]) (k) (.slice iA inn.length ic) (inn.length) (tl) (p1) (p2) b0 b1 b2 b3 b4 b5 b6 b7 b8 b9 b10 b11 v31 v32 v33 v34 v35 v36 v37 v30 v38 v39 v10 v11 w') ?_ ?_ ?_
     ·exact (e_8 (e_8 (e_8 ⟨rfl,rfl,(by constructor;(case below=>exact ((Below.refl _ wr).drew));all_goals simp)⟩)))
     ·rintro i listed act w' hi ⟨b0,b1,b2,b3,b4,b5,b6,b7,b8,b9,b10,b11,v31,v32,v33,v34,v35,v36,v37,v30,v38,v39,v10,v11,rfl,rfl,H⟩;have hi16:i < 12:=by
       obtain⟨-,o,ho,-⟩:=mem_ready.1 hi;exact (Array.getElem?_eq_some_iff.1 ho).1
      obtain rfl | rfl | rfl | rfl | rfl | rfl | rfl | rfl | rfl | rfl | rfl | rfl:i=0∨i=1∨i=2∨i=3∨i=4∨i=5∨i=6∨i=7∨i=8∨i=9∨i=10∨i=11:=by omega
      all_goals simp[mem_ready,Region.binds] at hi
      ·have hB:=H.below;have hcc:=HPB.out.below hB HPB.out.lt;have cc0:=hcc.cell_ 0 (.int .i64 st) rfl;have cc1:=hcc.cell_ 1 (.int .i64 1) rfl;have cc2:=hcc.cell_ 2 (.slice hA hood.length hc) rfl;have cc3:=hcc.cell_ 3 (.slice vA vs.length vc) rfl;have cc4:=hcc.cell_ 4 (.slice rA rs.length rc) rfl;clear hcc;clear hB;refine wpOp_hidden rfl fun K hK=>?_;go_wp2;refine OnlyN.mk (hK.out _ _ (e_8 (e_8 (e_8 ⟨rfl,rfl,{ H with h0:=fun _=>rfl }⟩))))
      ·have hB:=H.below;have hcc:=HQB.out.below hB HQB.out.lt;have cc0:=hcc.cell_ 0 (.slice zA ins.length zc) rfl;have cc1:=hcc.cell_ 1 (.int .i64 out) rfl;clear hcc;clear hB;refine wpOp_hidden rfl fun K hK=>?_;go_wp2;refine OnlyN.mk (hK.out _ _ (e_8 (e_8 (e_8 ⟨rfl,rfl,{ H with h1:=fun _=>rfl }⟩))))
      ·have hB:=H.below;have hcc:=HPB.out.below hB HPB.out.lt;have cc0:=hcc.cell_ 0 (.int .i64 st) rfl;have cc1:=hcc.cell_ 1 (.int .i64 1) rfl;have cc2:=hcc.cell_ 2 (.slice hA hood.length hc) rfl;have cc3:=hcc.cell_ 3 (.slice vA vs.length vc) rfl;have cc4:=hcc.cell_ 4 (.slice rA rs.length rc) rfl;clear hcc;clear hB;refine wpOp_hidden rfl fun K hK=>?_;go_wp2;refine OnlyN.mk (hK.out _ _ (e_8 (e_8 (e_8 ⟨rfl,rfl,{ H with h2:=fun _=>rfl }⟩))))
      ·refine wpOp_hidden rfl fun K hK=>?_;go_wp2;refine OnlyN.mk (hK.out _ _ (e_8 (e_8 (e_8 ⟨rfl,rfl,{ H with h3:=fun _=>rfl }⟩))))
      ·refine wpOp_hidden rfl fun K hK=>?_;go_wp2;refine OnlyN.mk (hK.out _ _ (e_8 (e_8 (e_8 ⟨rfl,rfl,{ H with h4:=fun _=>rfl }⟩))))
      ·obtain rfl:=H.h2 (by simp[hi]);obtain rfl:=H.h3 (by simp[hi]);obtain rfl:=H.h4 (by simp[hi]);have hB:=H.below;have HC5:=hid (HTU.out w' hB);have HBW:=hid hB;clear hB;refine wpOp_hidden rfl fun K hK=>?_;go_wp2_with (go_at_call 77;refine HC5.out.mono ?_;rintro e w9 ⟨A9,c9,rfl,hi9,hb9⟩;refine Hid.out ?_);refine hid ?_;have HI9:=hid hi9;clear HC5 hi9;have HB9:=hid hb9;have HBN:=hid (HBW.out.trans (hb9.mono HBW.out.size));clear hb9;go_wp2;refine OnlyN.mk (hK.out _ _ (e_8 (e_8 (e_8 ⟨rfl,rfl,{ H with below:=HBN.out,x5:=fun _=>⟨A9,c9,rfl,HI9.out⟩ }⟩))))
      ·obtain rfl:=H.h0 (by simp[hi]);obtain rfl:=H.h1 (by simp[hi]);have hB:=H.below;obtain⟨A5,c5,e5,hi5⟩:=H.x5 (by simp[hi]);subst e5;have HC5:=hid (HPL.out w' A5 c5 hB hi5);have HX5:=hid hi5;clear hi5;have HBW:=hid hB;clear hB;refine wpOp_hidden rfl fun K hK=>?_;go_wp2_with (go_at_call 76;refine HC5.out.mono ?_;rintro e w9 ⟨rfl,hb9⟩;refine Hid.out ?_);refine hid ?_;clear HC5;have HB9:=hid hb9;have HBN:=hid (HBW.out.trans (hb9.mono HBW.out.size));clear hb9;go_wp2;refine OnlyN.mk (hK.out _ _ (e_8 (e_8 (e_8 ⟨rfl,rfl,{ H with h6:=fun _=>rfl,below:=HBN.out,x5:=fun h=>(H.x5 h).imp fun A9 h=>h.imp fun c9 h=>⟨h.1,h.2.ext HB9.out⟩ }⟩))))
      ·obtain rfl:=H.h6 (by simp[hi]);refine wpOp_hidden rfl fun K hK=>?_;go_wp2;refine OnlyN.mk (hK.out _ _ (e_8 (e_8 (e_8 ⟨rfl,rfl,{ H with h7:=fun _=>rfl }⟩))))
      ·obtain rfl:=H.h7 (by simp[hi]);refine wpOp_hidden rfl fun K hK=>?_;go_wp2;refine OnlyN.mk (hK.out _ _ (e_8 (e_8 (e_8 ⟨rfl,rfl,{ H with h8:=fun _=>rfl }⟩))))
      ·obtain rfl:=H.h7 (by simp[hi]);refine wpOp_hidden rfl fun K hK=>?_;go_wp2;refine OnlyN.mk (hK.out _ _ (e_8 (e_8 (e_8 ⟨rfl,rfl,{ H with h9:=fun _=>rfl }⟩))))
      ·obtain rfl:=H.h8 (by simp[hi]);refine wpOp_hidden rfl fun K hK=>?_;go_wp2;refine OnlyN.mk (hK.out _ _ (e_8 (e_8 (e_8 ⟨rfl,rfl,{ H with h10:=fun _=>rfl }⟩))))
      ·obtain rfl:=H.h9 (by simp[hi]);refine wpOp_hidden rfl fun K hK=>?_;go_wp2;refine OnlyN.mk (hK.out _ _ (e_8 (e_8 (e_8 ⟨rfl,rfl,{ H with h11:=fun _=>rfl }⟩))))
     ·rintro listed act w' hr ⟨b0,b1,b2,b3,b4,b5,b6,b7,b8,b9,b10,b11,v31,v32,v33,v34,v35,v36,v37,v30,v38,v39,v10,v11,rfl,rfl,H⟩;have hn:=List.eq_nil_iff_forall_not_mem.1 hr;have r0:=hn 0;simp[mem_ready,Region.binds] at r0;subst r0;have r1:=hn 1;simp[mem_ready,Region.binds] at r1;subst r1;have r2:=hn 2;simp[mem_ready,Region.binds] at r2;subst r2;have r3:=hn 3;simp[mem_ready,Region.binds] at r3;subst r3;have r4:=hn 4;simp[mem_ready,Region.binds] at r4;subst r4;have r5:=hn 5;simp[mem_ready,Region.binds] at r5;subst r5;have r6:=hn 6;simp[mem_ready,Region.binds] at r6;subst r6;have r7:=hn 7;simp[mem_ready,Region.binds] at r7;subst r7;have r8:=hn 8;simp[mem_ready,Region.binds] at r8;subst r8;have r9:=hn 9;simp[mem_ready,Region.binds] at r9;subst r9;have r10:=hn 10;simp[mem_ready,Region.binds] at r10;subst r10;have r11:=hn 11;simp[mem_ready,Region.binds] at r11;subst r11;try dsimp only
      obtain⟨A5,c5,e5,-⟩:=H.x5 rfl;obtain rfl:=H.h10 rfl;obtain rfl:=H.h11 rfl;have HB6:=hid (HBW.out.trans (H.below.mono HBW.out.size));obtain⟨w6,rfl⟩:∃ w6:World,w6=w':=⟨_,rfl⟩
      clear H hr hn e5;cases p2 with
      | false=>
       have HST:Hid (decTo hood vars ins out inn (k+1)=(bz,bf)):=hid (by rw[HSTEP.out];rfl);go_wp2;go_roundw
       case rel=>exact⟨k+1,(bz,bf),HK.out,(by first | rfl | (rw[HWK.out];rfl)),rfl,rfl,HST,HB6⟩
       case measure=>(try rw[HWK.out]);exact meas_step HK.out
      | true=>
       cases bf with
       | false=>
        have HST:Hid (decTo hood vars ins out inn (k+1)=(p1,true)):=hid (by rw[HSTEP.out];rfl);go_wp2;go_roundw
        case rel=>exact⟨k+1,(p1,true),HK.out,(by first | rfl | (rw[HWK.out];rfl)),rfl,rfl,HST,HB6⟩
        case measure=>(try rw[HWK.out]);exact meas_step HK.out
       | true=>
        by_cases hlt:p1 < bz
        ·have dl:decide (p1 < bz)=true:=decide_eq_true hlt;have HST:Hid (decTo hood vars ins out inn (k+1)=(p1,true)):=hid (by rw[HSTEP.out,if_pos rfl];unfold better;rw[if_pos (Or.inr hlt)]);clear hlt;go_wp2;go_roundw
         case rel=>exact⟨k+1,(p1,true),HK.out,(by first | rfl | (rw[HWK.out];rfl)),rfl,rfl,HST,HB6⟩
         case measure=>(try rw[HWK.out]);exact meas_step HK.out
        ·have dl:decide (p1 < bz)=false:=decide_eq_false hlt;have HST:Hid (decTo hood vars ins out inn (k+1)=(bz,true)):=hid (by rw[HSTEP.out,if_pos rfl];unfold better;rw[if_neg (by rintro (h | h);cases h;exact hlt h)]);clear hlt;go_wp2;go_roundw
         case rel=>exact⟨k+1,(bz,true),HK.out,(by first | rfl | (rw[HWK.out];rfl)),rfl,rfl,HST,HB6⟩
         case measure=>(try rw[HWK.out]);exact meas_step HK.out
    ·obtain rfl:k=4:=Nat.le_antisymm hk (Nat.le_of_not_lt hkn);have dk:decide (((4:Nat):Int) < 4)=false:=by decide
     clear hk hkn;go_wp2;go_ret2;exact⟨by rw[HD.out] <;> rfl,HB0.out.trans (HBW.out.mono HB0.out.size)⟩
  ·subst h2 hn;clear h3 h1;go_enter Tryz.func42,Tryz.ntmps42;go_upto_region 1 with fail
   rw[← HW0.out];go_wp2;clear c1 d3;go_loopw [6,7,27] (fun bv fv iv wr=>∃ (k:Nat) (b:Int × Bool),k≤8∧iv=.int .i64 k∧bv=.int .i64 b.1∧fv=.bool b.2∧Hid (decTo hood vars ins out inn k=b)∧Hid (Below w0.heap.size w0 wr)) (fun _ _ iv _=>8 - (intOf iv).toNat)
   case atStart=>exact⟨0,(0,false),Nat.zero_le _,rfl,rfl,rfl,hid rfl,hid (Below.refl _ _)⟩
   case round=>
    obtain⟨k,⟨bz,bf⟩,hk,rfl,rfl,rfl,HD,HBW⟩:=hrel;dsimp only;by_cases hkn:k < 8
    ·have dk:decide ((k:Int) < 8)=true:=decide_eq_true (by omega);have HK:=hid hkn;have hwk:wrap64 ((k:Int)+1)=(k:Int)+1:=by unfold wrap64;omega
     have HWK:=hid hwk;have HTU:=hid (fun W (hW:Below wr.heap.size wr W)=>HTURN3.out k hkn W (HBW.out.trans (hW.mono HBW.out.size)));obtain⟨tl,htl⟩:∃ l,l=turnedP hood (k:Int) inn:=⟨_,rfl⟩
     obtain⟨pr,hpr⟩:∃ r,r=plainP vars ins out tl:=⟨_,rfl⟩
     have HPL:Hid (∀ (W:World) (A9:Option Addr) (c9:Nat),Below wr.heap.size wr W→Ints W A9 tl→Calls Tryz.prog 76 #[.agg #[.int .i64 st,.int .i64 2,.slice hA hood.length hc,.slice vA vs.length vc,.slice rA rs.length rc],.agg #[.slice zA ins.length zc,.int .i64 out],.slice A9 inn.length c9] W fun en w'=>en=.returned (.tuple #[.int .i64 pr.1,.bool pr.2])∧Below W.heap.size W w'):=hid (fun W A9 c9 hW hi9=>by
      have:=HPLAIN.out W (k:Int) A9 c9 (HBW.out.trans (hW.mono HBW.out.size)) (by rw[← htl];exact hi9);rw[← htl,← hpr] at this;exact this)
     rw[← htl] at HTU;have HSTEP:Hid (decTo hood vars ins out inn (k+1)=if pr.2=true then better (bz,bf) pr.1 else (bz,bf)):=hid (by
      show (if (plainP vars ins out (turnedP hood (k:Int) inn)).2=true then _ else _)=_;rw[← htl,← hpr,HD.out])
     obtain⟨p1,p2⟩:=pr;dsimp only at HPL HSTEP;have HPB:=hid (HP.out.below HBW.out HP.out.lt);have HQB:=hid (HQ.out.below HBW.out HQ.out.lt);clear hk hwk htl hpr;go_upto_region 12 with fail
     refine wp_region_J (by kernel_rfl) (fun listed act w'=>∃ b0 b1 b2 b3 b4 b5 b6 b7 b8 b9 b10 b11 v31 v32 v33 v34 v35 v36 v37 v30 v38 v39 v10 v11,listed=#[b0,b1,b2,b3,b4,b5,b6,b7,b8,b9,b10,b11]∧act=Act.mk #[.agg #[.int .i64 st,.int .i64 2,.slice hA hood.length hc,.slice vA vs.length vc,.slice rA rs.length rc],.agg #[.slice zA ins.length zc,.int .i64 out],.slice iA inn.length ic,.pointer (some ⟨w.heap.size,0,none⟩),.pointer (some ⟨w.heap.size+1,0,none⟩),undef,.int .i64 bz,.bool bf,.int .i64 8,.int .i64 ↑k,v10,v11,.pointer (some ⟨w.heap.size,1,none⟩),.int .i64 2,.bool false,.bool false,.bool true,.bool true,undef,undef,undef,undef,undef,undef,undef,undef,.int .i64 8,.int .i64 ↑k,.bool true,.int .i64 ↑k,v30,v31,v32,v33,v34,v35,v36,v37,v38,v39,u40,u41,u42,u43,u44,u45,u46,u47,u48,u49,u50,u51,undef,undef] []∧De12J wr (.agg #[.int .i64 st,.int .i64 2,.slice hA hood.length hc,.slice vA vs.length vc,.slice rA rs.length rc]) (.agg #[.slice zA ins.length zc,.int .i64 out]) (k) (.slice iA inn.length ic) (inn.length) (tl) (p1) (p2) b0 b1 b2 b3 b4 b5 b6 b7 b8 b9 b10 b11 v31 v32 v33 v34 v35 v36 v37 v30 v38 v39 v10 v11 w') ?_ ?_ ?_
     ·exact (e_8 (e_8 (e_8 ⟨rfl,rfl,(by constructor;(case below=>exact ((Below.refl _ wr).drew));all_goals simp)⟩)))
     ·rintro i listed act w' hi ⟨b0,b1,b2,b3,b4,b5,b6,b7,b8,b9,b10,b11,v31,v32,v33,v34,v35,v36,v37,v30,v38,v39,v10,v11,rfl,rfl,H⟩;have hi16:i < 12:=by
       obtain⟨-,o,ho,-⟩:=mem_ready.1 hi;exact (Array.getElem?_eq_some_iff.1 ho).1
      obtain rfl | rfl | rfl | rfl | rfl | rfl | rfl | rfl | rfl | rfl | rfl | rfl:i=0∨i=1∨i=2∨i=3∨i=4∨i=5∨i=6∨i=7∨i=8∨i=9∨i=10∨i=11:=by omega
      all_goals simp[mem_ready,Region.binds] at hi
      ·have hB:=H.below;have hcc:=HPB.out.below hB HPB.out.lt;have cc0:=hcc.cell_ 0 (.int .i64 st) rfl;have cc1:=hcc.cell_ 1 (.int .i64 2) rfl;have cc2:=hcc.cell_ 2 (.slice hA hood.length hc) rfl;have cc3:=hcc.cell_ 3 (.slice vA vs.length vc) rfl;have cc4:=hcc.cell_ 4 (.slice rA rs.length rc) rfl;clear hcc;clear hB;refine wpOp_hidden rfl fun K hK=>?_;go_wp2;refine OnlyN.mk (hK.out _ _ (e_8 (e_8 (e_8 ⟨rfl,rfl,{ H with h0:=fun _=>rfl }⟩))))
      ·have hB:=H.below;have hcc:=HQB.out.below hB HQB.out.lt;have cc0:=hcc.cell_ 0 (.slice zA ins.length zc) rfl;have cc1:=hcc.cell_ 1 (.int .i64 out) rfl;clear hcc;clear hB;refine wpOp_hidden rfl fun K hK=>?_;go_wp2;refine OnlyN.mk (hK.out _ _ (e_8 (e_8 (e_8 ⟨rfl,rfl,{ H with h1:=fun _=>rfl }⟩))))
      ·have hB:=H.below;have hcc:=HPB.out.below hB HPB.out.lt;have cc0:=hcc.cell_ 0 (.int .i64 st) rfl;have cc1:=hcc.cell_ 1 (.int .i64 2) rfl;have cc2:=hcc.cell_ 2 (.slice hA hood.length hc) rfl;have cc3:=hcc.cell_ 3 (.slice vA vs.length vc) rfl;have cc4:=hcc.cell_ 4 (.slice rA rs.length rc) rfl;clear hcc;clear hB;refine wpOp_hidden rfl fun K hK=>?_;go_wp2;refine OnlyN.mk (hK.out _ _ (e_8 (e_8 (e_8 ⟨rfl,rfl,{ H with h2:=fun _=>rfl }⟩))))
      ·refine wpOp_hidden rfl fun K hK=>?_;go_wp2;refine OnlyN.mk (hK.out _ _ (e_8 (e_8 (e_8 ⟨rfl,rfl,{ H with h3:=fun _=>rfl }⟩))))
      ·refine wpOp_hidden rfl fun K hK=>?_;go_wp2;refine OnlyN.mk (hK.out _ _ (e_8 (e_8 (e_8 ⟨rfl,rfl,{ H with h4:=fun _=>rfl }⟩))))
      ·obtain rfl:=H.h2 (by simp[hi]);obtain rfl:=H.h3 (by simp[hi]);obtain rfl:=H.h4 (by simp[hi]);have hB:=H.below;have HC5:=hid (HTU.out w' hB);have HBW:=hid hB;clear hB;refine wpOp_hidden rfl fun K hK=>?_;go_wp2_with (go_at_call 77;refine HC5.out.mono ?_;rintro e w9 ⟨A9,c9,rfl,hi9,hb9⟩;refine Hid.out ?_);refine hid ?_;have HI9:=hid hi9;clear HC5 hi9;have HB9:=hid hb9;have HBN:=hid (HBW.out.trans (hb9.mono HBW.out.size));clear hb9;go_wp2;refine OnlyN.mk (hK.out _ _ (e_8 (e_8 (e_8 ⟨rfl,rfl,{ H with below:=HBN.out,x5:=fun _=>⟨A9,c9,rfl,HI9.out⟩ }⟩))))
      ·obtain rfl:=H.h0 (by simp[hi]);obtain rfl:=H.h1 (by simp[hi]);have hB:=H.below;obtain⟨A5,c5,e5,hi5⟩:=H.x5 (by simp[hi]);subst e5;have HC5:=hid (HPL.out w' A5 c5 hB hi5);have HX5:=hid hi5;clear hi5;have HBW:=hid hB;clear hB;refine wpOp_hidden rfl fun K hK=>?_;go_wp2_with (go_at_call 76;refine HC5.out.mono ?_;rintro e w9 ⟨rfl,hb9⟩;refine Hid.out ?_);refine hid ?_;clear HC5;have HB9:=hid hb9;have HBN:=hid (HBW.out.trans (hb9.mono HBW.out.size));clear hb9;go_wp2;refine OnlyN.mk (hK.out _ _ (e_8 (e_8 (e_8 ⟨rfl,rfl,{ H with h6:=fun _=>rfl,below:=HBN.out,x5:=fun h=>(H.x5 h).imp fun A9 h=>h.imp fun c9 h=>⟨h.1,h.2.ext HB9.out⟩ }⟩))))
      ·obtain rfl:=H.h6 (by simp[hi]);refine wpOp_hidden rfl fun K hK=>?_;go_wp2;refine OnlyN.mk (hK.out _ _ (e_8 (e_8 (e_8 ⟨rfl,rfl,{ H with h7:=fun _=>rfl }⟩))))
      ·obtain rfl:=H.h7 (by simp[hi]);refine wpOp_hidden rfl fun K hK=>?_;go_wp2;refine OnlyN.mk (hK.out _ _ (e_8 (e_8 (e_8 ⟨rfl,rfl,{ H with h8:=fun _=>rfl }⟩))))
      ·obtain rfl:=H.h7 (by simp[hi]);refine wpOp_hidden rfl fun K hK=>?_;go_wp2;refine OnlyN.mk (hK.out _ _ (e_8 (e_8 (e_8 ⟨rfl,rfl,{ H with h9:=fun _=>rfl }⟩))))
      ·obtain rfl:=H.h8 (by simp[hi]);refine wpOp_hidden rfl fun K hK=>?_;go_wp2;refine OnlyN.mk (hK.out _ _ (e_8 (e_8 (e_8 ⟨rfl,rfl,{ H with h10:=fun _=>rfl }⟩))))
      ·obtain rfl:=H.h9 (by simp[hi]);refine wpOp_hidden rfl fun K hK=>?_;go_wp2;refine OnlyN.mk (hK.out _ _ (e_8 (e_8 (e_8 ⟨rfl,rfl,{ H with h11:=fun _=>rfl }⟩))))
     ·rintro listed act w' hr ⟨b0,b1,b2,b3,b4,b5,b6,b7,b8,b9,b10,b11,v31,v32,v33,v34,v35,v36,v37,v30,v38,v39,v10,v11,rfl,rfl,H⟩;have hn:=List.eq_nil_iff_forall_not_mem.1 hr;have r0:=hn 0;simp[mem_ready,Region.binds] at r0;subst r0;have r1:=hn 1;simp[mem_ready,Region.binds] at r1;subst r1;have r2:=hn 2;simp[mem_ready,Region.binds] at r2;subst r2;have r3:=hn 3;simp[mem_ready,Region.binds] at r3;subst r3;have r4:=hn 4;simp[mem_ready,Region.binds] at r4;subst r4;have r5:=hn 5;simp[mem_ready,Region.binds] at r5;subst r5;have r6:=hn 6;simp[mem_ready,Region.binds] at r6;subst r6;have r7:=hn 7;simp[mem_ready,Region.binds] at r7;subst r7;have r8:=hn 8;simp[mem_ready,Region.binds] at r8;subst r8;have r9:=hn 9;simp[mem_ready,Region.binds] at r9;subst r9;have r10:=hn 10;simp[mem_ready,Region.binds] at r10;subst r10;have r11:=hn 11;simp[mem_ready,Region.binds] at r11;subst r11;try dsimp only
      obtain⟨A5,c5,e5,-⟩:=H.x5 rfl;obtain rfl:=H.h10 rfl;obtain rfl:=H.h11 rfl;have HB6:=hid (HBW.out.trans (H.below.mono HBW.out.size));obtain⟨w6,rfl⟩:∃ w6:World,w6=w':=⟨_,rfl⟩
      clear H hr hn e5;cases p2 with
      | false=>
       have HST:Hid (decTo hood vars ins out inn (k+1)=(bz,bf)):=hid (by rw[HSTEP.out];rfl);go_wp2;go_roundw
       case rel=>exact⟨k+1,(bz,bf),HK.out,(by first | rfl | (rw[HWK.out];rfl)),rfl,rfl,HST,HB6⟩
       case measure=>(try rw[HWK.out]);exact meas_step HK.out
      | true=>
       cases bf with
       | false=>
        have HST:Hid (decTo hood vars ins out inn (k+1)=(p1,true)):=hid (by rw[HSTEP.out];rfl);go_wp2;go_roundw
        case rel=>exact⟨k+1,(p1,true),HK.out,(by first | rfl | (rw[HWK.out];rfl)),rfl,rfl,HST,HB6⟩
        case measure=>(try rw[HWK.out]);exact meas_step HK.out
       | true=>
        by_cases hlt:p1 < bz
        ·have dl:decide (p1 < bz)=true:=decide_eq_true hlt;have HST:Hid (decTo hood vars ins out inn (k+1)=(p1,true)):=hid (by rw[HSTEP.out,if_pos rfl];unfold better;rw[if_pos (Or.inr hlt)]);clear hlt;go_wp2;go_roundw
         case rel=>exact⟨k+1,(p1,true),HK.out,(by first | rfl | (rw[HWK.out];rfl)),rfl,rfl,HST,HB6⟩
         case measure=>(try rw[HWK.out]);exact meas_step HK.out
        ·have dl:decide (p1 < bz)=false:=decide_eq_false hlt;have HST:Hid (decTo hood vars ins out inn (k+1)=(bz,true)):=hid (by rw[HSTEP.out,if_pos rfl];unfold better;rw[if_neg (by rintro (h | h);cases h;exact hlt h)]);clear hlt;go_wp2;go_roundw
         case rel=>exact⟨k+1,(bz,true),HK.out,(by first | rfl | (rw[HWK.out];rfl)),rfl,rfl,HST,HB6⟩
         case measure=>(try rw[HWK.out]);exact meas_step HK.out
    ·obtain rfl:k=8:=Nat.le_antisymm hk (Nat.le_of_not_lt hkn);have dk:decide (((8:Nat):Int) < 8)=false:=by decide
     clear hk hkn;go_wp2;go_ret2;exact⟨by rw[HD.out] <;> rfl,HB0.out.trans (HBW.out.mono HB0.out.size)⟩
  ·have d1:(sym == 1)=false:=beq_false_of_ne h1;have d2:(sym == 2)=false:=beq_false_of_ne h2;subst hn;clear h3 h1 h2;go_enter Tryz.func42,Tryz.ntmps42;go_upto_region 1 with fail
   rw[← HW0.out];go_wp2;clear c1 d3 d1 d2;go_loopw [6,7,27] (fun bv fv iv wr=>∃ (k:Nat) (b:Int × Bool),k≤1∧iv=.int .i64 k∧bv=.int .i64 b.1∧fv=.bool b.2∧Hid (decTo hood vars ins out inn k=b)∧Hid (Below w0.heap.size w0 wr)) (fun _ _ iv _=>1 - (intOf iv).toNat)
   case atStart=>exact⟨0,(0,false),Nat.zero_le _,rfl,rfl,rfl,hid rfl,hid (Below.refl _ _)⟩
   case round=>
    obtain⟨k,⟨bz,bf⟩,hk,rfl,rfl,rfl,HD,HBW⟩:=hrel;dsimp only;by_cases hkn:k < 1
    ·have dk:decide ((k:Int) < 1)=true:=decide_eq_true (by omega);have HK:=hid hkn;have hwk:wrap64 ((k:Int)+1)=(k:Int)+1:=by unfold wrap64;omega
     have HWK:=hid hwk;have HTU:=hid (fun W (hW:Below wr.heap.size wr W)=>HTURN3.out k hkn W (HBW.out.trans (hW.mono HBW.out.size)));obtain⟨tl,htl⟩:∃ l,l=turnedP hood (k:Int) inn:=⟨_,rfl⟩
     obtain⟨pr,hpr⟩:∃ r,r=plainP vars ins out tl:=⟨_,rfl⟩
     have HPL:Hid (∀ (W:World) (A9:Option Addr) (c9:Nat),Below wr.heap.size wr W→Ints W A9 tl→Calls Tryz.prog 76 #[.agg #[.int .i64 st,.int .i64 sym,.slice hA hood.length hc,.slice vA vs.length vc,.slice rA rs.length rc],.agg #[.slice zA ins.length zc,.int .i64 out],.slice A9 inn.length c9] W fun en w'=>en=.returned (.tuple #[.int .i64 pr.1,.bool pr.2])∧Below W.heap.size W w'):=hid (fun W A9 c9 hW hi9=>by
      have:=HPLAIN.out W (k:Int) A9 c9 (HBW.out.trans (hW.mono HBW.out.size)) (by rw[← htl];exact hi9);rw[← htl,← hpr] at this;exact this)
     rw[← htl] at HTU;have HSTEP:Hid (decTo hood vars ins out inn (k+1)=if pr.2=true then better (bz,bf) pr.1 else (bz,bf)):=hid (by
      show (if (plainP vars ins out (turnedP hood (k:Int) inn)).2=true then _ else _)=_;rw[← htl,← hpr,HD.out])
     obtain⟨p1,p2⟩:=pr;dsimp only at HPL HSTEP;have HPB:=hid (HP.out.below HBW.out HP.out.lt);have HQB:=hid (HQ.out.below HBW.out HQ.out.lt);clear hk hwk htl hpr;go_upto_region 12 with fail
     refine wp_region_J (by kernel_rfl) (fun listed act w'=>∃ b0 b1 b2 b3 b4 b5 b6 b7 b8 b9 b10 b11 v31 v32 v33 v34 v35 v36 v37 v30 v38 v39 v10 v11,listed=#[b0,b1,b2,b3,b4,b5,b6,b7,b8,b9,b10,b11]∧act=Act.mk #[.agg #[.int .i64 st,.int .i64 sym,.slice hA hood.length hc,.slice vA vs.length vc,.slice rA rs.length rc],.agg #[.slice zA ins.length zc,.int .i64 out],.slice iA inn.length ic,.pointer (some ⟨w.heap.size,0,none⟩),.pointer (some ⟨w.heap.size+1,0,none⟩),undef,.int .i64 bz,.bool bf,.int .i64 1,.int .i64 ↑k,v10,v11,.pointer (some ⟨w.heap.size,1,none⟩),.int .i64 sym,.bool false,.bool false,.bool false,.bool false,.bool false,.bool false,undef,undef,undef,undef,undef,undef,.int .i64 1,.int .i64 ↑k,.bool true,.int .i64 ↑k,v30,v31,v32,v33,v34,v35,v36,v37,v38,v39,u40,u41,u42,u43,u44,u45,u46,u47,u48,u49,u50,u51,undef,undef] []∧De12J wr (.agg #[.int .i64 st,.int .i64 sym,.slice hA hood.length hc,.slice vA vs.length vc,.slice rA rs.length rc]) (.agg #[.slice zA ins.length zc,.int .i64 out]) (k) (.slice iA inn.length ic) (inn.length) (tl) (p1) (p2) b0 b1 b2 b3 b4 b5 b6 b7 b8 b9 b10 b11 v31 v32 v33 v34 v35 v36 v37 v30 v38 v39 v10 v11 w') ?_ ?_ ?_
     ·exact (e_8 (e_8 (e_8 ⟨rfl,rfl,(by constructor;(case below=>exact ((Below.refl _ wr).drew));all_goals simp)⟩)))
     ·rintro i listed act w' hi ⟨b0,b1,b2,b3,b4,b5,b6,b7,b8,b9,b10,b11,v31,v32,v33,v34,v35,v36,v37,v30,v38,v39,v10,v11,rfl,rfl,H⟩;have hi16:i < 12:=by
       obtain⟨-,o,ho,-⟩:=mem_ready.1 hi;exact (Array.getElem?_eq_some_iff.1 ho).1
      obtain rfl | rfl | rfl | rfl | rfl | rfl | rfl | rfl | rfl | rfl | rfl | rfl:i=0∨i=1∨i=2∨i=3∨i=4∨i=5∨i=6∨i=7∨i=8∨i=9∨i=10∨i=11:=by omega
      all_goals simp[mem_ready,Region.binds] at hi
      ·have hB:=H.below;have hcc:=HPB.out.below hB HPB.out.lt;have cc0:=hcc.cell_ 0 (.int .i64 st) rfl;have cc1:=hcc.cell_ 1 (.int .i64 sym) rfl;have cc2:=hcc.cell_ 2 (.slice hA hood.length hc) rfl;have cc3:=hcc.cell_ 3 (.slice vA vs.length vc) rfl;have cc4:=hcc.cell_ 4 (.slice rA rs.length rc) rfl;clear hcc;clear hB;refine wpOp_hidden rfl fun K hK=>?_;go_wp2;refine OnlyN.mk (hK.out _ _ (e_8 (e_8 (e_8 ⟨rfl,rfl,{ H with h0:=fun _=>rfl }⟩))))
      ·have hB:=H.below;have hcc:=HQB.out.below hB HQB.out.lt;have cc0:=hcc.cell_ 0 (.slice zA ins.length zc) rfl;have cc1:=hcc.cell_ 1 (.int .i64 out) rfl;clear hcc;clear hB;refine wpOp_hidden rfl fun K hK=>?_;go_wp2;refine OnlyN.mk (hK.out _ _ (e_8 (e_8 (e_8 ⟨rfl,rfl,{ H with h1:=fun _=>rfl }⟩))))
      ·have hB:=H.below;have hcc:=HPB.out.below hB HPB.out.lt;have cc0:=hcc.cell_ 0 (.int .i64 st) rfl;have cc1:=hcc.cell_ 1 (.int .i64 sym) rfl;have cc2:=hcc.cell_ 2 (.slice hA hood.length hc) rfl;have cc3:=hcc.cell_ 3 (.slice vA vs.length vc) rfl;have cc4:=hcc.cell_ 4 (.slice rA rs.length rc) rfl;clear hcc;clear hB;refine wpOp_hidden rfl fun K hK=>?_;go_wp2;refine OnlyN.mk (hK.out _ _ (e_8 (e_8 (e_8 ⟨rfl,rfl,{ H with h2:=fun _=>rfl }⟩))))
      ·refine wpOp_hidden rfl fun K hK=>?_;go_wp2;refine OnlyN.mk (hK.out _ _ (e_8 (e_8 (e_8 ⟨rfl,rfl,{ H with h3:=fun _=>rfl }⟩))))
      ·refine wpOp_hidden rfl fun K hK=>?_;go_wp2;refine OnlyN.mk (hK.out _ _ (e_8 (e_8 (e_8 ⟨rfl,rfl,{ H with h4:=fun _=>rfl }⟩))))
      ·obtain rfl:=H.h2 (by simp[hi]);obtain rfl:=H.h3 (by simp[hi]);obtain rfl:=H.h4 (by simp[hi]);have hB:=H.below;have HC5:=hid (HTU.out w' hB);have HBW:=hid hB;clear hB;refine wpOp_hidden rfl fun K hK=>?_;go_wp2_with (go_at_call 77;refine HC5.out.mono ?_;rintro e w9 ⟨A9,c9,rfl,hi9,hb9⟩;refine Hid.out ?_);refine hid ?_;have HI9:=hid hi9;clear HC5 hi9;have HB9:=hid hb9;have HBN:=hid (HBW.out.trans (hb9.mono HBW.out.size));clear hb9;go_wp2;refine OnlyN.mk (hK.out _ _ (e_8 (e_8 (e_8 ⟨rfl,rfl,{ H with below:=HBN.out,x5:=fun _=>⟨A9,c9,rfl,HI9.out⟩ }⟩))))
      ·obtain rfl:=H.h0 (by simp[hi]);obtain rfl:=H.h1 (by simp[hi]);have hB:=H.below;obtain⟨A5,c5,e5,hi5⟩:=H.x5 (by simp[hi]);subst e5;have HC5:=hid (HPL.out w' A5 c5 hB hi5);have HX5:=hid hi5;clear hi5;have HBW:=hid hB;clear hB;refine wpOp_hidden rfl fun K hK=>?_;go_wp2_with (go_at_call 76;refine HC5.out.mono ?_;rintro e w9 ⟨rfl,hb9⟩;refine Hid.out ?_);refine hid ?_;clear HC5;have HB9:=hid hb9;have HBN:=hid (HBW.out.trans (hb9.mono HBW.out.size));clear hb9;go_wp2;refine OnlyN.mk (hK.out _ _ (e_8 (e_8 (e_8 ⟨rfl,rfl,{ H with h6:=fun _=>rfl,below:=HBN.out,x5:=fun h=>(H.x5 h).imp fun A9 h=>h.imp fun c9 h=>⟨h.1,h.2.ext HB9.out⟩ }⟩))))
      ·obtain rfl:=H.h6 (by simp[hi]);refine wpOp_hidden rfl fun K hK=>?_;go_wp2;refine OnlyN.mk (hK.out _ _ (e_8 (e_8 (e_8 ⟨rfl,rfl,{ H with h7:=fun _=>rfl }⟩))))
      ·obtain rfl:=H.h7 (by simp[hi]);refine wpOp_hidden rfl fun K hK=>?_;go_wp2;refine OnlyN.mk (hK.out _ _ (e_8 (e_8 (e_8 ⟨rfl,rfl,{ H with h8:=fun _=>rfl }⟩))))
      ·obtain rfl:=H.h7 (by simp[hi]);refine wpOp_hidden rfl fun K hK=>?_;go_wp2;refine OnlyN.mk (hK.out _ _ (e_8 (e_8 (e_8 ⟨rfl,rfl,{ H with h9:=fun _=>rfl }⟩))))
      ·obtain rfl:=H.h8 (by simp[hi]);refine wpOp_hidden rfl fun K hK=>?_;go_wp2;refine OnlyN.mk (hK.out _ _ (e_8 (e_8 (e_8 ⟨rfl,rfl,{ H with h10:=fun _=>rfl }⟩))))
      ·obtain rfl:=H.h9 (by simp[hi]);refine wpOp_hidden rfl fun K hK=>?_;go_wp2;refine OnlyN.mk (hK.out _ _ (e_8 (e_8 (e_8 ⟨rfl,rfl,{ H with h11:=fun _=>rfl }⟩))))
     ·rintro listed act w' hr ⟨b0,b1,b2,b3,b4,b5,b6,b7,b8,b9,b10,b11,v31,v32,v33,v34,v35,v36,v37,v30,v38,v39,v10,v11,rfl,rfl,H⟩;have hn:=List.eq_nil_iff_forall_not_mem.1 hr;have r0:=hn 0;simp[mem_ready,Region.binds] at r0;subst r0;have r1:=hn 1;simp[mem_ready,Region.binds] at r1;subst r1;have r2:=hn 2;simp[mem_ready,Region.binds] at r2;subst r2;have r3:=hn 3;simp[mem_ready,Region.binds] at r3;subst r3;have r4:=hn 4;simp[mem_ready,Region.binds] at r4;subst r4;have r5:=hn 5;simp[mem_ready,Region.binds] at r5;subst r5;have r6:=hn 6;simp[mem_ready,Region.binds] at r6;subst r6;have r7:=hn 7;simp[mem_ready,Region.binds] at r7;subst r7;have r8:=hn 8;simp[mem_ready,Region.binds] at r8;subst r8;have r9:=hn 9;simp[mem_ready,Region.binds] at r9;subst r9;have r10:=hn 10;simp[mem_ready,Region.binds] at r10;subst r10;have r11:=hn 11;simp[mem_ready,Region.binds] at r11;subst r11;try dsimp only
      obtain⟨A5,c5,e5,-⟩:=H.x5 rfl;obtain rfl:=H.h10 rfl;obtain rfl:=H.h11 rfl;have HB6:=hid (HBW.out.trans (H.below.mono HBW.out.size));obtain⟨w6,rfl⟩:∃ w6:World,w6=w':=⟨_,rfl⟩
      clear H hr hn e5;cases p2 with
      | false=>
       have HST:Hid (decTo hood vars ins out inn (k+1)=(bz,bf)):=hid (by rw[HSTEP.out];rfl);go_wp2;go_roundw
       case rel=>exact⟨k+1,(bz,bf),HK.out,(by first | rfl | (rw[HWK.out];rfl)),rfl,rfl,HST,HB6⟩
       case measure=>(try rw[HWK.out]);exact meas_step HK.out
      | true=>
       cases bf with
       | false=>
        have HST:Hid (decTo hood vars ins out inn (k+1)=(p1,true)):=hid (by rw[HSTEP.out];rfl);go_wp2;go_roundw
        case rel=>exact⟨k+1,(p1,true),HK.out,(by first | rfl | (rw[HWK.out];rfl)),rfl,rfl,HST,HB6⟩
        case measure=>(try rw[HWK.out]);exact meas_step HK.out
       | true=>
        by_cases hlt:p1 < bz
        ·have dl:decide (p1 < bz)=true:=decide_eq_true hlt;have HST:Hid (decTo hood vars ins out inn (k+1)=(p1,true)):=hid (by rw[HSTEP.out,if_pos rfl];unfold better;rw[if_pos (Or.inr hlt)]);clear hlt;go_wp2;go_roundw
         case rel=>exact⟨k+1,(p1,true),HK.out,(by first | rfl | (rw[HWK.out];rfl)),rfl,rfl,HST,HB6⟩
         case measure=>(try rw[HWK.out]);exact meas_step HK.out
        ·have dl:decide (p1 < bz)=false:=decide_eq_false hlt;have HST:Hid (decTo hood vars ins out inn (k+1)=(bz,true)):=hid (by rw[HSTEP.out,if_pos rfl];unfold better;rw[if_neg (by rintro (h | h);cases h;exact hlt h)]);clear hlt;go_wp2;go_roundw
         case rel=>exact⟨k+1,(bz,true),HK.out,(by first | rfl | (rw[HWK.out];rfl)),rfl,rfl,HST,HB6⟩
         case measure=>(try rw[HWK.out]);exact meas_step HK.out
    ·obtain rfl:k=1:=Nat.le_antisymm hk (Nat.le_of_not_lt hkn);have dk:decide (((1:Nat):Int) < 1)=false:=by decide
     clear hk hkn;go_wp2;go_ret2;exact⟨by rw[HD.out] <;> rfl,HB0.out.trans (HBW.out.mono HB0.out.size)⟩
def okVarS (st:Int):Option Int→List Int→Bool
 | _,[]=>true
 | q,s :: l=>decide (0≤s) && decide (s < st) && (match q with | none=>true | some a=>decide (a < s)) && okVarS st (some s) l
def okVar (st:Int)(l:List Int):Bool:=decide (0 < l.length) && okVarS st none l
def elB (st:Int)(nv:Nat)(e:Int):Bool:=decide (e < st) && decide (-(nv:Int)≤e)
def okRow (st:Int)(nv nh:Nat)(r:Rw):Bool:=decide (r.1.length=nh) && elB st nv r.2 && (decide (0≤r.2) || decide (r.2 ∈ r.1)) && r.1.all (elB st nv)
def headTab (t:TabL):Bool:=decide (2≤t.st) && decide (t.st≤8) && hoodB t.hood && permP t.hood t.sym && decide (t.vars.length≤40) && decide (t.rows.length≤400)
def rightTab (t:TabL):Bool:=headTab t && t.vars.all (okVar t.st) && t.rows.all (okRow t.st t.vars.length t.hood.length)
def prevO (l:List Int):Nat→Option Int
 | 0=>none
 | k+1=>l[k]?
theorem okVarS_yes {st:Int}{l:List Int}{k:Nat}(h:k < l.length)(h1:0≤l[k])(h2:l[k] < st)(h3:(match prevO l k with | none=>true | some a=>decide (a < l[k]))=true):okVarS st (prevO l k) (l.drop k)=okVarS st (prevO l (k+1)) (l.drop (k+1)):=by
 rw[List.drop_eq_getElem_cons h];show (decide (0≤l[k]) && decide (l[k] < st) && _ && okVarS st (some l[k]) (l.drop (k+1)))=okVarS st l[k]? (l.drop (k+1));rw[decide_eq_true h1,decide_eq_true h2,h3,List.getElem?_eq_getElem h];rfl
theorem okVarS_no {st:Int}{l:List Int}{k:Nat}(h:k < l.length)(h1:¬ 0≤l[k]∨¬ l[k] < st∨(match prevO l k with | none=>true | some a=>decide (a < l[k]))=false):okVarS st (prevO l k) (l.drop k)=false:=by
 rw[List.drop_eq_getElem_cons h];show (decide (0≤l[k]) && decide (l[k] < st) && _ && okVarS st (some l[k]) (l.drop (k+1)))=false;rcases h1 with h1 | h1 | h1
 ·rw[decide_eq_false h1];simp
 ·rw[decide_eq_false h1];simp
 ·rw[h1];simp
theorem all_dropM {α β:Type}(f:α→β)(p:β→Bool){l:List α}{k:Nat}(h:k < l.length):((l.drop k).map f).all p=(p (f l[k]) && ((l.drop (k+1)).map f).all p):=by
 rw[List.drop_eq_getElem_cons h];rfl
theorem all_drop0 {α:Type}(p:α→Bool){l:List α}{k:Nat}(h:k < l.length):(l.drop k).all p=(p l[k] && (l.drop (k+1)).all p):=by
 rw[List.drop_eq_getElem_cons h];rfl
set_option maxHeartbeats 4000000 in
theorem elc_any (g:Nat)(st sym:Int)(hA:Option Addr)(nh hc:Nat)(vA:Option Addr)(nv vc:Nat)(rA:Option Addr)(nr rc:Nat)(n:Int)(w:World)(hg:Blk w g 26 #[.int .i64 st,.int .i64 sym,.slice hA nh hc,.slice vA nv vc,.slice rA nr rc])(hv:nv≤1000000000) :
  Calls Tryz.prog 29 #[.int .i64 n,.pointer (some ⟨g,0,none⟩)] w fun e w'=>e=.returned (.bool (elB st nv n))∧w'=w:=by
 have c0:=hg.cell_ 0 (.int .i64 st) rfl;have c3:=hg.cell_ 3 (.slice vA nv vc) rfl;have hw:wrap64 (-(nv:Int)) = -(nv:Int):=by unfold wrap64;omega
 have hv9:nv≤9223372036854775807:=by omega
 obtain⟨r,hr⟩:∃ r,r=elB st nv n:=⟨_,rfl⟩
 rw[← hr];have HR:=hid hr;clear hr hg hv;by_cases h1:n < st
 ·have d1:decide (n < st)=true:=decide_eq_true h1;have HE:Hid (r=decide (-(nv:Int)≤n)):=hid (by rw[HR.out];unfold elB;rw[d1];rfl);clear h1;go_enter Tryz.func29,Tryz.ntmps29;go_wp2;go_ret;exact⟨ret_bool HE.out.symm,rfl⟩
 ·have d1:decide (n < st)=false:=decide_eq_false h1;have HE:Hid (r=false):=hid (by rw[HR.out];unfold elB;rw[d1];rfl);clear h1;go_enter Tryz.func29,Tryz.ntmps29;go_wp2;go_ret;exact⟨ret_bool HE.out.symm,rfl⟩
set_option maxHeartbeats 32000000 in
theorem rright15_any (hA:Option Addr)(hc:Nat)(vA:Option Addr)(vc:Nat)(rA:Option Addr)(rc:Nat)(t:TabH)(w:World)(hT:TabR w hA vA rA t)(hG:GMat w) :
  Calls Tryz.prog 10 #[tabV hA hc vA vc rA rc t] w fun e w'=>e=.returned (.bool (rightTab t.tab))∧Below w.heap.size w w':=by
 obtain⟨st,sym,hood,vs,rs⟩:=t;unfold tabV;dsimp only;obtain⟨w0,hw0⟩:∃ w0,w0=w.alloc (.cells #[.int .i64 st,.int .i64 sym,.slice hA hood.length hc,.slice vA vs.length vc,.slice rA rs.length rc] 26):=⟨_,rfl⟩
 have hb0:Below w.heap.size w w0:=by rw[hw0];exact below_new _ _
 have p0:Blk w0 w.heap.size 26 #[.int .i64 st,.int .i64 sym,.slice hA hood.length hc,.slice vA vs.length vc,.slice rA rs.length rc]:=by rw[hw0];exact Blk.new _ _ _
 obtain⟨gT,hgT⟩:∃ g,g=w.heap.size:=⟨_,rfl⟩
 rw[← hgT] at p0;have HT:=hid (hT.ext hb0);have HCH:=hid (hood_any hA hc hood w0 (hT.ext hb0).hood);have HCP:=hid (fun W (hW:Below w0.heap.size w0 W)=>permits_any hA hood hc sym W ((hT.ext hb0).hood.ext hW) ((hG.ext hb0).ext hW));have HB0:=hid hb0;have HP:=hid p0;have HW0:=hid (And.intro hw0 hgT);have hh9:hood.length≤9223372036854775807:=hT.hood.le;have hv9:vs.length≤9223372036854775807:=hT.vars.le;have hr9:rs.length≤9223372036854775807:=hT.rows.le;obtain⟨res,hres⟩:∃ r,r=rightTab (TabH.tab ⟨st,sym,hood,vs,rs⟩):=⟨_,rfl⟩
 rw[← hres];have HRES:Hid (res=(decide (2≤st) && decide (st≤8) && hoodB hood && permP hood sym && decide (vs.length≤40) && decide (rs.length≤400) && (vs.map Vh.zs).all (okVar st) && (rs.map Rh.rw_).all (okRow st vs.length hood.length))):=hid (by
  rw[hres];unfold rightTab headTab TabH.tab;dsimp only;rw[List.length_map,List.length_map])
 clear hb0 p0 hw0 hgT hT hG hres;have x0:=HP.out.cell_ 0 (.int .i64 st) rfl;have x1:=HP.out.cell_ 1 (.int .i64 sym) rfl;have x2:=HP.out.cell_ 2 (.slice hA hood.length hc) rfl;have x3:=HP.out.cell_ 3 (.slice vA vs.length vc) rfl;have x4:=HP.out.cell_ 4 (.slice rA rs.length rc) rfl;by_cases h1:st < 2
 ·have d1:decide (st < 2)=true:=decide_eq_true h1;have HF:Hid (res=false):=hid (by rw[HRES.out,decide_eq_false (by omega:¬ 2≤st)];rfl);clear h1;go_enter Tryz.func10,Tryz.ntmps10;go_upto_region 1 with fail
  rw[← HW0.out.1,← HW0.out.2];go_wp2;go_ret;exact⟨ret_bool HF.out.symm,HB0.out⟩
 have d1:decide (st < 2)=false:=decide_eq_false h1;by_cases h2:8 < st
 ·have d2:decide (8 < st)=true:=decide_eq_true h2;have HF:Hid (res=false):=hid (by rw[HRES.out,decide_eq_false (by omega:¬ st≤8)];simp);clear h1 h2;go_enter Tryz.func10,Tryz.ntmps10;go_upto_region 1 with fail
  rw[← HW0.out.1,← HW0.out.2];go_wp2;go_ret;exact⟨ret_bool HF.out.symm,HB0.out⟩
 have d2:decide (8 < st)=false:=decide_eq_false h2;have HST:Hid (2≤st∧st≤8):=hid ⟨by omega,by omega⟩;clear h1 h2;cases h3:hoodB hood with
 | false=>
  have HF:Hid (res=false):=hid (by rw[HRES.out,h3];simp);rw[h3] at HCH;clear h3;go_enter Tryz.func10,Tryz.ntmps10;go_upto_region 1 with fail
  rw[← HW0.out.1,← HW0.out.2];go_wp2_with (go_at_call 27;refine HCH.out.mono ?_;rintro e w1 ⟨rfl,hb1⟩;refine Hid.out ?_);refine hid ?_;have HB1:=hid hb1;have HP1:=hid (HP.out.below hb1 HP.out.lt);clear hb1 x0 x1 x2 x3 x4;have x0:=HP1.out.cell_ 0 (.int .i64 st) rfl;have x1:=HP1.out.cell_ 1 (.int .i64 sym) rfl;have x2:=HP1.out.cell_ 2 (.slice hA hood.length hc) rfl;have x3:=HP1.out.cell_ 3 (.slice vA vs.length vc) rfl;have x4:=HP1.out.cell_ 4 (.slice rA rs.length rc) rfl;go_wp2;go_ret;exact⟨ret_bool HF.out.symm,HB0.out.trans (HB1.out.mono HB0.out.size)⟩
 | true=>
 have HHB:=hid h3;rw[h3] at HCH;cases h4:permP hood sym with
 | false=>
  have HF:Hid (res=false):=hid (by rw[HRES.out,h4];simp);rw[h4] at HCP;clear h3 h4;go_enter Tryz.func10,Tryz.ntmps10;go_upto_region 1 with fail
  rw[← HW0.out.1,← HW0.out.2];go_wp2_with (go_at_call 27;refine HCH.out.mono ?_;rintro e w1 ⟨rfl,hb1⟩;refine Hid.out ?_);refine hid ?_;have HB1:=hid hb1;have HP1:=hid (HP.out.below hb1 HP.out.lt);clear hb1 x0 x1 x2 x3 x4;have x0:=HP1.out.cell_ 0 (.int .i64 st) rfl;have x1:=HP1.out.cell_ 1 (.int .i64 sym) rfl;have x2:=HP1.out.cell_ 2 (.slice hA hood.length hc) rfl;have x3:=HP1.out.cell_ 3 (.slice vA vs.length vc) rfl;have x4:=HP1.out.cell_ 4 (.slice rA rs.length rc) rfl;have HCQ:=hid (HCP.out w1 HB1.out);go_wp2_with (go_at_call 28;refine HCQ.out.mono ?_;rintro e w2 ⟨rfl,hb2⟩;refine Hid.out ?_);refine hid ?_;have HB2:=hid (HB1.out.trans (hb2.mono HB1.out.size));have HP2:=hid (HP.out.below HB2.out HP.out.lt);clear hb2 x0 x1 x2 x3 x4;have x0:=HP2.out.cell_ 0 (.int .i64 st) rfl;have x1:=HP2.out.cell_ 1 (.int .i64 sym) rfl;have x2:=HP2.out.cell_ 2 (.slice hA hood.length hc) rfl;have x3:=HP2.out.cell_ 3 (.slice vA vs.length vc) rfl;have x4:=HP2.out.cell_ 4 (.slice rA rs.length rc) rfl;go_wp2;go_ret;exact⟨ret_bool HF.out.symm,HB0.out.trans (HB2.out.mono HB0.out.size)⟩
 | true=>
 rw[h4] at HCP;have HPM:=hid h4;clear h3 h4;by_cases h5:40 < vs.length
 ·have d5:decide ((40:Int) < (vs.length:Int))=true:=decide_eq_true (by omega);have d5':decide (40 < vs.length)=true:=decide_eq_true h5;have HF:Hid (res=false):=hid (by rw[HRES.out,decide_eq_false (by omega:¬ vs.length≤40)];simp);clear h5;go_enter Tryz.func10,Tryz.ntmps10;go_upto_region 1 with fail
  rw[← HW0.out.1,← HW0.out.2];go_wp2_with (go_at_call 27;refine HCH.out.mono ?_;rintro e w1 ⟨rfl,hb1⟩;refine Hid.out ?_);refine hid ?_;have HB1:=hid hb1;have HP1:=hid (HP.out.below hb1 HP.out.lt);clear hb1 x0 x1 x2 x3 x4;have x0:=HP1.out.cell_ 0 (.int .i64 st) rfl;have x1:=HP1.out.cell_ 1 (.int .i64 sym) rfl;have x2:=HP1.out.cell_ 2 (.slice hA hood.length hc) rfl;have x3:=HP1.out.cell_ 3 (.slice vA vs.length vc) rfl;have x4:=HP1.out.cell_ 4 (.slice rA rs.length rc) rfl;have HCQ:=hid (HCP.out w1 HB1.out);go_wp2_with (go_at_call 28;refine HCQ.out.mono ?_;rintro e w2 ⟨rfl,hb2⟩;refine Hid.out ?_);refine hid ?_;have HB2:=hid (HB1.out.trans (hb2.mono HB1.out.size));have HP2:=hid (HP.out.below HB2.out HP.out.lt);clear hb2 x0 x1 x2 x3 x4;have x0:=HP2.out.cell_ 0 (.int .i64 st) rfl;have x1:=HP2.out.cell_ 1 (.int .i64 sym) rfl;have x2:=HP2.out.cell_ 2 (.slice hA hood.length hc) rfl;have x3:=HP2.out.cell_ 3 (.slice vA vs.length vc) rfl;have x4:=HP2.out.cell_ 4 (.slice rA rs.length rc) rfl;go_wp2;go_ret;exact⟨ret_bool HF.out.symm,HB0.out.trans (HB2.out.mono HB0.out.size)⟩
 have d5:decide ((40:Int) < (vs.length:Int))=false:=decide_eq_false (by omega);have d5':decide (40 < vs.length)=false:=decide_eq_false h5;by_cases h6:400 < rs.length
 ·have d6:decide ((400:Int) < (rs.length:Int))=true:=decide_eq_true (by omega);have d6':decide (400 < rs.length)=true:=decide_eq_true h6;have HF:Hid (res=false):=hid (by rw[HRES.out,decide_eq_false (by omega:¬ rs.length≤400)];simp);clear h5 h6;go_enter Tryz.func10,Tryz.ntmps10;go_upto_region 1 with fail
  rw[← HW0.out.1,← HW0.out.2];go_wp2_with (go_at_call 27;refine HCH.out.mono ?_;rintro e w1 ⟨rfl,hb1⟩;refine Hid.out ?_);refine hid ?_;have HB1:=hid hb1;have HP1:=hid (HP.out.below hb1 HP.out.lt);clear hb1 x0 x1 x2 x3 x4;have x0:=HP1.out.cell_ 0 (.int .i64 st) rfl;have x1:=HP1.out.cell_ 1 (.int .i64 sym) rfl;have x2:=HP1.out.cell_ 2 (.slice hA hood.length hc) rfl;have x3:=HP1.out.cell_ 3 (.slice vA vs.length vc) rfl;have x4:=HP1.out.cell_ 4 (.slice rA rs.length rc) rfl;have HCQ:=hid (HCP.out w1 HB1.out);go_wp2_with (go_at_call 28;refine HCQ.out.mono ?_;rintro e w2 ⟨rfl,hb2⟩;refine Hid.out ?_);refine hid ?_;have HB2:=hid (HB1.out.trans (hb2.mono HB1.out.size));have HP2:=hid (HP.out.below HB2.out HP.out.lt);clear hb2 x0 x1 x2 x3 x4;have x0:=HP2.out.cell_ 0 (.int .i64 st) rfl;have x1:=HP2.out.cell_ 1 (.int .i64 sym) rfl;have x2:=HP2.out.cell_ 2 (.slice hA hood.length hc) rfl;have x3:=HP2.out.cell_ 3 (.slice vA vs.length vc) rfl;have x4:=HP2.out.cell_ 4 (.slice rA rs.length rc) rfl;go_wp2;go_ret;exact⟨ret_bool HF.out.symm,HB0.out.trans (HB2.out.mono HB0.out.size)⟩
 have d6:decide ((400:Int) < (rs.length:Int))=false:=decide_eq_false (by omega);have d6':decide (400 < rs.length)=false:=decide_eq_false h6;have HLN:Hid (vs.length≤40∧rs.length≤400):=hid ⟨by omega,by omega⟩;have HRES2:Hid (res=((vs.map Vh.zs).all (okVar st) && (rs.map Rh.rw_).all (okRow st vs.length hood.length))):=hid (by
  rw[HRES.out,decide_eq_true HST.out.1,decide_eq_true HST.out.2,HHB.out,HPM.out,decide_eq_true HLN.out.1,decide_eq_true HLN.out.2]
  simp)
 clear h5 h6;go_enter Tryz.func10,Tryz.ntmps10;go_upto_region 1 with fail
 rw[← HW0.out.1,← HW0.out.2];go_wp2_with (go_at_call 27;refine HCH.out.mono ?_;rintro e w1 ⟨rfl,hb1⟩;refine Hid.out ?_);refine hid ?_;have HB1:=hid hb1;have HP1:=hid (HP.out.below hb1 HP.out.lt);clear hb1 x0 x1 x2 x3 x4;have x0:=HP1.out.cell_ 0 (.int .i64 st) rfl;have x1:=HP1.out.cell_ 1 (.int .i64 sym) rfl;have x2:=HP1.out.cell_ 2 (.slice hA hood.length hc) rfl;have x3:=HP1.out.cell_ 3 (.slice vA vs.length vc) rfl;have x4:=HP1.out.cell_ 4 (.slice rA rs.length rc) rfl;have HCQ:=hid (HCP.out w1 HB1.out);go_wp2_with (go_at_call 28;refine HCQ.out.mono ?_;rintro e w2 ⟨rfl,hb2⟩;refine Hid.out ?_);refine hid ?_;have HB2:=hid (HB1.out.trans (hb2.mono HB1.out.size));have HP2:=hid (HP.out.below HB2.out HP.out.lt);clear hb2 x0 x1 x2 x3 x4;have x0:=HP2.out.cell_ 0 (.int .i64 st) rfl;have x1:=HP2.out.cell_ 1 (.int .i64 sym) rfl;have x2:=HP2.out.cell_ 2 (.slice hA hood.length hc) rfl;have x3:=HP2.out.cell_ 3 (.slice vA vs.length vc) rfl;have x4:=HP2.out.cell_ 4 (.slice rA rs.length rc) rfl;go_upto_region 4 with fail
 clear d1 d2 d5 d5' d6 d6' x0 x1 x2 x3 x4;have HP2:=hid (HP.out.below HB2.out HP.out.lt);have HT2:=hid (HT.out.ext HB2.out);have c0:=HP2.out.cell_ 0 (.int .i64 st) rfl;have HBE:=hid (HB0.out.trans (HB2.out.mono HB0.out.size));clear HB1;go_loopw [49] (fun iv wr=>∃ i:Nat,i≤vs.length∧iv=.int .i64 i∧w2=wr∧Hid ((vs.map Vh.zs).all (okVar st)=((vs.drop i).map Vh.zs).all (okVar st))) (fun iv _=>vs.length - (intOf iv).toNat)
 case atStart=>exact⟨0,Nat.zero_le _,rfl,rfl,hid rfl⟩
 case round=>
  obtain⟨i,hi,rfl,rfl,HD⟩:=hrel;by_cases hil:i < vs.length
  ·obtain⟨vb,vo,ea,-,hca,hia⟩:=HT2.out.vars.at_ hil;have hAD:=HD.out.trans (all_dropM Vh.zs (okVar st) hil);obtain⟨xh,hxh⟩:∃ z,z=vs[i]:=⟨_,rfl⟩
   rw[← hxh] at hca hia hAD;obtain⟨xA,xc,l⟩:=xh;dsimp only at hca hia hAD ea;subst ea;have HAD:=hid hAD;have HI:=hid hil;have hwi:wrap64 ((i:Int)+1)=(i:Int)+1:=by unfold wrap64;omega
   have HWI:=hid hwi;have hl9:l.length≤9223372036854775807:=hia.le;have HIA:=hid hia;clear hAD hxh hia hi hwi;by_cases h0:l.length=0
   ·have d0:((l.length:Int) == 0)=true:=beq_iff_eq.2 (by omega);have HF:Hid (res=false):=hid (by rw[HRES2.out,HAD.out];unfold okVar;rw[decide_eq_false (by omega:¬ 0 < l.length)];rfl);clear h0;go_wp2;go_ret;exact⟨ret_bool HF.out.symm,HBE.out⟩
   ·have d0:((l.length:Int) == 0)=false:=beq_false_of_ne (by omega);have HOK:Hid (okVar st l=okVarS st none l):=hid (by unfold okVar;rw[decide_eq_true (by omega:0 < l.length)];rfl);clear h0;go_upto_region 9 with fail
    go_loopw [58] (fun jv wr=>∃ j:Nat,j≤l.length∧jv=.int .i64 j∧w2=wr∧Hid (okVarS st none l=okVarS st (prevO l j) (l.drop j))) (fun jv _=>l.length - (intOf jv).toNat)
    case atStart=>exact⟨0,Nat.zero_le _,rfl,rfl,hid rfl⟩
    case round=>
     obtain⟨j,hj,rfl,rfl,HS⟩:=hrel;by_cases hjl:j < l.length
     ·obtain⟨xb,xo,ex,-,hcj⟩:=HIA.out.at_ hjl;subst ex;have HNO:=hid (fun h=>okVarS_no (st:=st) hjl h);have HYE:=hid (fun h1 h2 h3=>okVarS_yes (st:=st) hjl h1 h2 h3);obtain⟨s,hs⟩:∃ s,s=l[j]:=⟨_,rfl⟩
      rw[← hs] at hcj HNO HYE;have HJ:=hid hjl;have hwj:wrap64 ((j:Int)+1)=(j:Int)+1:=by unfold wrap64;omega
      have HWJ:=hid hwj;have HBAD:Hid (okVarS st (prevO l j) (l.drop j)=false→res=false):=hid (fun h=>by rw[HRES2.out,HAD.out,HOK.out,HS.out,h];rfl);clear hs hj hwj;by_cases e1:s < 0
      ·have q1:decide (s < 0)=true:=decide_eq_true e1;have HF:Hid (res=false):=hid (HBAD.out (HNO.out (.inl (by omega))));clear e1;go_wp2;go_ret;exact⟨ret_bool HF.out.symm,HBE.out⟩
      ·have q1:decide (s < 0)=false:=decide_eq_false e1;by_cases e2:st≤s
       ·have q2:decide (st≤s)=true:=decide_eq_true e2;have HF:Hid (res=false):=hid (HBAD.out (HNO.out (.inr (.inl (by omega)))));clear e1 e2;go_wp2;go_ret;exact⟨ret_bool HF.out.symm,HBE.out⟩
       ·have q2:decide (st≤s)=false:=decide_eq_false e2;have HE12:=hid (And.intro e1 e2);clear e1 e2;cases j with
        | zero=>
         rw[Nat.add_zero] at hcj;have HS2:Hid (okVarS st none l=okVarS st (prevO l (0+1)) (l.drop (0+1))):=hid (HS.out.trans (HYE.out (by have:=HE12.out.1;omega) (by have:=HE12.out.2;omega) rfl));go_wp2;go_roundw
         case rel=>exact⟨0+1,HJ.out,(by first | rfl | (rw[HWJ.out];rfl)),(by first | rfl | trivial),HS2⟩
         case measure=>(try rw[HWJ.out]);exact meas_step HJ.out
        | succ j'=>
         have hj':j' < l.length:=Nat.lt_of_succ_lt hjl;obtain⟨xb',xo',ex',-,hcp⟩:=HIA.out.at_ hj';obtain⟨rfl,rfl⟩:xb=xb'∧xo=xo':=by injection ex' with ex';injection ex' with h1 h2;exact⟨h1,h2⟩
         have hpv:prevO l (j'+1)=some l[j']:=List.getElem?_eq_getElem hj';obtain⟨a,ha⟩:∃ a,a=l[j']:=⟨_,rfl⟩
         rw[← ha] at hcp hpv;rw[hpv] at HNO HYE HS HBAD;have q3:decide ((0:Int) < ((j'+1:Nat):Int))=true:=decide_eq_true (by omega);have q3':decide ((0:Int) < (j':Int)+1)=true:=decide_eq_true (by omega);have hws:wrap64 (((j'+1:Nat):Int) - 1)=(j':Int):=by unfold wrap64;omega
         have hws':wrap64 ((j':Int)+1 - 1)=(j':Int):=by unfold wrap64;omega
         clear ex' ha hpv;by_cases e3:s≤a
         ·have q4:decide (s≤a)=true:=decide_eq_true e3;have HF:Hid (res=false):=hid (HBAD.out (HNO.out (.inr (.inr (decide_eq_false (by omega))))));clear e3;go_wp2;go_ret;exact⟨ret_bool HF.out.symm,HBE.out⟩
         ·have q4:decide (s≤a)=false:=decide_eq_false e3;have HS2:Hid (okVarS st none l=okVarS st (prevO l (j'+1+1)) (l.drop (j'+1+1))):=hid (HS.out.trans (HYE.out (by have:=HE12.out.1;omega) (by have:=HE12.out.2;omega) (decide_eq_true (by omega))));clear e3;go_wp2;go_roundw
          case rel=>exact⟨j'+1+1,HJ.out,(by first | rfl | (rw[HWJ.out];rfl)),(by first | rfl | trivial),HS2⟩
          case measure=>(try rw[HWJ.out]);exact meas_step HJ.out
     ·obtain rfl:j=l.length:=Nat.le_antisymm hj (Nat.le_of_not_lt hjl);have HOV:Hid (okVar st l=true):=hid (by rw[HOK.out,HS.out,List.drop_length];cases prevO l l.length <;> rfl);have HD2:Hid ((vs.map Vh.zs).all (okVar st)=((vs.drop (i+1)).map Vh.zs).all (okVar st)):=hid (by rw[HAD.out,HOV.out];rfl);clear hj hjl;go_wp2;go_roundw
      case rel=>exact⟨i+1,HI.out,(by first | rfl | (rw[HWI.out];rfl)),(by first | rfl | trivial),HD2⟩
      case measure=>(try rw[HWI.out]);exact meas_step HI.out
  ·obtain rfl:i=vs.length:=Nat.le_antisymm hi (Nat.le_of_not_lt hil);have HRES3:Hid (res=(rs.map Rh.rw_).all (okRow st vs.length hood.length)):=hid (by rw[HRES2.out,HD.out,List.drop_length];rfl);have c4:=HP2.out.cell_ 4 (.slice rA rs.length rc) rfl;clear hi hil HD;go_upto_region 17 with fail
   clear c4 c0;go_loopw [90] (fun iv wr=>∃ i:Nat,i≤rs.length∧iv=.int .i64 i∧Hid (Below w2.heap.size w2 wr)∧Hid ((rs.map Rh.rw_).all (okRow st vs.length hood.length)=((rs.drop i).map Rh.rw_).all (okRow st vs.length hood.length))) (fun iv _=>rs.length - (intOf iv).toNat)
   case atStart=>exact⟨0,Nat.zero_le _,rfl,hid (Below.refl _ _),hid rfl⟩
   case round=>
    obtain⟨i,hi,rfl,HBW,HD⟩:=hrel;by_cases hil:i < rs.length
    ·obtain⟨rb,ro,ea,-,hca,hda,hia⟩:=(HT2.out.rows.ext HBW.out).at_ hil;have hAD:=HD.out.trans (all_dropM Rh.rw_ (okRow st vs.length hood.length) hil);obtain⟨xh,hxh⟩:∃ z,z=rs[i]:=⟨_,rfl⟩
     rw[← hxh] at hca hda hia hAD;obtain⟨xA,xc,zs,out⟩:=xh;dsimp only at hca hda hia hAD ea;subst ea;have HAD:Hid ((rs.map Rh.rw_).all (okRow st vs.length hood.length)=(okRow st vs.length hood.length (zs,out) && ((rs.drop (i+1)).map Rh.rw_).all (okRow st vs.length hood.length))):=hid hAD;have HI:=hid hil;have hwi:wrap64 ((i:Int)+1)=(i:Int)+1:=by unfold wrap64;omega
     have HWI:=hid hwi;have hz9:zs.length≤9223372036854775807:=hia.le;obtain⟨wb,hwb⟩:∃ W,W=wr.alloc (.cells #[.slice xA zs.length xc,.int .i64 out] 48):=⟨_,rfl⟩
     have hbb:Below wr.heap.size wr wb:=by rw[hwb];exact below_new _ _
     obtain⟨gR,hgR⟩:∃ g,g=wr.heap.size:=⟨_,rfl⟩
     have HRB:Hid (Blk wb gR 48 #[.slice xA zs.length xc,.int .i64 out]):=hid (by rw[hgR,hwb];exact Blk.new _ _ _);have HBB:=hid (HBW.out.trans (hbb.mono HBW.out.size));have HIA:=hid (hia.ext hbb);have HWB:=hid (And.intro hwb hgR);have HPB:=hid (HP2.out.below HBB.out HP2.out.lt);have HBF:=hid (HBE.out.trans (HBB.out.mono HBE.out.size));have HEL:Hid (∀ n,Calls Tryz.prog 29 #[.int .i64 n,.pointer (some ⟨gT,0,none⟩)] wb fun e w'=>e=.returned (.bool (elB st vs.length n))∧wb=w'):=hid (fun n=>(elc_any gT st sym hA hood.length hc vA vs.length vc (some ⟨rb,ro,none⟩) rs.length rc n wb HPB.out (by have:=HLN.out.1;omega)).mono fun e w' h=>⟨h.1,h.2.symm⟩);have HBAD:Hid (okRow st vs.length hood.length (zs,out)=false→res=false):=hid (fun h=>by rw[HRES3.out,HAD.out,h];rfl);have r0:=HRB.out.cell_ 0 (.slice xA zs.length xc) rfl;have r1:=HRB.out.cell_ 1 (.int .i64 out) rfl;have c2:=HPB.out.cell_ 2 (.slice hA hood.length hc) rfl;clear hAD hxh hia hi hwi hwb hgR hbb;go_upto_region 19 with fail
     rw[← HWB.out.1,← HWB.out.2];clear hca hda;by_cases e1:zs.length=hood.length
     ·have q1:((zs.length:Int) != (hood.length:Int))=false:=by simp[e1]
      have q1':(zs.length != hood.length)=false:=by simp[e1]
      have HE1:=hid e1;clear e1;have HEO:=hid (HEL.out out);cases e2:elB st vs.length out with
      | false=>
       have HF:Hid (res=false):=hid (HBAD.out (by unfold okRow;dsimp only;rw[e2];simp));rw[e2] at HEO;clear e2;go_wp2_with (go_at_call 29;refine HEO.out.mono ?_;rintro e w5 ⟨rfl,rfl⟩;refine Hid.out ?_);refine hid ?_;go_wp2;go_ret;exact⟨ret_bool HF.out.symm,HBF.out⟩
      | true=>
       have HE2:=hid e2;rw[e2] at HEO;clear e2;by_cases e3:out < 0
       ·have q3:decide (out < 0)=true:=decide_eq_true e3;have HCN:Hid (Calls Tryz.prog 30 #[.slice xA zs.length xc,.int .i64 out] wb fun e w'=>e=.returned (.bool (decide (out ∈ zs)))∧wb=w'):=hid ((contains_any xA zs xc out wb HIA.out).mono fun e w' h=>⟨h.1,h.2.symm⟩);by_cases e4:out ∈ zs
        ·rw[decide_eq_true e4] at HCN;have HRO:Hid (okRow st vs.length hood.length (zs,out)=zs.all (elB st vs.length)):=hid (by unfold okRow;dsimp only;rw[decide_eq_true HE1.out,HE2.out,decide_eq_true e4];simp);clear e3 e4;go_wp2_with (go_at_call 29;refine HEO.out.mono ?_;rintro e w5 ⟨rfl,rfl⟩;refine Hid.out ?_);refine hid ?_;go_wp2_with (go_at_call 30;refine HCN.out.mono ?_;rintro e w5 ⟨rfl,rfl⟩;refine Hid.out ?_);refine hid ?_;go_upto_region 22 with fail
         go_loopw [124] (fun jv wr=>∃ j:Nat,j≤zs.length∧jv=.int .i64 j∧wb=wr∧Hid (zs.all (elB st vs.length)=(zs.drop j).all (elB st vs.length))) (fun jv _=>zs.length - (intOf jv).toNat)
         case atStart=>exact⟨0,Nat.zero_le _,rfl,rfl,hid rfl⟩
         case round=>
          obtain⟨j,hj,rfl,rfl,HS⟩:=hrel;by_cases hjl:j < zs.length
          ·obtain⟨xb,xo,ex,-,hcj⟩:=HIA.out.at_ hjl;subst ex;have HAL:=hid (HS.out.trans (all_drop0 (elB st vs.length) hjl));obtain⟨n,hn⟩:∃ s,s=zs[j]:=⟨_,rfl⟩
           rw[← hn] at hcj HAL;have HJ:=hid hjl;have hwj:wrap64 ((j:Int)+1)=(j:Int)+1:=by unfold wrap64;omega
           have HWJ:=hid hwj;have HEN:=hid (HEL.out n);clear hn hj hwj;cases e5:elB st vs.length n with
           | false=>
            have HF:Hid (res=false):=hid (HBAD.out (by rw[HRO.out,HAL.out,e5];rfl));rw[e5] at HEN;clear e5;go_wp2_with (go_at_call 29;refine HEN.out.mono ?_;rintro e w5 ⟨rfl,rfl⟩;refine Hid.out ?_);refine hid ?_;go_wp2;go_ret;exact⟨ret_bool HF.out.symm,HBF.out⟩
           | true=>
            have HS2:Hid (zs.all (elB st vs.length)=(zs.drop (j+1)).all (elB st vs.length)):=hid (by rw[HAL.out,e5];rfl);rw[e5] at HEN;clear e5;go_wp2_with (go_at_call 29;refine HEN.out.mono ?_;rintro e w5 ⟨rfl,rfl⟩;refine Hid.out ?_);refine hid ?_;go_wp2;go_roundw
            case rel=>exact⟨j+1,HJ.out,(by first | rfl | (rw[HWJ.out];rfl)),(by first | rfl | trivial),HS2⟩
            case measure=>(try rw[HWJ.out]);exact meas_step HJ.out
          ·obtain rfl:j=zs.length:=Nat.le_antisymm hj (Nat.le_of_not_lt hjl);have HOV:Hid (okRow st vs.length hood.length (zs,out)=true):=hid (by rw[HRO.out,HS.out,List.drop_length];rfl);have HD2:Hid ((rs.map Rh.rw_).all (okRow st vs.length hood.length)=((rs.drop (i+1)).map Rh.rw_).all (okRow st vs.length hood.length)):=hid (by rw[HAD.out,HOV.out];rfl);clear hj hjl;go_wp2;go_roundw
           case rel=>exact⟨i+1,HI.out,(by first | rfl | (rw[HWI.out];rfl)),HBB,HD2⟩
           case measure=>(try rw[HWI.out]);exact meas_step HI.out
        ·rw[decide_eq_false e4] at HCN;have HF:Hid (res=false):=hid (HBAD.out (by unfold okRow;dsimp only;rw[decide_eq_false e4,decide_eq_false (by omega:¬ 0≤out)];simp));clear e3 e4;go_wp2_with (go_at_call 29;refine HEO.out.mono ?_;rintro e w5 ⟨rfl,rfl⟩;refine Hid.out ?_);refine hid ?_;go_wp2_with (go_at_call 30;refine HCN.out.mono ?_;rintro e w5 ⟨rfl,rfl⟩;refine Hid.out ?_);refine hid ?_;go_wp2;go_ret;exact⟨ret_bool HF.out.symm,HBF.out⟩
       ·have q3:decide (out < 0)=false:=decide_eq_false e3;have HRO:Hid (okRow st vs.length hood.length (zs,out)=zs.all (elB st vs.length)):=hid (by unfold okRow;dsimp only;rw[decide_eq_true HE1.out,HE2.out,decide_eq_true (by omega:0≤out)];simp);clear e3;go_wp2_with (go_at_call 29;refine HEO.out.mono ?_;rintro e w5 ⟨rfl,rfl⟩;refine Hid.out ?_);refine hid ?_;go_upto_region 22 with fail
        go_loopw [124] (fun jv wr=>∃ j:Nat,j≤zs.length∧jv=.int .i64 j∧wb=wr∧Hid (zs.all (elB st vs.length)=(zs.drop j).all (elB st vs.length))) (fun jv _=>zs.length - (intOf jv).toNat)
        case atStart=>exact⟨0,Nat.zero_le _,rfl,rfl,hid rfl⟩
        case round=>
         obtain⟨j,hj,rfl,rfl,HS⟩:=hrel;by_cases hjl:j < zs.length
         ·obtain⟨xb,xo,ex,-,hcj⟩:=HIA.out.at_ hjl;subst ex;have HAL:=hid (HS.out.trans (all_drop0 (elB st vs.length) hjl));obtain⟨n,hn⟩:∃ s,s=zs[j]:=⟨_,rfl⟩
          rw[← hn] at hcj HAL;have HJ:=hid hjl;have hwj:wrap64 ((j:Int)+1)=(j:Int)+1:=by unfold wrap64;omega
          have HWJ:=hid hwj;have HEN:=hid (HEL.out n);clear hn hj hwj;cases e5:elB st vs.length n with
          | false=>
           have HF:Hid (res=false):=hid (HBAD.out (by rw[HRO.out,HAL.out,e5];rfl));rw[e5] at HEN;clear e5;go_wp2_with (go_at_call 29;refine HEN.out.mono ?_;rintro e w5 ⟨rfl,rfl⟩;refine Hid.out ?_);refine hid ?_;go_wp2;go_ret;exact⟨ret_bool HF.out.symm,HBF.out⟩
          | true=>
           have HS2:Hid (zs.all (elB st vs.length)=(zs.drop (j+1)).all (elB st vs.length)):=hid (by rw[HAL.out,e5];rfl);rw[e5] at HEN;clear e5;go_wp2_with (go_at_call 29;refine HEN.out.mono ?_;rintro e w5 ⟨rfl,rfl⟩;refine Hid.out ?_);refine hid ?_;go_wp2;go_roundw
           case rel=>exact⟨j+1,HJ.out,(by first | rfl | (rw[HWJ.out];rfl)),(by first | rfl | trivial),HS2⟩
           case measure=>(try rw[HWJ.out]);exact meas_step HJ.out
         ·obtain rfl:j=zs.length:=Nat.le_antisymm hj (Nat.le_of_not_lt hjl);have HOV:Hid (okRow st vs.length hood.length (zs,out)=true):=hid (by rw[HRO.out,HS.out,List.drop_length];rfl);have HD2:Hid ((rs.map Rh.rw_).all (okRow st vs.length hood.length)=((rs.drop (i+1)).map Rh.rw_).all (okRow st vs.length hood.length)):=hid (by rw[HAD.out,HOV.out];rfl);clear hj hjl;go_wp2;go_roundw
          case rel=>exact⟨i+1,HI.out,(by first | rfl | (rw[HWI.out];rfl)),HBB,HD2⟩
          case measure=>(try rw[HWI.out]);exact meas_step HI.out
     ·have q1:((zs.length:Int) != (hood.length:Int))=true:=by simp;omega
      have q1':(zs.length != hood.length)=true:=by simp[e1]
      have HF:Hid (res=false):=hid (HBAD.out (by unfold okRow;dsimp only;rw[decide_eq_false e1];simp));clear e1;go_wp2;go_ret;exact⟨ret_bool HF.out.symm,HBF.out⟩
    ·obtain rfl:i=rs.length:=Nat.le_antisymm hi (Nat.le_of_not_lt hil);have HF:Hid (res=true):=hid (by rw[HRES3.out,HD.out,List.drop_length];rfl);clear hi hil;go_wp2;go_ret;exact⟨ret_bool HF.out.symm,HBE.out.trans (HBW.out.mono HBE.out.size)⟩
def statesB (st:Int)(inn:List Int):Bool:=!inn.any (badS st)
theorem statesB_mem {st:Int}{inn:List Int}(h:statesB st inn=true):∀ s ∈ inn,0≤s∧s < st:=by
 intro s hs;unfold statesB at h;have h2:inn.any (badS st)=false:=by simpa using h
 have h3:=List.any_eq_false.1 h2 s hs;unfold badS at h3;simp at h3;omega
set_option maxHeartbeats 4000000 in
theorem stc_any (g:Nat)(st:Int)(s:Int)(w:World)(c0:w.cell? ⟨g,0,none⟩=some (.int .i64 st)) :
  Calls Tryz.prog 74 #[.int .i64 s,.pointer (some ⟨g,0,none⟩)] w fun e w'=>e=.returned (.bool (badS st s))∧w'=w:=by
 obtain⟨r,hr⟩:∃ r,r=badS st s:=⟨_,rfl⟩
 rw[← hr];have HR:=hid hr;clear hr;by_cases h1:s < 0
 ·have d1:decide (s < 0)=true:=decide_eq_true h1;have HE:Hid (r=true):=hid (by rw[HR.out];unfold badS;rw[d1];rfl);clear h1;go_enter Tryz.func74,Tryz.ntmps74;go_wp2;go_ret;exact⟨ret_bool HE.out.symm,rfl⟩
 ·have d1:decide (s < 0)=false:=decide_eq_false h1;have HE:Hid (r=decide (st≤s)):=hid (by rw[HR.out];unfold badS;rw[d1];rfl);clear h1;go_enter Tryz.func74,Tryz.ntmps74;go_wp2;go_ret;exact⟨ret_bool HE.out.symm,rfl⟩
set_option maxHeartbeats 2000000 in
theorem ixS_any (g:Nat)(st:Int)(A:Option Addr)(c:Nat)(zs:List Int)(w:World)(c0:w.cell? ⟨g,0,none⟩=some (.int .i64 st))(hz:Ints w A zs) :
  Calls Tryz.prog 110 #[.slice A zs.length c,.func (.func 74) #[] #[.pointer (some ⟨g,0,none⟩)]] w fun e w'=>e=.returned (.int .i64 (fI (badS st) zs 0))∧w'=w:=by
 have hn:=hz.le;have HZ:=hid hz;have HQ:=hid c0;have HN:=hid hn;clear hz c0 hn;go_enter Tryz.func110,Tryz.ntmps110;go_wp2;go_loopw [8] (fun i wr=>∃ k:Nat,k≤zs.length∧i=.int .i64 k∧wr=w∧Hid (fI (badS st) zs 0=fI (badS st) (zs.drop k) k)) (fun i _=>zs.length - (intOf i).toNat)
 case atStart=>exact⟨0,Nat.zero_le _,rfl,rfl,hid (by simp)⟩
 case round=>
  obtain⟨k,hk,rfl,rfl,HT⟩:=hrel;by_cases hlt:k < zs.length
  ·obtain⟨b1,o1,e1,-,hc⟩:=HZ.out.at_ hlt;have hw1:wrap64 ((k:Int)+1)=(k:Int)+1:=by have:=HN.out;unfold wrap64;omega
   have HS:=hid (fI_step (badS st) hlt);have hC:=stc_any g st zs[k] wr HQ.out;obtain⟨z,hz⟩:∃ z,z=zs[k]:=⟨_,rfl⟩
   rw[← hz] at hc HS hC;have HLT:=hid hlt;subst e1;cases hp:badS st z with
   | true=>
    rw[hp] at hC;have HC:=hid hC;have HF:Hid (fI (badS st) zs 0=(k:Int)):=hid (by rw[HT.out,HS.out,hp];rfl);clear hp hC hz hk;go_wp2_with (go_at_call 74;refine HC.out.mono ?_;rintro e w1 ⟨rfl,rfl⟩);go_ret;exact⟨by rw[HF.out] <;> rfl,rfl⟩
   | false=>
    rw[hp] at hC;have HC:=hid hC;have HF:Hid (fI (badS st) zs 0=fI (badS st) (zs.drop (k+1)) (k+1)):=hid (by rw[HT.out,HS.out,hp];rfl);clear hp hC hz hk;go_wp2_with (go_at_call 74;refine HC.out.mono ?_;rintro e w1 ⟨rfl,rfl⟩);go_roundw
    case rel=>exact⟨k+1,HLT.out,(by first | rfl | (rw[hw1];rfl)),(by first | rfl | trivial),HF⟩
    case measure=>have:=HLT.out;first | (rw[hw1];simp[intOf];omega) | (simp[intOf];omega)
  ·have HF:Hid (fI (badS st) zs 0 = -1):=hid (by
    have h:=HT.out;rw[List.drop_of_length_le (by omega)] at h;exact h)
   go_wp2;go_ret;exact⟨by rw[HF.out] <;> rfl,rfl⟩
set_option maxHeartbeats 1000000 in
theorem ctS_any (g:Nat)(st:Int)(A:Option Addr)(c:Nat)(zs:List Int)(w:World)(c0:w.cell? ⟨g,0,none⟩=some (.int .i64 st))(hz:Ints w A zs) :
  Calls Tryz.prog 73 #[.slice A zs.length c,.func (.func 74) #[] #[.pointer (some ⟨g,0,none⟩)]] w fun e w'=>e=.returned (.bool (zs.any (badS st)))∧w'=w:=by
 have HC:=hid (ixS_any g st A c zs w c0 hz);rw[← fI_any (badS st) zs 0];obtain⟨r,hr⟩:∃ r,r=fI (badS st) zs 0:=⟨_,rfl⟩
 rw[← hr] at HC ⊢;clear hr c0 hz;go_enter Tryz.func73,Tryz.ntmps73;go_wp2_with (go_at_call 110;refine HC.out.mono ?_;rintro e w1 ⟨rfl,rfl⟩);go_ret;exact⟨rfl,rfl⟩
set_option maxHeartbeats 2000000 in
theorem states_any (hA:Option Addr)(hc:Nat)(vA:Option Addr)(vc:Nat)(rA:Option Addr)(rc:Nat)(t:TabH)(iA:Option Addr)(ic:Nat)(inn:List Int)(w:World)(hi:Ints w iA inn) :
  Calls Tryz.prog 41 #[tabV hA hc vA vc rA rc t,.slice iA inn.length ic] w fun e w'=>e=.returned (.bool (statesB t.st inn))∧Below w.heap.size w w':=by
 obtain⟨st,sym,hood,vs,rs⟩:=t;unfold tabV;dsimp only;obtain⟨w0,hw0⟩:∃ w0,w0=w.alloc (.cells #[.int .i64 st,.int .i64 sym,.slice hA hood.length hc,.slice vA vs.length vc,.slice rA rs.length rc] 26):=⟨_,rfl⟩
 have hb0:Below w.heap.size w w0:=by rw[hw0];exact below_new _ _
 have p0:Blk w0 w.heap.size 26 #[.int .i64 st,.int .i64 sym,.slice hA hood.length hc,.slice vA vs.length vc,.slice rA rs.length rc]:=by rw[hw0];exact Blk.new _ _ _
 obtain⟨gT,hgT⟩:∃ g,g=w.heap.size:=⟨_,rfl⟩
 rw[← hgT] at p0;have HC:=hid (ctS_any gT st iA ic inn w0 (p0.cell_ 0 (.int .i64 st) rfl) (hi.ext hb0));have HB0:=hid hb0;have HW0:=hid (And.intro hw0 hgT);obtain⟨r,hr⟩:∃ r,r=inn.any (badS st):=⟨_,rfl⟩
 have HE:Hid (statesB st inn = !r):=hid (by rw[hr];rfl);rw[← hr] at HC;clear hb0 p0 hw0 hgT hi hr;go_enter Tryz.func41,Tryz.ntmps41;go_upto_region 1 with fail
 rw[← HW0.out.1,← HW0.out.2];go_wp2_with (go_at_call 73;refine HC.out.mono ?_;rintro e w1 ⟨rfl,rfl⟩;refine Hid.out ?_);refine hid ?_;go_wp2;go_ret;exact⟨ret_bool HE.out.symm,HB0.out⟩
end Go.Proofs.YtcmbdhopmncmnaaGreatDoor
