/-
  texts Next15 Match15 GrowP: parts of the proof; conditions stand with each theorem.
-/
import Derived.Test.YtlegfdllipkggaaGreatDoorWDecide
import Derived.Test.YtlegfdllipkggaaGreatDoorWG11
import Derived.Test.YtlegfdllipkggaaGreatDoorWG6
namespace Go.Proofs.YtlegfdllipkggaaGreatDoor
open Lib(hid)
open Go.RowKit Go.Sort
set_option maxRecDepth 100000
set_option linter.unusedVariables false
set_option linter.unusedSimpArgs false
def rowD (t:TabL)(inn:List Int)(r:Rw):Int × Bool:=decideP t.sym t.hood t.vars r.1 r.2 inn
def firstD (t:TabL)(inn:List Int):List Rw→Option Int
 | []=>none
 | r :: l=>if (rowD t inn r).2=true then some (rowD t inn r).1 else firstD t inn l
def valT (t:TabL)(inn:List Int):Int:=match firstD t inn t.rows with
 | some s=>s
 | none=>if 0≤ctrP t.hood then inn.getD (ctrP t.hood).toNat 0 else 0
def nextT (t:TabL)(inn:List Int):Int × Int:=
 if rightTab t=false∨inn.length≠t.hood.length then (0,2) else if statesB t.st inn=false then (0,10) else (valT t inn,0)
def matchT (t:TabL)(row:Int)(inn:List Int):Int × Bool:=
 if rightTab t=false∨row < 0∨(t.rows.length:Int)≤row∨inn.length≠t.hood.length∨statesB t.st inn=false then (0,false) else rowD t inn (t.rows.getD row.toNat ([],0))
theorem rightTab_parts {t:TabL}(h:rightTab t=true):(2≤t.st∧t.st≤8)∧hoodB t.hood=true∧permP t.hood t.sym=true∧t.vars.length≤40∧t.rows.length≤400∧(∀ l ∈ t.vars,okVar t.st l=true)∧(∀ r ∈ t.rows,okRow t.st t.vars.length t.hood.length r=true):=by
 unfold rightTab headTab at h;simp only[Bool.and_eq_true,decide_eq_true_eq] at h;obtain⟨⟨⟨⟨⟨⟨⟨h1,h2⟩,h3⟩,h4⟩,h5⟩,h6⟩,h7⟩,h8⟩:=h;exact⟨⟨h1,h2⟩,h3,h4,h5,h6,fun l hl=>List.all_eq_true.1 h7 l hl,fun r hr=>List.all_eq_true.1 h8 r hr⟩
theorem elB_ok {st:Int}{nv:Nat}{e:Int}(hn:nv≤40)(h:elB st nv e=true):ElOk nv e:=by
 unfold elB at h;simp only[Bool.and_eq_true,decide_eq_true_eq] at h;exact⟨fun h0=>by omega,by omega⟩
theorem okRow_parts {st:Int}{nv nh:Nat}{r:Rw}(hn:nv≤40)(h:okRow st nv nh r=true):r.1.length=nh∧ElOk nv r.2∧∀ e ∈ r.1,ElOk nv e:=by
 unfold okRow at h;simp only[Bool.and_eq_true,decide_eq_true_eq] at h;obtain⟨⟨⟨h1,h2⟩,h3⟩,h4⟩:=h;exact⟨h1,elB_ok hn h2,fun e he=>elB_ok hn (List.all_eq_true.1 h4 e he)⟩
theorem decR_of {w:World}{hA vA rA:Option Addr}{t:TabH}{iA:Option Addr}{inn:List Int}(hT:TabR w hA vA rA t)(hG:GMat w)(hr:rightTab t.tab=true)(hi:Ints w iA inn)(hl:inn.length=t.hood.length){i:Nat}(h:i < t.rs.length):DecR w hA vA t t.rs[i].A t.rs[i].zs t.rs[i].out iA inn:=by
 obtain⟨h1,h2,h3,h4,h5,h6,h7⟩:=rightTab_parts hr;have hv:t.tab.vars.length=t.vs.length:=by unfold TabH.tab;simp
 rw[hv] at h4;have hm:t.rs[i].rw_ ∈ t.tab.rows:=by
  unfold TabH.tab;exact List.mem_map.2 ⟨t.rs[i],List.getElem_mem h,rfl⟩
 obtain⟨k1,k2,k3⟩:=okRow_parts (by rw[hv];exact h4) (h7 _ hm);rw[hv] at k2 k3;obtain⟨b,o,e,-,-,-,hz⟩:=hT.rows.at_ h;exact⟨hT.hood,h2,h3,hT.vars,h4,hG,hz,hi,k1,hl,k3,k2⟩
theorem idxF_lt15 {α:Type} [DecidableEq α] {p:α}:∀ (xs:List α)(k:Nat),idxF p k xs < 0∨(0≤idxF p k xs∧(idxF p k xs).toNat < k+xs.length)
 | [],k=>by simp[idxF]
 | x :: l,k=>by
  unfold idxF;by_cases h:x=p
  ·rw[if_pos h];right;constructor <;> simp
  ·rw[if_neg h];rcases idxF_lt15 l (k+1) with h1 | ⟨h1,h2⟩
   ·exact .inl h1
   ·refine .inr ⟨h1,?_⟩;rw[List.length_cons];omega
theorem ctr_lt15 (ps:List (Int × Int)):ctrP ps < 0∨(0≤ctrP ps∧(ctrP ps).toNat < ps.length):=by
 unfold ctrP
 split
 ·have:=idxF_lt15 (p:=((0,0):Int × Int)) ps 0;simpa using this
 ·exact .inl (by decide)
set_option maxHeartbeats 16000000 in
theorem next_any (hA:Option Addr)(hc:Nat)(vA:Option Addr)(vc:Nat)(rA:Option Addr)(rc:Nat)(t:TabH)(iA:Option Addr)(ic:Nat)(inn:List Int)(w:World)(hT:TabR w hA vA rA t)(hG:GMat w)(hi:Ints w iA inn)(hs:t.sym≠3∨PermOK) :
  Calls Tryz.prog 27 #[tabV hA hc vA vc rA rc t,.slice iA inn.length ic] w fun en w'=>en=.returned (.tuple #[.int .i64 (nextT t.tab inn).1,.int .i64 (nextT t.tab inn).2])∧Below w.heap.size w w':=by
 obtain⟨w0,hw0⟩:∃ w0,w0=w.alloc (.cells #[.int .i64 t.st,.int .i64 t.sym,.slice hA t.hood.length hc,.slice vA t.vs.length vc,.slice rA t.rs.length rc] 26):=⟨_,rfl⟩
 have hb0:Below w.heap.size w w0:=by rw[hw0];exact below_new _ _
 have p0:Blk w0 w.heap.size 26 #[.int .i64 t.st,.int .i64 t.sym,.slice hA t.hood.length hc,.slice vA t.vs.length vc,.slice rA t.rs.length rc]:=by rw[hw0];exact Blk.new _ _ _
 obtain⟨gT,hgT⟩:∃ g,g=w.heap.size:=⟨_,rfl⟩
 rw[← hgT] at p0;have hcr:=rright15_any hA hc vA vc rA rc t w0 (hT.ext hb0) (hG.ext hb0);have HST:Hid (∀ W,Below w0.heap.size w0 W→Calls Tryz.prog 50 #[tabV hA hc vA vc rA rc t,.slice iA inn.length ic] W fun e w'=>e=.returned (.bool (statesB t.st inn))∧Below W.heap.size W w'):=hid (fun W hW=>states_any hA hc vA vc rA rc t iA ic inn W ((hi.ext hb0).ext hW));have HDEC:Hid (rightTab t.tab=true→inn.length=t.hood.length→statesB t.st inn=true→∀ (i:Nat) (h:i < t.rs.length) (zc:Nat) (W:World),Below w0.heap.size w0 W→Calls Tryz.prog 51 #[tabV hA hc vA vc rA rc t,.agg #[.slice t.rs[i].A t.rs[i].zs.length t.rs[i].c,.int .i64 t.rs[i].out],.slice iA inn.length ic] W fun en w'=>en=.returned (.tuple #[.int .i64 (rowD t.tab inn t.rs[i].rw_).1,.bool (rowD t.tab inn t.rs[i].rw_).2])∧Below W.heap.size W w'):=hid (fun hr hl hst i h zc W hW=>
  decide_any hA hc vA vc rA rc t t.rs[i].A t.rs[i].c t.rs[i].zs t.rs[i].out iA ic inn W ((decR_of (hT.ext hb0) (hG.ext hb0) hr (hi.ext hb0) hl h).ext hW) (fun s hs'=>by have h1:=statesB_mem hst s hs';have h2:=(rightTab_parts hr).1.2;have h3:t.tab.st=t.st:=rfl;omega) hs)
 have HCT:Hid (∀ W,Below w0.heap.size w0 W→Calls Tryz.prog 42 #[.slice hA t.hood.length hc] W fun e w'=>e=.returned (.int .i64 (ctrP t.hood))∧Below W.heap.size W w'):=hid (fun W hW=>centre_any hA t.hood hc W ((hT.hood.ext hb0).ext hW));have HCL:=hid (ctr_lt15 t.hood);have HRW:=hid ((hT.ext hb0).rows);have HIN:=hid (hi.ext hb0);have HB0:=hid hb0;have HP:=hid p0;have HW0:=hid (And.intro hw0 hgT);have hi9:inn.length≤9223372036854775807:=hi.le;have hh9:t.hood.length≤9223372036854775807:=hT.hood.le;have hr9:t.rs.length≤9223372036854775807:=hT.rows.le;have htab:t.tab.hood=t.hood∧t.tab.st=t.st∧t.tab.rows=t.rs.map Rh.rw_:=⟨rfl,rfl,rfl⟩
 obtain⟨TL,hTL⟩:∃ x,x=t.tab:=⟨_,rfl⟩
 rw[← hTL] at htab hcr HDEC ⊢;have HTB:=hid htab;obtain⟨st,sym,hood,vs,rs⟩:=t;unfold tabV at hcr HST HDEC ⊢;dsimp only at hcr HST HDEC HCT HCL HRW HP HW0 HTB hh9 hr9 ⊢;have HCR:=hid hcr;obtain⟨n1,hn1⟩:∃ n,n=(nextT TL inn).1:=⟨_,rfl⟩
 obtain⟨n2,hn2⟩:∃ n,n=(nextT TL inn).2:=⟨_,rfl⟩
 rw[← hn1,← hn2];have HN:Hid (nextT TL inn=(n1,n2)):=hid (by rw[hn1,hn2]);have x0:=HP.out.cell_ 0 (.int .i64 st) rfl;have x1:=HP.out.cell_ 1 (.int .i64 sym) rfl;have x2:=HP.out.cell_ 2 (.slice hA hood.length hc) rfl;have x3:=HP.out.cell_ 3 (.slice vA vs.length vc) rfl;have x4:=HP.out.cell_ 4 (.slice rA rs.length rc) rfl;clear hb0 p0 hw0 hgT hT hG hi hs htab hTL hcr hn1 hn2;cases hrt:rightTab TL with
 | false=>
  have HE:Hid (n1=0∧n2=2):=hid (by
   have h:=HN.out;unfold nextT at h;rw[if_pos (Or.inl hrt)] at h;injection h with h1 h2
   exact⟨h1.symm,h2.symm⟩)
  rw[hrt] at HCR;clear hrt;go_enter Tryz.func27,Tryz.ntmps27;go_upto_region 1 with fail
  rw[← HW0.out.1,← HW0.out.2];go_wp2_with (go_at_call 24;refine HCR.out.mono ?_;rintro e w1 ⟨rfl,hb1⟩;refine Hid.out ?_);refine hid ?_;have HB1:=hid hb1;have HP1:=hid (HP.out.below hb1 HP.out.lt);clear hb1 x0 x1 x2 x3 x4;have x0:=HP1.out.cell_ 0 (.int .i64 st) rfl;have x1:=HP1.out.cell_ 1 (.int .i64 sym) rfl;have x2:=HP1.out.cell_ 2 (.slice hA hood.length hc) rfl;have x3:=HP1.out.cell_ 3 (.slice vA vs.length vc) rfl;have x4:=HP1.out.cell_ 4 (.slice rA rs.length rc) rfl;go_wp2;go_ret2;exact⟨(by first | (rw[HE.out.1,HE.out.2];done) | (rw[HE.out.1,HE.out.2];rfl)),HB0.out.trans (HB1.out.mono HB0.out.size)⟩
 | true=>
 have HRT:=hid hrt;rw[hrt] at HCR;clear hrt;by_cases hl:inn.length=hood.length
 case neg=>
  have d1:((inn.length:Int) != (hood.length:Int))=true:=by simp;omega
  have d1':(inn.length != hood.length)=true:=by simp[hl]
  have HE:Hid (n1=0∧n2=2):=hid (by
   have h:=HN.out;unfold nextT at h;rw[if_pos (Or.inr (by rw[HTB.out.1];exact hl))] at h;injection h with h1 h2
   exact⟨h1.symm,h2.symm⟩)
  clear hl;go_enter Tryz.func27,Tryz.ntmps27;go_upto_region 1 with fail
  rw[← HW0.out.1,← HW0.out.2];go_wp2_with (go_at_call 24;refine HCR.out.mono ?_;rintro e w1 ⟨rfl,hb1⟩;refine Hid.out ?_);refine hid ?_;have HB1:=hid hb1;have HP1:=hid (HP.out.below hb1 HP.out.lt);clear hb1 x0 x1 x2 x3 x4;have x0:=HP1.out.cell_ 0 (.int .i64 st) rfl;have x1:=HP1.out.cell_ 1 (.int .i64 sym) rfl;have x2:=HP1.out.cell_ 2 (.slice hA hood.length hc) rfl;have x3:=HP1.out.cell_ 3 (.slice vA vs.length vc) rfl;have x4:=HP1.out.cell_ 4 (.slice rA rs.length rc) rfl;go_wp2;go_ret2;exact⟨(by first | (rw[HE.out.1,HE.out.2];done) | (rw[HE.out.1,HE.out.2];rfl)),HB0.out.trans (HB1.out.mono HB0.out.size)⟩
 case pos=>
 have d1:((inn.length:Int) != (hood.length:Int))=false:=by simp[hl]
 have d1':(inn.length != hood.length)=false:=by simp[hl]
 have HL:=hid hl;clear hl;cases hss:statesB st inn with
 | false=>
  have HE:Hid (n1=0∧n2=10):=hid (by
   have h:=HN.out;unfold nextT at h;rw[if_neg (by rintro (h | h);rw[HRT.out] at h;cases h;exact h (by rw[HTB.out.1];exact HL.out)),if_pos (by rw[HTB.out.2.1];exact hss)] at h;injection h with h1 h2
   exact⟨h1.symm,h2.symm⟩)
  rw[hss] at HST;clear hss;go_enter Tryz.func27,Tryz.ntmps27;go_upto_region 1 with fail
  rw[← HW0.out.1,← HW0.out.2];go_wp2_with (go_at_call 24;refine HCR.out.mono ?_;rintro e w1 ⟨rfl,hb1⟩;refine Hid.out ?_);refine hid ?_;have HB1:=hid hb1;have HP1:=hid (HP.out.below hb1 HP.out.lt);clear hb1 x0 x1 x2 x3 x4;have x0:=HP1.out.cell_ 0 (.int .i64 st) rfl;have x1:=HP1.out.cell_ 1 (.int .i64 sym) rfl;have x2:=HP1.out.cell_ 2 (.slice hA hood.length hc) rfl;have x3:=HP1.out.cell_ 3 (.slice vA vs.length vc) rfl;have x4:=HP1.out.cell_ 4 (.slice rA rs.length rc) rfl;have HCQ:=hid (HST.out w1 HB1.out);go_wp2_with (go_at_call 50;refine HCQ.out.mono ?_;rintro e w2 ⟨rfl,hb2⟩;refine Hid.out ?_);refine hid ?_;have HB2:=hid (HB1.out.trans (hb2.mono HB1.out.size));have HP2:=hid (HP.out.below HB2.out HP.out.lt);clear hb2 x0 x1 x2 x3 x4;have x0:=HP2.out.cell_ 0 (.int .i64 st) rfl;have x1:=HP2.out.cell_ 1 (.int .i64 sym) rfl;have x2:=HP2.out.cell_ 2 (.slice hA hood.length hc) rfl;have x3:=HP2.out.cell_ 3 (.slice vA vs.length vc) rfl;have x4:=HP2.out.cell_ 4 (.slice rA rs.length rc) rfl;go_wp2;go_ret2;exact⟨(by first | (rw[HE.out.1,HE.out.2];done) | (rw[HE.out.1,HE.out.2];rfl)),HB0.out.trans (HB2.out.mono HB0.out.size)⟩
 | true=>
 have HSS:=hid hss;rw[hss] at HST;have HE:Hid (n1=valT TL inn∧n2=0):=hid (by
  have h:=HN.out;unfold nextT at h;rw[if_neg (by rintro (h | h);rw[HRT.out] at h;cases h;exact h (by rw[HTB.out.1];exact HL.out)),if_neg (by rw[HTB.out.2.1,hss];simp)] at h;injection h with h1 h2
  exact⟨h1.symm,h2.symm⟩)
 clear hss;have HD2:=hid (HDEC.out HRT.out HL.out HSS.out);clear HDEC;go_enter Tryz.func27,Tryz.ntmps27;go_upto_region 1 with fail
 rw[← HW0.out.1,← HW0.out.2];go_wp2_with (go_at_call 24;refine HCR.out.mono ?_;rintro e w1 ⟨rfl,hb1⟩;refine Hid.out ?_);refine hid ?_;have HB1:=hid hb1;have HP1:=hid (HP.out.below hb1 HP.out.lt);clear hb1 x0 x1 x2 x3 x4;have x0:=HP1.out.cell_ 0 (.int .i64 st) rfl;have x1:=HP1.out.cell_ 1 (.int .i64 sym) rfl;have x2:=HP1.out.cell_ 2 (.slice hA hood.length hc) rfl;have x3:=HP1.out.cell_ 3 (.slice vA vs.length vc) rfl;have x4:=HP1.out.cell_ 4 (.slice rA rs.length rc) rfl;have HCQ:=hid (HST.out w1 HB1.out);go_wp2_with (go_at_call 50;refine HCQ.out.mono ?_;rintro e w2 ⟨rfl,hb2⟩;refine Hid.out ?_);refine hid ?_;have HB2:=hid (HB1.out.trans (hb2.mono HB1.out.size));have HP2:=hid (HP.out.below HB2.out HP.out.lt);clear hb2 x0 x1 x2 x3 x4;have x0:=HP2.out.cell_ 0 (.int .i64 st) rfl;have x1:=HP2.out.cell_ 1 (.int .i64 sym) rfl;have x2:=HP2.out.cell_ 2 (.slice hA hood.length hc) rfl;have x3:=HP2.out.cell_ 3 (.slice vA vs.length vc) rfl;have x4:=HP2.out.cell_ 4 (.slice rA rs.length rc) rfl;go_upto_region 6 with fail
 clear x0 x1 x2 x3 x4 d1 d1';have HBE:=hid (HB0.out.trans (HB2.out.mono HB0.out.size));clear HB1;go_loopw [29] (fun iv wr=>∃ i:Nat,i≤rs.length∧iv=.int .i64 i∧Hid (Below w0.heap.size w0 wr)∧Hid (firstD TL inn TL.rows=firstD TL inn ((rs.drop i).map Rh.rw_))) (fun iv _=>rs.length - (intOf iv).toNat)
 case atStart=>exact⟨0,Nat.zero_le _,rfl,HB2,hid (by rw[HTB.out.2.2];rfl)⟩
 case round=>
  obtain⟨i,hi,rfl,HBW,HD⟩:=hrel;by_cases hil:i < rs.length
  ·obtain⟨rb,ro,ea,-,hca,hda,hia⟩:=(HRW.out.ext HBW.out).at_ hil;have hAD:firstD TL inn TL.rows=if (rowD TL inn rs[i].rw_).2=true then some (rowD TL inn rs[i].rw_).1 else firstD TL inn ((rs.drop (i+1)).map Rh.rw_):=by
    rw[HD.out,List.drop_eq_getElem_cons hil];rfl
   have HDI:=hid (HD2.out i hil 0);obtain⟨xh,hxh⟩:∃ z,z=rs[i]:=⟨_,rfl⟩
   rw[← hxh] at hca hda hia hAD HDI;obtain⟨xA,xc,zs,out⟩:=xh;obtain⟨rd,hrd⟩:∃ r,r=rowD TL inn (Rh.rw_ ⟨xA,xc,zs,out⟩):=⟨_,rfl⟩
   rw[← hrd] at hAD HDI;obtain⟨r1,r2⟩:=rd;dsimp only at hca hda hia hAD ea HDI;have HAD:=hid hAD;have HI:=hid hil;have hwi:wrap64 ((i:Int)+1)=(i:Int)+1:=by unfold wrap64;omega
   have HWI:=hid hwi;obtain⟨wb,hwb⟩:∃ W,W=wr.alloc (.cells #[.slice xA zs.length xc,.int .i64 out] 43):=⟨_,rfl⟩
   have hbb:Below wr.heap.size wr wb:=by rw[hwb];exact below_new _ _
   obtain⟨gR,hgR⟩:∃ g,g=wr.heap.size:=⟨_,rfl⟩
   have HRB:Hid (Blk wb gR 43 #[.slice xA zs.length xc,.int .i64 out]):=hid (by rw[hgR,hwb];exact Blk.new _ _ _);have HBB:=hid (HBW.out.trans (hbb.mono HBW.out.size));have HWB:=hid (And.intro hwb hgR);have HPB:=hid (HP.out.below HBB.out HP.out.lt);have HDW:=hid (HDI.out wb HBB.out);have r0:=HRB.out.cell_ 0 (.slice xA zs.length xc) rfl;have r1':=HRB.out.cell_ 1 (.int .i64 out) rfl;subst ea;have x0:=HPB.out.cell_ 0 (.int .i64 st) rfl;have x1:=HPB.out.cell_ 1 (.int .i64 sym) rfl;have x2:=HPB.out.cell_ 2 (.slice hA hood.length hc) rfl;have x3:=HPB.out.cell_ 3 (.slice vA vs.length vc) rfl;have x4:=HPB.out.cell_ 4 (.slice (some ⟨rb,ro,none⟩) rs.length rc) rfl;clear hAD hxh hia hi hwi hwb hgR hbb hrd;go_upto_region 8 with fail
   rw[← HWB.out.1,← HWB.out.2];clear hca hda;go_wp2_with (go_at_call 51;refine HDW.out.mono ?_;rintro e w5 ⟨rfl,hb5⟩;refine Hid.out ?_);refine hid ?_;have HB5:=hid (HBB.out.trans (hb5.mono HBB.out.size));clear hb5 x0 x1 x2 x3 x4 r0 r1';cases r2 with
   | true=>
    have HF:Hid (n1=r1):=hid (by rw[HE.out.1];unfold valT;rw[HAD.out];rfl);go_wp2;go_ret2;exact⟨(by first | (rw[HF.out,HE.out.2];done) | (rw[HF.out,HE.out.2];rfl)),HB0.out.trans (HB5.out.mono HB0.out.size)⟩
   | false=>
    have HS2:Hid (firstD TL inn TL.rows=firstD TL inn ((rs.drop (i+1)).map Rh.rw_)):=hid (by rw[HAD.out];rfl);go_wp2;go_roundw
    case rel=>exact⟨i+1,HI.out,(by first | rfl | (rw[HWI.out];rfl)),HB5,HS2⟩
    case measure=>(try rw[HWI.out]);exact meas_step HI.out
  ·obtain rfl:i=rs.length:=Nat.le_antisymm hi (Nat.le_of_not_lt hil);have HVT:Hid (n1=if 0≤ctrP hood then inn.getD (ctrP hood).toNat 0 else 0):=hid (by
    rw[HE.out.1];unfold valT;rw[HD.out,List.drop_length,← HTB.out.1];rfl)
   have HCC:=hid (HCT.out wr HBW.out);have c2:=(HP.out.below HBW.out HP.out.lt).cell_ 2 (.slice hA hood.length hc) rfl;obtain⟨cv,hcv⟩:∃ c,c=ctrP hood:=⟨_,rfl⟩
   rw[← hcv] at HVT HCC HCL;clear hi hil hcv;go_wp2_with (go_at_call 42;refine HCC.out.mono ?_;rintro e w5 ⟨rfl,hb5⟩;refine Hid.out ?_);refine hid ?_;have HB5:=hid (HBW.out.trans (hb5.mono HBW.out.size));clear hb5 c2;by_cases hcn:0≤cv
   ·have dc:decide (0≤cv)=true:=decide_eq_true hcn;obtain⟨cn,hcc⟩:∃ cn:Nat,cv=(cn:Int):=⟨cv.toNat,by omega⟩
    subst hcc;have hcl:cn < inn.length:=by
     rcases HCL.out with h | ⟨-,h⟩
     ·omega
     ·rw[Int.toNat_natCast] at h;have:=HL.out;omega
    obtain⟨ib,io,ei,-,xz⟩:=(HIN.out.ext HB5.out).at_ hcl;obtain⟨z,hz⟩:∃ z,z=inn[cn]:=⟨_,rfl⟩
    rw[← hz] at xz;have HZ:Hid (n1=z):=hid (by rw[HVT.out,if_pos hcn,Int.toNat_natCast,hz,List.getD_eq_getElem?_getD,List.getElem?_eq_getElem hcl];rfl);subst ei;clear hz hcn;go_wp2;go_ret2;exact⟨(by first | (rw[HZ.out,HE.out.2];done) | (rw[HZ.out,HE.out.2];rfl)),HB0.out.trans (HB5.out.mono HB0.out.size)⟩
   ·have dc:decide (0≤cv)=false:=decide_eq_false hcn;have HZ:Hid (n1=0):=hid (by rw[HVT.out,if_neg hcn]);clear hcn;go_wp2;go_ret2;exact⟨(by first | (rw[HZ.out,HE.out.2];done) | (rw[HZ.out,HE.out.2];rfl)),HB0.out.trans (HB5.out.mono HB0.out.size)⟩
set_option maxHeartbeats 16000000 in
theorem match_any (hA:Option Addr)(hc:Nat)(vA:Option Addr)(vc:Nat)(rA:Option Addr)(rc:Nat)(t:TabH)(row:Int)(iA:Option Addr)(ic:Nat)(inn:List Int)(w:World)(hT:TabR w hA vA rA t)(hG:GMat w)(hi:Ints w iA inn)(hs:t.sym≠3∨PermOK) :
  Calls Tryz.prog 30 #[tabV hA hc vA vc rA rc t,.int .i64 row,.slice iA inn.length ic] w fun en w'=>en=.returned (.tuple #[.int .i64 (matchT t.tab row inn).1,.bool (matchT t.tab row inn).2])∧Below w.heap.size w w':=by
 obtain⟨w0,hw0⟩:∃ w0,w0=w.alloc (.cells #[.int .i64 t.st,.int .i64 t.sym,.slice hA t.hood.length hc,.slice vA t.vs.length vc,.slice rA t.rs.length rc] 26):=⟨_,rfl⟩
 have hb0:Below w.heap.size w w0:=by rw[hw0];exact below_new _ _
 have p0:Blk w0 w.heap.size 26 #[.int .i64 t.st,.int .i64 t.sym,.slice hA t.hood.length hc,.slice vA t.vs.length vc,.slice rA t.rs.length rc]:=by rw[hw0];exact Blk.new _ _ _
 obtain⟨gT,hgT⟩:∃ g,g=w.heap.size:=⟨_,rfl⟩
 rw[← hgT] at p0;have hcr:=rright15_any hA hc vA vc rA rc t w0 (hT.ext hb0) (hG.ext hb0);have HST:Hid (∀ W,Below w0.heap.size w0 W→Calls Tryz.prog 50 #[tabV hA hc vA vc rA rc t,.slice iA inn.length ic] W fun e w'=>e=.returned (.bool (statesB t.st inn))∧Below W.heap.size W w'):=hid (fun W hW=>states_any hA hc vA vc rA rc t iA ic inn W ((hi.ext hb0).ext hW));have HDEC:Hid (rightTab t.tab=true→inn.length=t.hood.length→statesB t.st inn=true→∀ (i:Nat) (h:i < t.rs.length) (W:World),Below w0.heap.size w0 W→Calls Tryz.prog 51 #[tabV hA hc vA vc rA rc t,.agg #[.slice t.rs[i].A t.rs[i].zs.length t.rs[i].c,.int .i64 t.rs[i].out],.slice iA inn.length ic] W fun en w'=>en=.returned (.tuple #[.int .i64 (rowD t.tab inn t.rs[i].rw_).1,.bool (rowD t.tab inn t.rs[i].rw_).2])∧Below W.heap.size W w'):=hid (fun hr hl hst i h W hW=>
  decide_any hA hc vA vc rA rc t t.rs[i].A t.rs[i].c t.rs[i].zs t.rs[i].out iA ic inn W ((decR_of (hT.ext hb0) (hG.ext hb0) hr (hi.ext hb0) hl h).ext hW) (fun s hs'=>by have h1:=statesB_mem hst s hs';have h2:=(rightTab_parts hr).1.2;have h3:t.tab.st=t.st:=rfl;omega) hs)
 have HRW:=hid ((hT.ext hb0).rows);have HB0:=hid hb0;have HP:=hid p0;have HW0:=hid (And.intro hw0 hgT);have hi9:inn.length≤9223372036854775807:=hi.le;have hh9:t.hood.length≤9223372036854775807:=hT.hood.le;have hr9:t.rs.length≤9223372036854775807:=hT.rows.le;have htab:t.tab.hood=t.hood∧t.tab.st=t.st∧t.tab.rows=t.rs.map Rh.rw_:=⟨rfl,rfl,rfl⟩
 obtain⟨TL,hTL⟩:∃ x,x=t.tab:=⟨_,rfl⟩
 rw[← hTL] at htab hcr HDEC ⊢;have HTB:=hid htab;obtain⟨st,sym,hood,vs,rs⟩:=t;unfold tabV at hcr HST HDEC ⊢;dsimp only at hcr HST HDEC HRW HP HW0 HTB hh9 hr9 ⊢;have HCR:=hid hcr;obtain⟨n1,hn1⟩:∃ n,n=(matchT TL row inn).1:=⟨_,rfl⟩
 obtain⟨n2,hn2⟩:∃ n,n=(matchT TL row inn).2:=⟨_,rfl⟩
 rw[← hn1,← hn2];have HN:Hid (matchT TL row inn=(n1,n2)):=hid (by rw[hn1,hn2]);have HNO:Hid ((rightTab TL=false∨row < 0∨(TL.rows.length:Int)≤row∨inn.length≠TL.hood.length∨statesB TL.st inn=false)→n1=0∧n2=false):=hid (fun hc=>by
  have h:=HN.out;unfold matchT at h;rw[if_pos hc] at h;injection h with h1 h2
  exact⟨h1.symm,h2.symm⟩)
 have x0:=HP.out.cell_ 0 (.int .i64 st) rfl;have x1:=HP.out.cell_ 1 (.int .i64 sym) rfl;have x2:=HP.out.cell_ 2 (.slice hA hood.length hc) rfl;have x3:=HP.out.cell_ 3 (.slice vA vs.length vc) rfl;have x4:=HP.out.cell_ 4 (.slice rA rs.length rc) rfl;clear hb0 p0 hw0 hgT hT hG hi hs htab hTL hcr hn1 hn2;cases hrt:rightTab TL with
 | false=>
  have HE:=hid (HNO.out (Or.inl hrt));rw[hrt] at HCR;clear hrt;go_enter Tryz.func30,Tryz.ntmps30;go_upto_region 1 with fail
  rw[← HW0.out.1,← HW0.out.2];go_wp2_with (go_at_call 24;refine HCR.out.mono ?_;rintro e w1 ⟨rfl,hb1⟩;refine Hid.out ?_);refine hid ?_;have HB1:=hid hb1;have HP1:=hid (HP.out.below hb1 HP.out.lt);clear hb1 x0 x1 x2 x3 x4;have x0:=HP1.out.cell_ 0 (.int .i64 st) rfl;have x1:=HP1.out.cell_ 1 (.int .i64 sym) rfl;have x2:=HP1.out.cell_ 2 (.slice hA hood.length hc) rfl;have x3:=HP1.out.cell_ 3 (.slice vA vs.length vc) rfl;have x4:=HP1.out.cell_ 4 (.slice rA rs.length rc) rfl;go_wp2;go_ret2;exact⟨(by first | (rw[HE.out.1,HE.out.2];done) | (rw[HE.out.1,HE.out.2];rfl)),HB0.out.trans (HB1.out.mono HB0.out.size)⟩
 | true=>
 have HRT:=hid hrt;rw[hrt] at HCR;clear hrt;by_cases hr0:row < 0
 case pos=>
  have d0:decide (row < 0)=true:=decide_eq_true hr0;have HE:=hid (HNO.out (.inr (.inl hr0)));clear hr0;go_enter Tryz.func30,Tryz.ntmps30;go_upto_region 1 with fail
  rw[← HW0.out.1,← HW0.out.2];go_wp2_with (go_at_call 24;refine HCR.out.mono ?_;rintro e w1 ⟨rfl,hb1⟩;refine Hid.out ?_);refine hid ?_;have HB1:=hid hb1;have HP1:=hid (HP.out.below hb1 HP.out.lt);clear hb1 x0 x1 x2 x3 x4;have x0:=HP1.out.cell_ 0 (.int .i64 st) rfl;have x1:=HP1.out.cell_ 1 (.int .i64 sym) rfl;have x2:=HP1.out.cell_ 2 (.slice hA hood.length hc) rfl;have x3:=HP1.out.cell_ 3 (.slice vA vs.length vc) rfl;have x4:=HP1.out.cell_ 4 (.slice rA rs.length rc) rfl;go_wp2;go_ret2;exact⟨(by first | (rw[HE.out.1,HE.out.2];done) | (rw[HE.out.1,HE.out.2];rfl)),HB0.out.trans (HB1.out.mono HB0.out.size)⟩
 case neg=>
 have d0:decide (row < 0)=false:=decide_eq_false hr0;obtain⟨i,hri⟩:∃ i:Nat,row=(i:Int):=⟨row.toNat,by omega⟩
 subst hri;clear hr0;by_cases hr1:rs.length≤i
 case pos=>
  have d5:decide ((rs.length:Int)≤(i:Int))=true:=decide_eq_true (by omega);have d5':decide (rs.length≤i)=true:=decide_eq_true hr1;have HE:=hid (HNO.out (.inr (.inr (.inl (by rw[HTB.out.2.2,List.length_map];omega)))));clear hr1;go_enter Tryz.func30,Tryz.ntmps30;go_upto_region 1 with fail
  rw[← HW0.out.1,← HW0.out.2];go_wp2_with (go_at_call 24;refine HCR.out.mono ?_;rintro e w1 ⟨rfl,hb1⟩;refine Hid.out ?_);refine hid ?_;have HB1:=hid hb1;have HP1:=hid (HP.out.below hb1 HP.out.lt);clear hb1 x0 x1 x2 x3 x4;have x0:=HP1.out.cell_ 0 (.int .i64 st) rfl;have x1:=HP1.out.cell_ 1 (.int .i64 sym) rfl;have x2:=HP1.out.cell_ 2 (.slice hA hood.length hc) rfl;have x3:=HP1.out.cell_ 3 (.slice vA vs.length vc) rfl;have x4:=HP1.out.cell_ 4 (.slice rA rs.length rc) rfl;go_wp2;go_ret2;exact⟨(by first | (rw[HE.out.1,HE.out.2];done) | (rw[HE.out.1,HE.out.2];rfl)),HB0.out.trans (HB1.out.mono HB0.out.size)⟩
 case neg=>
 have d5:decide ((rs.length:Int)≤(i:Int))=false:=decide_eq_false (by omega);have d5':decide (rs.length≤i)=false:=decide_eq_false hr1;have hil:i < rs.length:=by omega
 clear hr1;by_cases hl:inn.length=hood.length
 case neg=>
  have d1:((inn.length:Int) != (hood.length:Int))=true:=by simp;omega
  have d1':(inn.length != hood.length)=true:=by simp[hl]
  have HE:=hid (HNO.out (.inr (.inr (.inr (.inl (by rw[HTB.out.1];exact hl))))));clear hl;go_enter Tryz.func30,Tryz.ntmps30;go_upto_region 1 with fail
  rw[← HW0.out.1,← HW0.out.2];go_wp2_with (go_at_call 24;refine HCR.out.mono ?_;rintro e w1 ⟨rfl,hb1⟩;refine Hid.out ?_);refine hid ?_;have HB1:=hid hb1;have HP1:=hid (HP.out.below hb1 HP.out.lt);clear hb1 x0 x1 x2 x3 x4;have x0:=HP1.out.cell_ 0 (.int .i64 st) rfl;have x1:=HP1.out.cell_ 1 (.int .i64 sym) rfl;have x2:=HP1.out.cell_ 2 (.slice hA hood.length hc) rfl;have x3:=HP1.out.cell_ 3 (.slice vA vs.length vc) rfl;have x4:=HP1.out.cell_ 4 (.slice rA rs.length rc) rfl;go_wp2;go_ret2;exact⟨(by first | (rw[HE.out.1,HE.out.2];done) | (rw[HE.out.1,HE.out.2];rfl)),HB0.out.trans (HB1.out.mono HB0.out.size)⟩
 case pos=>
 have d1:((inn.length:Int) != (hood.length:Int))=false:=by simp[hl]
 have d1':(inn.length != hood.length)=false:=by simp[hl]
 have HL:=hid hl;clear hl;cases hss:statesB st inn with
 | false=>
  have HE:=hid (HNO.out (.inr (.inr (.inr (.inr (by rw[HTB.out.2.1];exact hss))))));rw[hss] at HST;clear hss;go_enter Tryz.func30,Tryz.ntmps30;go_upto_region 1 with fail
  rw[← HW0.out.1,← HW0.out.2];go_wp2_with (go_at_call 24;refine HCR.out.mono ?_;rintro e w1 ⟨rfl,hb1⟩;refine Hid.out ?_);refine hid ?_;have HB1:=hid hb1;have HP1:=hid (HP.out.below hb1 HP.out.lt);clear hb1 x0 x1 x2 x3 x4;have x0:=HP1.out.cell_ 0 (.int .i64 st) rfl;have x1:=HP1.out.cell_ 1 (.int .i64 sym) rfl;have x2:=HP1.out.cell_ 2 (.slice hA hood.length hc) rfl;have x3:=HP1.out.cell_ 3 (.slice vA vs.length vc) rfl;have x4:=HP1.out.cell_ 4 (.slice rA rs.length rc) rfl;have HCQ:=hid (HST.out w1 HB1.out);go_wp2_with (go_at_call 50;refine HCQ.out.mono ?_;rintro e w2 ⟨rfl,hb2⟩;refine Hid.out ?_);refine hid ?_;have HB2:=hid (HB1.out.trans (hb2.mono HB1.out.size));have HP2:=hid (HP.out.below HB2.out HP.out.lt);clear hb2 x0 x1 x2 x3 x4;have x0:=HP2.out.cell_ 0 (.int .i64 st) rfl;have x1:=HP2.out.cell_ 1 (.int .i64 sym) rfl;have x2:=HP2.out.cell_ 2 (.slice hA hood.length hc) rfl;have x3:=HP2.out.cell_ 3 (.slice vA vs.length vc) rfl;have x4:=HP2.out.cell_ 4 (.slice rA rs.length rc) rfl;go_wp2;go_ret2;exact⟨(by first | (rw[HE.out.1,HE.out.2];done) | (rw[HE.out.1,HE.out.2];rfl)),HB0.out.trans (HB2.out.mono HB0.out.size)⟩
 | true=>
 have HSS:=hid hss;rw[hss] at HST;have hgr:TL.rows.getD i ([],0)=rs[i].rw_:=by rw[HTB.out.2.2,List.getD_eq_getElem?_getD,List.getElem?_map,List.getElem?_eq_getElem hil];rfl
 have HE:Hid ((n1,n2)=rowD TL inn rs[i].rw_):=hid (by
  have h:=HN.out;unfold matchT at h;rw[if_neg (by
   rintro (h | h | h | h | h)
   ·rw[HRT.out] at h;cases h
   ·omega
   ·rw[HTB.out.2.2,List.length_map] at h;have:=hil;omega
   ·exact h (by rw[HTB.out.1];exact HL.out)
   ·rw[HTB.out.2.1,HSS.out] at h;cases h),Int.toNat_natCast,hgr] at h
  exact h.symm)
 have HDI:=hid (HDEC.out HRT.out HL.out HSS.out i hil);clear hss HDEC hgr;go_enter Tryz.func30,Tryz.ntmps30;go_upto_region 1 with fail
 rw[← HW0.out.1,← HW0.out.2];go_wp2_with (go_at_call 24;refine HCR.out.mono ?_;rintro e w1 ⟨rfl,hb1⟩;refine Hid.out ?_);refine hid ?_;have HB1:=hid hb1;have HP1:=hid (HP.out.below hb1 HP.out.lt);clear hb1 x0 x1 x2 x3 x4;have x0:=HP1.out.cell_ 0 (.int .i64 st) rfl;have x1:=HP1.out.cell_ 1 (.int .i64 sym) rfl;have x2:=HP1.out.cell_ 2 (.slice hA hood.length hc) rfl;have x3:=HP1.out.cell_ 3 (.slice vA vs.length vc) rfl;have x4:=HP1.out.cell_ 4 (.slice rA rs.length rc) rfl;have HCQ:=hid (HST.out w1 HB1.out);go_wp2_with (go_at_call 50;refine HCQ.out.mono ?_;rintro e w2 ⟨rfl,hb2⟩;refine Hid.out ?_);refine hid ?_;have HB2:=hid (HB1.out.trans (hb2.mono HB1.out.size));have HP2:=hid (HP.out.below HB2.out HP.out.lt);clear hb2 x0 x1 x2 x3 x4;have x0:=HP2.out.cell_ 0 (.int .i64 st) rfl;have x1:=HP2.out.cell_ 1 (.int .i64 sym) rfl;have x2:=HP2.out.cell_ 2 (.slice hA hood.length hc) rfl;have x3:=HP2.out.cell_ 3 (.slice vA vs.length vc) rfl;have x4:=HP2.out.cell_ 4 (.slice rA rs.length rc) rfl;clear x0 x1 x2 x3 x4;have HRW2:=hid (HRW.out.ext HB2.out);obtain⟨rb,ro,ea,-,hca,hda,-⟩:=HRW2.out.at_ hil;obtain⟨xh,hxh⟩:∃ z,z=rs[i]:=⟨_,rfl⟩
 rw[← hxh] at hca hda HE HDI;obtain⟨xA,xc,zs,out⟩:=xh;obtain⟨rd,hrd⟩:∃ r,r=rowD TL inn (Rh.rw_ ⟨xA,xc,zs,out⟩):=⟨_,rfl⟩
 rw[← hrd] at HE HDI;obtain⟨r1,r2⟩:=rd;dsimp only at hca hda ea HDI;obtain⟨rfl,rfl⟩:n1=r1∧n2=r2:=by have h:=HE.out;injection h with h1 h2;exact⟨h1,h2⟩
 subst ea;have x0:=HP2.out.cell_ 0 (.int .i64 st) rfl;have x1:=HP2.out.cell_ 1 (.int .i64 sym) rfl;have x2:=HP2.out.cell_ 2 (.slice hA hood.length hc) rfl;have x3:=HP2.out.cell_ 3 (.slice vA vs.length vc) rfl;have x4:=HP2.out.cell_ 4 (.slice (some ⟨rb,ro,none⟩) rs.length rc) rfl;have j0:=cell_regrown x0;have j1:=cell_regrown x1;have j2:=cell_regrown x2;have j3:=cell_regrown x3;have j4:=cell_regrown x4;have j5:=cell_regrown hca;have j6:=cell_regrown hda;have CD:=hid (fun d os=>Calls.regrown_of (HDI.out _ (HB2.out.trans ((below_regrown w2 d os).mono HB2.out.size))));have HBE:=hid (HB0.out.trans (HB2.out.mono HB0.out.size));have HB3:=hid (HB0.out.trans (HB2.out.mono HB0.out.size));clear x0 x1 x2 x3 x4 hca hda hrd hxh HDI;go_upto_region 3 with fail
 refine wp_region_quiet_below (by kernel_rfl) (by kernel_rfl) ?_;repeat (go_big_quiet_step (first | with_reducible exact CD.out _ _))
 refine wpQuiet_nil ?_;intro _ hw';obtain⟨⟨dq,osq⟩,hw''⟩:=hw';subst hw'';go_wp2;go_ret2;exact⟨rfl,HB3.out.trans ((below_regrown w2 dq osq).mono HB3.out.size)⟩
end Go.Proofs.YtlegfdllipkggaaGreatDoor
namespace Go.Proofs.YtlegfdllipkggaaGreatDoor
set_option linter.unusedVariables false
set_option linter.unusedSimpArgs false
def growK (r:List Nat→List Nd→Int × List Nd)(ins:List Nat):Nat→List Nd→List Int × List Nd
 | 0,ns=>([],ns)
 | j+1,ns=>((growK r ins j ns).1 ++ [(r (ins ++ [j]) (growK r ins j ns).2).1],(r (ins ++ [j]) (growK r ins j ns).2).2)
def growP (q:Nat)(f:List Nat→Int):Nat→List Nat→List Nd→Int × List Nd
 | 0,ins,ns=>(f ins,ns)
 | L+1,ins,ns=>(((addN (growK (growP q f L) ins q ns).2 (((L+1:Nat):Int),(growK (growP q f L) ins q ns).1)).1:Int),(addN (growK (growP q f L) ins q ns).2 (((L+1:Nat):Int),(growK (growP q f L) ins q ns).1)).2)
structure GOk (q:Nat)(f:List Nat→Int)(n:Nat)(ins:List Nat)(ns:List Nd)(r:Int × List Nd):Prop where
 nv:NV q r.2
 vis:Vis q n ns r.1 r.2
 lead:∀ l:List Nat,l.length=n→(∀ t ∈ l,t < q)→val r.2 r.1 l=f (ins ++ l)
 sz:r.2.length≤ns.length+cap q n
structure GKOk (q:Nat)(f:List Nat→Int)(n:Nat)(ins:List Nat)(j:Nat)(ns:List Nd)(a:List Int × List Nd):Prop where
 nv:NV q a.2
 ch:Chain (Vis q n) ns a.1 a.2
 len:a.1.length=j
 lead:∀ i,i < j→∀ l:List Nat,l.length=n→(∀ t ∈ l,t < q)→val a.2 (a.1.getD i 0) l=f (ins ++ [i] ++ l)
 sz:a.2.length≤ns.length+j*cap q n
theorem GKOk.zero {q:Nat}{f:List Nat→Int}{n:Nat}{ins:List Nat}{ns:List Nd}(h:NV q ns):GKOk q f n ins 0 ns ([],ns):=
 ⟨h,rfl,rfl,fun i hi=>absurd hi (by omega),by simp⟩
theorem GKOk.succ {q:Nat}{f:List Nat→Int}{n:Nat}{ins:List Nat}{j:Nat}{ns:List Nd}{a:List Int × List Nd}(hb:NV q ns)(h:GKOk q f n ins j ns a){r:Int × List Nd}(hr:GOk q f n (ins ++ [j]) a.2 r):GKOk q f n ins (j+1) ns (a.1 ++ [r.1],r.2):=by
 have hv:=vis_ok n _ _ _ h.nv hr.vis;obtain⟨ys,ey,-⟩:=hv.g;have hc:=chain_ok (fun a b d e f=>vis_ok n a b d e f) _ _ _ hb h.ch;refine⟨hr.nv,h.ch.snoc hr.vis,by simp[h.len],fun i hi l hl hq=>?_,?_⟩
 ·dsimp only;rcases Nat.lt_or_ge i j with h1 | h1
  ·have e:(a.1 ++ [r.1]).getD i 0=a.1.getD i 0:=by rw[List.getD_eq_getElem?_getD,List.getElem?_append_left (by rw[h.len];exact h1),← List.getD_eq_getElem?_getD]
   have hm:a.1.getD i 0 ∈ a.1:=getD_mem (by rw[h.len];exact h1);rw[e,← h.lead i h1 l hl hq,ey];by_cases hn:1≤n
   ·obtain⟨a1,a2,a3⟩:=hc.nd hn _ hm;exact val_growB h.nv.v.lev ys (L:=n) a1 (fun _=>⟨a2,a3⟩) hl hq
   ·have:l=[]:=List.eq_nil_of_length_eq_zero (by omega);subst this;rfl
  ·obtain rfl:i=j:=by omega
   have e:(a.1 ++ [r.1]).getD i 0=r.1:=by rw[List.getD_eq_getElem?_getD,List.getElem?_append_right (by rw[h.len];exact Nat.le_refl _),h.len,Nat.sub_self];rfl
   rw[e];exact hr.lead l hl hq
 ·have:=h.sz;have:=hr.sz;rw[Nat.succ_mul];dsimp only;omega
theorem GKOk.fin {q:Nat}{f:List Nat→Int}{n:Nat}{ins:List Nat}{ns:List Nd}{a:List Int × List Nd}(hb:NV q ns)(h:GKOk q f n ins q ns a) :
  GOk q f (n+1) ins ns (((addN a.2 (((n+1:Nat):Int),a.1)).1:Int),(addN a.2 (((n+1:Nat):Int),a.1)).2):=by
 have hc:=chain_ok (fun a b d e f=>vis_ok n a b d e f) _ _ _ hb h.ch;have hvis:Vis q (n+1) ns (((addN a.2 (((n+1:Nat):Int),a.1)).1:Nat):Int) (addN a.2 (((n+1:Nat):Int),a.1)).2:=by
  rcases addN_cases a.2 (((n+1:Nat):Int),a.1) with ⟨i,ha,hil,hin⟩ | ⟨ha,hnot⟩
  ·rw[ha];exact chain_found hb h.ch hil hin
  ·rw[ha];exact .inr ⟨a.1,a.2,h.ch,h.len,hnot,rfl,rfl⟩
 have hv:=vis_ok (n+1) _ _ _ hb hvis;have hget:ndAt (addN a.2 (((n+1:Nat):Int),a.1)).2 (addN a.2 (((n+1:Nat):Int),a.1)).1=(((n+1:Nat):Int),a.1):=by
  rcases addN_cases a.2 (((n+1:Nat):Int),a.1) with ⟨i,ha,hil,hin⟩ | ⟨ha,hnot⟩
  ·rw[ha];exact hin
  ·rw[ha];exact ndAt_app_len _ _
 have hg:∃ ys,(addN a.2 (((n+1:Nat):Int),a.1)).2=a.2 ++ ys∧ys.length≤1:=by
  rcases addN_cases a.2 (((n+1:Nat):Int),a.1) with ⟨i,ha,hil,hin⟩ | ⟨ha,hnot⟩
  ·rw[ha];exact⟨[],by simp,by simp⟩
  ·rw[ha];exact⟨_,rfl,by simp⟩
 obtain⟨ys,ey,ly⟩:=hg;refine⟨hv.nv,hvis,fun l hl hq=>?_,?_⟩
 ·cases l with
  | nil=>simp at hl
  | cons t r=>
   have ht:t < q:=hq t (by simp);have hrl:r.length=n:=by simpa using hl
   have hrq:∀ x ∈ r,x < q:=fun x hx=>hq x (by simp[hx]);simp only[val,Int.toNat_natCast,hget];rw[show ins ++ t :: r=ins ++ [t] ++ r by simp,← h.lead t ht r hrl hrq,ey];have hm:a.1.getD t 0 ∈ a.1:=getD_mem (by rw[h.len];exact ht);by_cases hn:1≤n
   ·obtain⟨a1,a2,a3⟩:=hc.nd hn _ hm;exact val_growB h.nv.v.lev ys (L:=n) a1 (fun _=>⟨a2,a3⟩) hrl hrq
   ·have:r=[]:=List.eq_nil_of_length_eq_zero (by omega);subst this;rfl
 ·have:=h.sz;dsimp only;rw[ey,List.length_append];simp only[cap];omega
theorem grow_ok {q:Nat}{f:List Nat→Int}{N:Nat}(hF:∀ l:List Nat,l.length=N→(∀ t ∈ l,t < q)→0≤f l∧f l < (q:Int)) :
  ∀ (n:Nat) (ins:List Nat) (ns:List Nd),ins.length+n=N→(∀ t ∈ ins,t < q)→NV q ns→GOk q f n ins ns (growP q f n ins ns)
 | 0,ins,ns,hl,hq,h=>by
  obtain⟨f1,f2⟩:=hF ins (by omega) hq;refine⟨h,⟨rfl,f1,f2⟩,fun l hl _=>?_,by simp[growP]⟩;have:l=[]:=List.eq_nil_of_length_eq_zero hl;subst this;show f ins=f (ins ++ []);rw[List.append_nil]
 | n+1,ins,ns,hl,hq,h=>by
  have key:∀ j,j≤q→GKOk q f n ins j ns (growK (growP q f n) ins j ns):=by
   intro j;induction j with
   | zero=>intro _;exact GKOk.zero h
   | succ j ih=>
    intro hj;have hk:=ih (by omega);refine hk.succ h (grow_ok hF n _ _ (by rw[List.length_append,List.length_singleton];omega) (fun t ht=>?_) hk.nv);rcases List.mem_append.1 ht with ht | ht
    ·exact hq t ht
    ·rw[List.mem_singleton.1 ht];omega
  exact GKOk.fin h (key q (Nat.le_refl _))
theorem growK_ok {q:Nat}{f:List Nat→Int}{N:Nat}(hF:∀ l:List Nat,l.length=N→(∀ t ∈ l,t < q)→0≤f l∧f l < (q:Int)){n:Nat}{ins:List Nat}{ns:List Nd}(hl:ins.length+(n+1)=N)(hq:∀ t ∈ ins,t < q)(h:NV q ns):∀ j,j≤q→GKOk q f n ins j ns (growK (growP q f n) ins j ns):=by
 intro j;induction j with
 | zero=>intro _;exact GKOk.zero h
 | succ j ih=>
  intro hj;have hk:=ih (by omega);refine hk.succ h (grow_ok hF n _ _ (by rw[List.length_append,List.length_singleton];omega) (fun t ht=>?_) hk.nv);rcases List.mem_append.1 ht with ht | ht
  ·exact hq t ht
  ·rw[List.mem_singleton.1 ht];omega
theorem growK_rng {q:Nat}{f:List Nat→Int}{n:Nat}{ins:List Nat}{j:Nat}{ns:List Nd}{r:List Int × List Nd}(hb:NV q ns)(h:GKOk q f n ins j ns r)(hq:q≤100){N:Nat}(hN:r.2.length≤N)(h100:100≤N):∀ z ∈ r.1,0≤z∧z≤(N:Int):=by
 intro z hz;have c:=chain_ok (fun a b d e f=>vis_ok n a b d e f) _ _ _ hb h.ch;by_cases hn:1≤n
 ·obtain⟨a1,a2,a3⟩:=c.nd hn z hz;omega
 ·obtain⟨a1,a2⟩:=(c.low (by omega)).2 z hz;omega
end Go.Proofs.YtlegfdllipkggaaGreatDoor
