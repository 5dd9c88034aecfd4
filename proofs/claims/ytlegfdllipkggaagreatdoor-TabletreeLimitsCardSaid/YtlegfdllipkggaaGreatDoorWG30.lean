/-
  texts RFirst RUsedP RUsed RDead: parts of the proof; conditions stand with each theorem.
-/
import Derived.Test.YtlegfdllipkggaaGreatDoorWRDec11
import Derived.Test.YtlegfdllipkggaaGreatDoorWG17
import Derived.Test.YtlegfdllipkggaaGreatDoorWG24
import Derived.Test.YtlegfdllipkggaaGreatDoorWG2
import Derived.Test.YtlegfdllipkggaaGreatDoorWG23
namespace Go.Proofs.YtlegfdllipkggaaGreatDoor
open Lib(hid)
open Go.RowKit Go.Sort Go.Maps
set_option maxRecDepth 100000
set_option linter.unusedVariables false
set_option linter.unusedSimpArgs false
theorem match_rowD {t:TabL}{i:Nat}{q:Nat}{l:List Nat}(hr:rightTab t=true)(hq:t.st=(q:Int))(hi:i < t.rows.length)(hl:l.length=t.hood.length)(hs:∀ s ∈ l,s < q):matchT t (i:Int) (intsN l)=rowD t (intsN l) t.rows[i]:=by
 unfold matchT;rw[if_neg (by rintro (h | h | h | h | h);rw[hr] at h;cases h;exact absurd h (by omega);exact absurd h (by omega);exact h (by rw[intsN_len,hl]);rw[(states_intsN hq hs).1] at h;cases h)];rw[Int.toNat_natCast,List.getD_eq_getElem?_getD,List.getElem?_eq_getElem hi];rfl
def hitI (t:TabL)(inn:List Int):Int:=match hitD t inn with
 | some i=>(i:Int)
 | none=>-1
set_option maxHeartbeats 16000000 in
theorem rfirst_any (hA:Option Addr)(hc:Nat)(vA:Option Addr)(vc:Nat)(rA:Option Addr)(rc:Nat)(t:TabH)(q:Nat)(l:List Nat)(iA:Option Addr)(ic:Nat)(w:World)(hT:TabR w hA vA rA t)(hr:rightTab t.tab=true)(hq:t.st=(q:Int))(hi:Ints w iA (intsN l))(hl:l.length=t.hood.length)(hs:∀ s ∈ l,s < q) :
  Calls Tryz.prog 56 #[tabV hA hc vA vc rA rc t,.slice iA l.length ic] w fun en w'=>en=.returned (.int .i64 (hitI t.tab (intsN l)))∧Below w.heap.size w w':=by
 obtain⟨w0,hw0⟩:∃ w0,w0=w.alloc (.cells #[.int .i64 t.st,.int .i64 t.sym,.slice hA t.hood.length hc,.slice vA t.vs.length vc,.slice rA t.rs.length rc] 26):=⟨_,rfl⟩
 have hb0:Below w.heap.size w w0:=by rw[hw0];exact below_new _ _
 have p0:Blk w0 w.heap.size 26 #[.int .i64 t.st,.int .i64 t.sym,.slice hA t.hood.length hc,.slice vA t.vs.length vc,.slice rA t.rs.length rc]:=by rw[hw0];exact Blk.new _ _ _
 obtain⟨gT,hgT⟩:∃ g,g=w.heap.size:=⟨_,rfl⟩
 rw[← hgT] at p0;have HB0:=hid hb0;have HP:=hid p0;have HW0:=hid (And.intro hw0 hgT);have hrl:t.tab.rows.length=t.rs.length:=by unfold TabH.tab;simp
 have HRL:=hid hrl;have HDEC:Hid (∀ (j:Nat) (h:j < t.rs.length) (W:World),Below w0.heap.size w0 W→Calls Tryz.prog 78 #[tabV hA hc vA vc rA rc t,.int .i64 (j:Int),.slice iA l.length ic] W fun en w'=>en=.returned (.tuple #[.int .i64 (matchT t.tab (j:Int) (intsN l)).1,.bool (matchT t.tab (j:Int) (intsN l)).2])∧Below W.heap.size W w'):=hid (fun j h W hW=>by
  have h1:=rdec_any hA hc vA vc rA rc t j h iA ic (intsN l) W ((hT.ext hb0).ext hW) hr ((hi.ext hb0).ext hW) (by rw[intsN_len,hl]) (states_intsN hq hs).2;have h2:=match_rowD (i:=j) (q:=q) hr hq (by rw[hrl];exact h) hl hs;have h3:t.tab.rows[j]'(by rw[hrl];exact h)=(t.rs[j]'h).rw_:=by unfold TabH.tab;rw[List.getElem_map]
  rw[h3] at h2;rw[intsN_len] at h1;rw[h2];exact h1)
 have hr9:t.rs.length≤9223372036854775807:=hT.rows.le;have hi9:l.length≤9223372036854775807:=by have:=hi.le;rw[intsN_len] at this;exact this
 obtain⟨TL,hTL⟩:∃ x,x=t.tab:=⟨_,rfl⟩
 rw[← hTL] at HDEC HRL ⊢;obtain⟨res,hres⟩:∃ r,r=hitI TL (intsN l):=⟨_,rfl⟩
 rw[← hres];have HRES:=hid hres;obtain⟨st,sym,hood,vs,rs⟩:=t;unfold tabV at HDEC ⊢;dsimp only at HDEC HP HW0 HRL hr9 ⊢;clear hb0 p0 hw0 hgT hT hr hq hi hl hs hTL hres hrl;go_enter Tryz.func56,Tryz.ntmps56;go_upto_region 1 with fail
 rw[← HW0.out.1,← HW0.out.2];go_wp2;go_loopw [5] (fun iv wr=>∃ j:Nat,j≤rs.length∧iv=.int .i64 j∧Hid (Below w0.heap.size w0 wr)∧Hid (∀ i:Nat,i < j→(matchT TL (i:Int) (intsN l)).2=false)) (fun iv _=>rs.length - (intOf iv).toNat)
 case atStart=>exact⟨0,Nat.zero_le _,rfl,hid (Below.refl _ _),hid (fun i hi=>absurd hi (Nat.not_lt_zero _))⟩
 case round=>
  obtain⟨j,hj,rfl,HBW,HT⟩:=hrel;have hpw:=HP.out.below HBW.out HP.out.lt;have x0:=hpw.cell_ 0 (.int .i64 st) rfl;have x1:=hpw.cell_ 1 (.int .i64 sym) rfl;have x2:=hpw.cell_ 2 (.slice hA hood.length hc) rfl;have x3:=hpw.cell_ 3 (.slice vA vs.length vc) rfl;have x4:=hpw.cell_ 4 (.slice rA rs.length rc) rfl;clear hpw;by_cases hjl:j < rs.length
  ·have hcall:=HDEC.out j hjl wr HBW.out;obtain⟨q0,hq⟩:∃ q,q=matchT TL (j:Int) (intsN l):=⟨_,rfl⟩
   rw[← hq] at hcall;have HQ0:=hid hq;obtain⟨q1,q2⟩:=q0;dsimp only at hcall;have HCALL:=hid hcall;have HJ:=hid hjl;have hwj:wrap64 ((j:Int)+1)=(j:Int)+1:=by unfold wrap64;omega
   have HWJ:=hid hwj;clear hj hcall hq hwj;go_wp2_with (go_at_call 78;refine HCALL.out.mono ?_;rintro en w2 ⟨rfl,hb2⟩;refine Hid.out ?_);refine hid ?_;have HB2:=hid (btr HBW.out hb2);clear hb2 x0 x1 x2 x3 x4 HCALL;cases q2 with
   | true=>
    have HF:Hid (res=(j:Int)):=hid (by
     have h1:hitD TL (intsN l)=some j:=find_hit (by rw[HRL.out];exact HJ.out) (by show (matchT TL (j:Int) (intsN l)).2=true;rw[← HQ0.out]) HT.out;rw[HRES.out];unfold hitI;rw[h1])
    go_wp2;go_ret;exact⟨ret_int HF.out.symm,HB0.out.trans (HB2.out.mono HB0.out.size)⟩
   | false=>
    have HT2:Hid (∀ i:Nat,i < j+1→(matchT TL (i:Int) (intsN l)).2=false):=hid (fun i hi=>by
     rcases Nat.lt_or_ge i j with h | h
     ·exact HT.out i h
     ·obtain rfl:i=j:=by omega
      rw[← HQ0.out])
    go_wp2;go_roundw
    case rel=>exact⟨j+1,HJ.out,(by first | rfl | (rw[HWJ.out];rfl)),HB2,HT2⟩
    case measure=>(try rw[HWJ.out]);exact meas_step HJ.out
  ·obtain rfl:j=rs.length:=Nat.le_antisymm hj (Nat.le_of_not_lt hjl);have HF:Hid (res = -1):=hid (by
    have h1:hitD TL (intsN l)=none:=find_none (by rw[HRL.out];exact HT.out);rw[HRES.out];unfold hitI;rw[h1])
   clear hj hjl;go_wp2;go_ret;exact⟨ret_int HF.out.symm,HB0.out.trans (HBW.out.mono HB0.out.size)⟩
end Go.Proofs.YtlegfdllipkggaaGreatDoor
namespace Go.Proofs.YtlegfdllipkggaaGreatDoor
open Go.RowKit Go.Maps
set_option linter.unusedVariables false
set_option linter.unusedSimpArgs false
def usedK (r:List Nat→List Bool→List Bool)(ins:List Nat):Nat→List Bool→List Bool
 | 0,al=>al
 | j+1,al=>r (ins ++ [j]) (usedK r ins j al)
def usedR (t:TabL)(q:Nat):Nat→List Nat→List Bool→List Bool
 | 0,ins,al=>aliveS t al (intsN ins)
 | n+1,ins,al=>usedK (usedR t q n) ins q al
theorem usedR_eq (t:TabL){q:Nat}(hq:0 < q){N:Nat}:∀ (n k a:Nat),k+n=N→usedR t q n (digs q k a) (aliveTo t q N (a*q ^ n))=aliveTo t q N ((a+1)*q ^ n)
 | 0,k,a,h=>by
  obtain rfl:k=N:=by omega
  rw[Nat.pow_zero,Nat.mul_one,Nat.mul_one];rfl
 | n+1,k,a,h=>by
  have key:∀ j,j≤q→usedK (usedR t q n) (digs q k a) j (aliveTo t q N (a*q ^ (n+1)))=aliveTo t q N ((a*q+j)*q ^ n):=by
   intro j;induction j with
   | zero=>
    intro _;show aliveTo t q N (a*q ^ (n+1))=_;rw[show a*q+0=a*q from rfl,Nat.pow_succ,Nat.mul_comm (q ^ n) q,← Nat.mul_assoc]
   | succ j ih=>
    intro hj;show usedR t q n (digs q k a ++ [j]) (usedK (usedR t q n) (digs q k a) j (aliveTo t q N (a*q ^ (n+1))))=_;rw[ih (by omega)];have h1:digs q (k+1) (a*q+j)=digs q k a ++ [j]:=by
     show digs q k ((a*q+j) / q) ++ [(a*q+j) % q]=_;rw[Nat.mul_comm a q,Nat.mul_add_div hq,Nat.mul_add_mod,Nat.div_eq_of_lt (by omega),Nat.mod_eq_of_lt (by omega),Nat.add_zero]
    rw[← h1,usedR_eq t hq n (k+1) (a*q+j) (by omega)];rfl
  show usedK (usedR t q n) (digs q k a) q (aliveTo t q N (a*q ^ (n+1)))=_;rw[key q (Nat.le_refl _),← Nat.succ_mul,Nat.pow_succ,Nat.mul_assoc,Nat.mul_comm q (q ^ n)]
theorem usedR_all (t:TabL){q:Nat}(hq:0 < q)(N:Nat):usedR t q N [] (List.replicate t.rows.length false)=aliveTo t q N (q ^ N):=by
 have h:=usedR_eq t hq (N:=N) N 0 0 (by omega);rw[Nat.zero_mul,Nat.zero_add,Nat.one_mul] at h;exact h
theorem usedK_len {r:List Nat→List Bool→List Bool}{ins:List Nat}(h:∀ l al,(r l al).length=al.length):∀ j al,(usedK r ins j al).length=al.length
 | 0,_=>rfl
 | j+1,al=>by unfold usedK;rw[h,usedK_len h j al]
theorem usedR_len (t:TabL)(q:Nat):∀ n ins al,(usedR t q n ins al).length=al.length
 | 0,ins,al=>aliveS_len t al _
 | n+1,ins,al=>usedK_len (usedR_len t q n) q al
def leafB (al:List Bool)(k:Int)(i:Nat):Bool:=al.getD i false || (((i:Int) == k))
theorem leaf_eq (t:TabL)(al:List Bool)(inn:List Int){i:Nat}(hi:i < al.length):(aliveS t al inn)[i]?=some (leafB al (hitI t inn) i):=by
 unfold aliveS leafB hitI;cases h:hitD t inn with
 | none=>
  dsimp only;rw[List.getElem?_eq_getElem hi,List.getD_eq_getElem?_getD,List.getElem?_eq_getElem hi];have:((i:Int) == (-1:Int))=false:=beq_false_of_ne (by omega);rw[this]
  simp
 | some k=>
  dsimp only;rw[List.getElem?_set,List.getD_eq_getElem?_getD,List.getElem?_eq_getElem hi];by_cases hk:k=i
  ·subst hk;rw[if_pos rfl,if_pos hi]
   simp
  ·rw[if_neg hk];have:((i:Int) == (k:Int))=false:=beq_false_of_ne (by omega);rw[this]
   simp
theorem leaf_take (t:TabL)(al:List Bool)(inn:List Int){i:Nat}(hi:i < al.length):(aliveS t al inn).take (i+1)=(aliveS t al inn).take i ++ [leafB al (hitI t inn) i]:=by
 rw[List.take_add_one,leaf_eq t al inn hi];rfl
end Go.Proofs.YtlegfdllipkggaaGreatDoor
namespace Go.Proofs.YtlegfdllipkggaaGreatDoor
open Lib(hid)
open Go.RowKit Go.Sort Go.Maps
set_option maxRecDepth 100000
set_option linter.unusedVariables false
set_option linter.unusedSimpArgs false
theorem wpList_pushBl {P:Program}{wr:World}{ops:Array Oper}{rest:List Oper}{o:Oper}{a:Act}{Q:Exit→Act→World→Prop}(hgd:o.guard=none)(s x:Operand)(t:TypeId)
  (ho:o.op=.call { callee:=.builtin .append,args:=#[s,x],argTypes:=#[t,t] })
  (base:Nat) (ht:P.underlying t=some (.slice 4)) (hi:(P.info? 4).map (fun i=>(i.zero,i.size,i.bytes))=some (some (.bool false),1,1))
  (v:Value) (zs:List Bool) (hs:a.eval s=v) (hown:OwnBl wr base v zs)
  (z:Bool) (hx:a.eval x=.slice (some ⟨wr.heap.size,0,none⟩) 1 1)
  (hn:zs.length < 1000000000000) (hbase:base≤wr.heap.size)
  (h:∀ v' w',OwnBl w' base v' (zs ++ [z])→Kept (fun g=>v.ownBlock=some g) wr w'→(v'.ownBlock=v.ownBlock∨∃ g,v'.ownBlock=some g∧wr.heap.size≤g)→wpList P ops Q rest (a.put o.dst v') w') :
  wpList P ops Q (o :: rest) a (wr.alloc (.cells #[.bool z] 4)):=by
 obtain⟨i0,hi0,hz0,hz1,hz2⟩:=info_parts hi;have hown0:wr.ownsRow base 4 1 v zs.length (zs.map Value.bool):=hown;refine wpList_append_own_at _ hgd s x t ho base 4 i0 (.bool false) 1 1 ht hi0 hz0 hz1 hz2 rfl (by decide) v zs.length _ hs (hown0.alloc _) ⟨wr.heap.size,0,none⟩ 1 1 [.bool z] hx (by simp) ?_ (by simp[Value.oneCell']) (by unfold maxLen;omega) (by omega) (by simp;omega) ?_
 ·intro j u hu;rw[addr_add];have:(wr.alloc (.cells #[.bool z] 4)).cell? ⟨wr.heap.size,0+j,none⟩=#[Value.bool z][0+j]?:=cell_of_row _ _ _ _ _ _ (heap_alloc_new wr _);rw[this];cases j with
  | zero=>simpa using hu
  | succ j=>simp at hu
 ·intro v' w' hown' hg _ hat;refine h v' w' ?_ (((Kept.refl _ wr).alloc _).grown hg fun g hg=>Or.inl hg) ?_
  ·unfold OwnBl;rw[List.length_append,List.map_append];exact hown'
  ·rcases hat with hat | hat
   ·exact .inl hat
   ·exact .inr ⟨_,hat,by simp⟩
theorem OwnBl.at_ {w:World}{base:Nat}{A:Option Addr}{n c:Nat}{al:List Bool}(h:OwnBl w base (.slice A n c) al){i:Nat}(hi:i < al.length):∃ g,A=some ⟨g,0,none⟩∧w.cell? ⟨g,i,none⟩=some (.bool (al.getD i false)):=by
 rcases h.2 with ⟨e,h2⟩ | ⟨g,cap,cur,e,-⟩
 ·have:=h.1;injection e with e1 e2 e3
  exact absurd hi (by omega)
 ·injection e with e1 e2 e3
  subst e1;exact⟨g,rfl,(OwnBl.cellk h hi).1⟩
structure RuJ (V:World)(tv:Value)(iv:Value)(jj:Int)(nn:Nat)(tl:List Int)(xv:Value)(nx:List Bool)(b0 b1 b2 b3 b4 b5 b6:Bool)(v23 v24 v25 v26 v27 v28 v2:Value)(w:World):Prop where
 h0:b0=true→v23=tv
 h1:b1=true→v24=iv
 h2:b2=true→v25=.int .i64 jj
 h4:b4=true→v27=xv
 below:Below V.heap.size V w
 x3:b3=true→∃ A9 c9,v26=.slice A9 nn c9∧Ints w A9 tl
 x5:b5=true→∃ u,v28=u∧OwnBl w 0 u nx
 w6:b6=true→v2=v28
 q5:b5=true→b4=true
 q6:b6=true→b4=true∧b5=true
 y2:b6=false→v2=xv
set_option maxHeartbeats 32000000 in
theorem rused_any (hA:Option Addr)(hc:Nat)(vA:Option Addr)(vc:Nat)(rA:Option Addr)(rc:Nat)(t:TabH)(q:Nat)(WB:World)(hT:TabR WB hA vA rA t)(hr:rightTab t.tab=true)(hst:t.st=(q:Int)) :
  ∀ (n:Nat) (ins:List Nat) (iA:Option Addr) (ic:Nat) (ov:Value) (al:List Bool) (w:World),ins.length+n=t.hood.length→(∀ s ∈ ins,s < q)→Below WB.heap.size WB w→Ints w iA (intsN ins)→OwnBl w 0 ov al→al.length=t.rs.length→
  Calls Tryz.prog 38 #[tabV hA hc vA vc rA rc t,.slice iA ins.length ic,ov] w fun e w'=>∃ v,e=.returned v∧OwnBl w' 0 v (usedR t.tab q n ins al)∧Below w.heap.size w w':=by
 have hq8:q≤8∧2≤q∧t.hood.length≤25∧t.rs.length≤400:=by
  obtain⟨q1,q2,-,-,q5,-⟩:=rightTab_parts hr;have h1:t.tab.st=t.st:=rfl;have:=(hoodB_len q2).2;have h2:t.tab.hood=t.hood:=rfl;have h3:t.tab.rows.length=t.rs.length:=by unfold TabH.tab;simp
  rw[h2] at this;omega
 have hfirst:∀ (l:List Nat) (iA:Option Addr) (ic:Nat) (W:World),l.length=t.hood.length→(∀ s ∈ l,s < q)→Below WB.heap.size WB W→Ints W iA (intsN l)→Calls Tryz.prog 56 #[tabV hA hc vA vc rA rc t,.slice iA l.length ic] W fun en w'=>en=.returned (.int .i64 (hitI t.tab (intsN l)))∧Below W.heap.size W w':=fun l iA ic W h1 h2 h3 h4=>rfirst_any hA hc vA vc rA rc t q l iA ic W (hT.ext h3) hr hst h4 h1 h2;have HFI:=hid hfirst;have HQ:=hid hq8;have hh9:t.hood.length≤9223372036854775807:=by omega
 have hv9:=hT.vars.le;have hr9:=hT.rows.le;obtain⟨TL,hTL⟩:∃ x,x=t.tab:=⟨_,rfl⟩
 rw[← hTL] at HFI ⊢;clear hT hr hfirst hq8 hTL;obtain⟨st,sym,hood,vs,rs⟩:=t;unfold tabV at HFI ⊢;dsimp only at hst hh9 hv9 hr9 HFI HQ ⊢;subst hst;intro n;induction n with
 | zero=>
  intro ins iA ic ov al w hl hq hb hi ho hal;have hln:ins.length=hood.length:=by omega
  obtain⟨w0,hw0⟩:∃ w0,w0=w.alloc (.cells #[.int .i64 (q:Int),.int .i64 sym,.slice hA hood.length hc,.slice vA vs.length vc,.slice rA rs.length rc] 26):=⟨_,rfl⟩
  have hb0:Below w.heap.size w w0:=by rw[hw0];exact below_new _ _
  have p0:Blk w0 w.heap.size 26 #[.int .i64 (q:Int),.int .i64 sym,.slice hA hood.length hc,.slice vA vs.length vc,.slice rA rs.length rc]:=by rw[hw0];exact Blk.new _ _ _
  obtain⟨gT,hgT⟩:∃ g,g=w.heap.size:=⟨_,rfl⟩
  rw[← hgT] at p0;have HW0:=hid (And.intro hw0 hgT);have HB0:=hid hb0;have HP:=hid p0;have HI:=hid (hi.ext hb0);have HO:=hid (own_below ho hb0);obtain⟨oA,oc,eov,-,-⟩:=own_form ho;subst eov;have hcall:=HFI.out ins iA ic w0 hln hq (hb.trans (hb0.mono hb.size)) (hi.ext hb0);obtain⟨k,hk⟩:∃ k,k=hitI TL (intsN ins):=⟨_,rfl⟩
  rw[← hk] at hcall;have HCALL:=hid hcall;have HTK:Hid (∀ i,i < al.length→(aliveS TL al (intsN ins)).take (i+1)=(aliveS TL al (intsN ins)).take i ++ [leafB al k i]):=hid (fun i hi=>by rw[hk];exact leaf_take TL al (intsN ins) hi);have HTL:Hid ((aliveS TL al (intsN ins)).length=al.length):=hid (aliveS_len _ _ _);have HAL:=hid hal;show Calls _ _ _ _ fun e w'=>∃ v,e=.returned v∧OwnBl w' 0 v (aliveS TL al (intsN ins))∧Below w.heap.size w w';obtain⟨out,hout⟩:∃ l,l=aliveS TL al (intsN ins):=⟨_,rfl⟩
  rw[← hout] at HTK HTL ⊢;have dl:decide ((ins.length:Int) < (hood.length:Int))=false:=decide_eq_false (by omega);have dl':decide (ins.length < hood.length)=false:=decide_eq_false (by omega);have hi9:ins.length≤9223372036854775807:=by omega
  have ha9:al.length≤9223372036854775807:=by have:=HQ.out;omega
  have x0:=p0.cell_ 0 (.int .i64 (q:Int)) rfl;have x1:=p0.cell_ 1 (.int .i64 sym) rfl;have x2:=p0.cell_ 2 (.slice hA hood.length hc) rfl;have x3:=p0.cell_ 3 (.slice vA vs.length vc) rfl;have x4:=p0.cell_ 4 (.slice rA rs.length rc) rfl;clear hl hq hb hi ho hal hw0 hb0 p0 hgT hcall hln hk hout;go_enter Tryz.func38,Tryz.ntmps38;go_upto_region 1 with fail
  rw[← HW0.out.1,← HW0.out.2];go_wp2_with (go_at_call 56;refine HCALL.out.mono ?_;rintro en w2 ⟨rfl,hb2⟩;refine Hid.out ?_);refine hid ?_;have HB2:=hid hb2;have HOz:=hid (own_below HO.out hb2);clear hb2 x0 x1 x2 x3 x4 HCALL dl dl';go_wp2;go_loopw [9,10] (fun xv iv wr=>∃ i:Nat,i≤al.length∧iv=.int .i64 i∧Hid (OwnBl wr w2.heap.size xv (out.take i))∧Hid (Below w2.heap.size w2 wr)) (fun _ iv _=>al.length - (intOf iv).toNat)
  case atStart=>exact⟨0,Nat.zero_le _,rfl,hid (World.ownsRow_nil _ _ _ _),hid (Below.refl _ _)⟩
  case round=>
   obtain⟨i,hi,rfl,HX,HBW⟩:=hrel;by_cases hil:i < al.length
   ·have hob:OwnBl wr 0 (.slice oA al.length oc) al:=own_below HOz.out HBW.out;obtain⟨g,eA,hcell⟩:=hob.at_ hil;obtain⟨b0,hb0⟩:∃ b,b=al.getD i false:=⟨_,rfl⟩
    rw[← hb0] at hcell;subst eA;have hst:=HTK.out i hil;have hwi:wrap64 ((i:Int)+1)=(i:Int)+1:=by unfold wrap64;omega
    have HWI:=hid hwi;have HIL:=hid hil;have hown:=HX.out;have hln:(out.take i).length < 1000000000000:=by rw[List.length_take];have:=HTL.out;have:=HAL.out;have:=HQ.out;omega
    have hbs:=HBW.out.size;unfold leafB at hst;rw[← hb0] at hst;clear hob hi hwi hb0;cases b0 with
    | true=>
     have HST:Hid (out.take (i+1)=out.take i ++ [true]):=hid (by rw[hst];rfl);clear hst;go_wp2_with (at_builtin;refine wpList_pushBl rfl _ _ _ rfl w2.heap.size Tryz.underlying62 Tryz.infoBool _ _ rfl hown _ rfl hln hbs ?_);intro vv w7 ho7 hk7 hm7;have HO7:Hid (OwnBl w7 w2.heap.size vv (out.take (i+1))):=hid (by rw[HST.out];exact ho7);have HB7:Hid (Below w2.heap.size w2 w7):=hid (HBW.out.trans (hk7.to_below hbs (fun g hg e=>by have:=(own_lt' HX.out e).2;omega)));clear ho7 hk7 hm7 hown hln hbs hcell;go_wp2;go_roundw
     case rel=>exact⟨i+1,HIL.out,(by first | rfl | (rw[HWI.out];rfl)),HO7,HB7⟩
     case measure=>(try rw[HWI.out]);exact meas_step HIL.out
    | false=>
     obtain⟨bk,hbk⟩:∃ b,b=((i:Int) == k):=⟨_,rfl⟩
     have HST:Hid (out.take (i+1)=out.take i ++ [bk]):=hid (by rw[hst,hbk];rfl);have ek:=hbk.symm;clear hst hbk;go_wp2_with (at_builtin;refine wpList_pushBl rfl _ _ _ rfl w2.heap.size Tryz.underlying62 Tryz.infoBool _ _ rfl hown _ rfl hln hbs ?_);intro vv w7 ho7 hk7 hm7;have HO7:Hid (OwnBl w7 w2.heap.size vv (out.take (i+1))):=hid (by rw[HST.out];exact ho7);have HB7:Hid (Below w2.heap.size w2 w7):=hid (HBW.out.trans (hk7.to_below hbs (fun g hg e=>by have:=(own_lt' HX.out e).2;omega)));clear ho7 hk7 hm7 hown hln hbs hcell;go_wp2;go_roundw
     case rel=>exact⟨i+1,HIL.out,(by first | rfl | (rw[HWI.out];rfl)),HO7,HB7⟩
     case measure=>(try rw[HWI.out]);exact meas_step HIL.out
   ·obtain rfl:i=al.length:=Nat.le_antisymm hi (Nat.le_of_not_lt hil);have hfin:out.take al.length=out:=List.take_of_length_le (by rw[HTL.out];exact Nat.le_refl _);have HFN:=hid hfin;clear hi hil hfin;go_wp2;go_ret;exact⟨_,rfl,by have h:=HX.out;rw[HFN.out] at h;exact own_weak h (Nat.zero_le _),HB0.out.trans ((HB2.out.trans (HBW.out.mono HB2.out.size)).mono HB0.out.size)⟩
 | succ n IH=>
  intro ins iA ic ov al w hl hq hb hi ho hal;obtain⟨w0,hw0⟩:∃ w0,w0=w.alloc (.cells #[.int .i64 (q:Int),.int .i64 sym,.slice hA hood.length hc,.slice vA vs.length vc,.slice rA rs.length rc] 26):=⟨_,rfl⟩
  have hb0:Below w.heap.size w w0:=by rw[hw0];exact below_new _ _
  have p0:Blk w0 w.heap.size 26 #[.int .i64 (q:Int),.int .i64 sym,.slice hA hood.length hc,.slice vA vs.length vc,.slice rA rs.length rc]:=by rw[hw0];exact Blk.new _ _ _
  obtain⟨gT,hgT⟩:∃ g,g=w.heap.size:=⟨_,rfl⟩
  rw[← hgT] at p0;have HW0:=hid (And.intro hw0 hgT);have HB0:=hid hb0;have HP:=hid p0;have HI:=hid (hi.ext hb0);have HO:=hid (own_below ho hb0);obtain⟨oA,oc,eov,-,-⟩:=own_form ho;subst eov;have HIH:=hid IH;have HL:=hid (And.intro hl hq);have HBWB:=hid (hb.trans (hb0.mono hb.size));have HAL:=hid hal;show Calls _ _ _ _ fun e w'=>∃ v,e=.returned v∧OwnBl w' 0 v (usedK (usedR TL q n) ins q al)∧Below w.heap.size w w';have dl:decide ((ins.length:Int) < (hood.length:Int))=true:=decide_eq_true (by omega);have dl':decide (ins.length < hood.length)=true:=decide_eq_true (by omega);have hi9:ins.length≤9223372036854775807:=by omega
  have x0:=p0.cell_ 0 (.int .i64 (q:Int)) rfl;have x1:=p0.cell_ 1 (.int .i64 sym) rfl;have x2:=p0.cell_ 2 (.slice hA hood.length hc) rfl;have x3:=p0.cell_ 3 (.slice vA vs.length vc) rfl;have x4:=p0.cell_ 4 (.slice rA rs.length rc) rfl;clear hl hq hb hi ho hal hw0 hb0 p0 hgT IH;go_enter Tryz.func38,Tryz.ntmps38;go_upto_region 1 with fail
  rw[← HW0.out.1,← HW0.out.2];go_wp2;clear x0 x1 x2 x3 x4 dl dl';go_loopw [2,7] (fun xv sv wr=>∃ (j:Nat) (ov1:Value),j≤q∧sv=.int .i64 j∧ov1=xv∧Hid (OwnBl wr 0 ov1 (usedK (usedR TL q n) ins j al))∧Hid (Below w0.heap.size w0 wr)) (fun _ sv _=>q - (intOf sv).toNat)
  case atStart=>exact⟨0,_,Nat.zero_le _,rfl,rfl,HO,hid (Below.refl _ _)⟩
  case round=>
   obtain⟨j,ov1,hj,rfl,rfl,HX,HBW⟩:=hrel;have HPW:=hid (HP.out.below HBW.out HP.out.lt);have x0:=HPW.out.cell_ 0 (.int .i64 (q:Int)) rfl;by_cases hjq:j < q
   ·have HJ:=hid hjq;have hwj:wrap64 ((j:Int)+1)=(j:Int)+1:=by have:=HQ.out;unfold wrap64;omega
    have HWJ:=hid hwj;obtain⟨ak,hak⟩:∃ l,l=usedK (usedR TL q n) ins j al:=⟨_,rfl⟩
    have hnx:usedK (usedR TL q n) ins (j+1) al=usedR TL q n (ins ++ [j]) ak:=by rw[hak];rfl
    have hakl:ak.length=al.length:=by rw[hak];exact usedK_len (usedR_len TL q n) j al
    rw[← hak] at HX;obtain⟨nx,hnx2⟩:∃ l,l=usedR TL q n (ins ++ [j]) ak:=⟨_,rfl⟩
    rw[← hnx2] at hnx;have HNX:=hid hnx;have HWI:Hid (∀ W,Below wr.heap.size wr W→Calls Tryz.prog 55 #[.slice iA ins.length ic,.int .i64 (j:Int)] W fun e w'=>∃ A9 c9,e=.returned (.slice A9 (ins.length+1) c9)∧Ints w' A9 (intsN (ins ++ [j]))∧Below W.heap.size W w'):=hid (fun W hW=>by
     have h:=with_any iA ic (intsN ins) (j:Int) W ((HI.out.ext HBW.out).ext hW) (by rw[intsN_len];have:=HL.out.1;have:=HQ.out;omega);rw[intsN_len] at h;refine h.mono fun e w' ⟨v,h1,h2,h3⟩=>?_;rw[← intsN_snoc] at h2;obtain⟨A9,c9,e9,h4,-⟩:=h2.ints;rw[intsN_len,List.length_append,List.length_singleton] at e9;subst e9;exact⟨A9,c9,h1,h4,h3⟩)
    have HUS:Hid (∀ W A9 c9,Below wr.heap.size wr W→Ints W A9 (intsN (ins ++ [j]))→Calls Tryz.prog 38 #[.agg #[.int .i64 (q:Int),.int .i64 sym,.slice hA hood.length hc,.slice vA vs.length vc,.slice rA rs.length rc],.slice A9 (ins.length+1) c9,ov1] W fun e w'=>∃ v,e=.returned v∧OwnBl w' 0 v nx∧Below W.heap.size W w'):=hid (fun W A9 c9 hW hI=>by
     have h:=HIH.out (ins ++ [j]) A9 c9 ov1 ak W (by rw[List.length_append,List.length_singleton];have:=HL.out.1;omega) (fun t ht=>by
       rcases List.mem_append.1 ht with ht | ht
       ·exact HL.out.2 t ht
       ·rw[List.mem_singleton.1 ht];exact HJ.out) ((HBWB.out.trans (HBW.out.mono HBWB.out.size)).trans (hW.mono (Nat.le_trans HBWB.out.size HBW.out.size))) hI (own_below HX.out hW) (by rw[hakl];exact HAL.out)
     rw[List.length_append,List.length_singleton,← hnx2] at h;exact h)
    clear hj hwj hak hnx hakl hnx2;go_upto_region 5 with fail
    clear x0 hjq;refine wp_region_J (by kernel_rfl) (fun listed act w'=>∃ b0 b1 b2 b3 b4 b5 b6 v23 v24 v25 v26 v27 v28 v2,listed=#[b0,b1,b2,b3,b4,b5,b6]∧act=Act.mk #[.agg #[.int .i64 ↑q,.int .i64 sym,.slice hA hood.length hc,.slice vA vs.length vc,.slice rA rs.length rc],.slice iA ins.length ic,v2,.pointer (some ⟨gT,0,none⟩),undef,undef,.slice none 0 0,.int .i64 ↑j,undef,undef,undef,.slice iA ins.length ic,.int .i64 ↑ins.length,.pointer (some ⟨gT,2,none⟩),.slice hA hood.length hc,.int .i64 ↑hood.length,.bool true,.int .i64 ↑j,.pointer (some ⟨gT,0,none⟩),.int .i64 ↑q,.bool true,u21,u22,v23,v24,v25,v26,v27,v28,undef,undef,undef,undef,undef,undef,undef,undef,undef,undef,undef,undef,undef,undef,undef,undef,undef,undef,undef,undef,undef,undef,undef] []∧RuJ wr (.agg #[.int .i64 (q:Int),.int .i64 sym,.slice hA hood.length hc,.slice vA vs.length vc,.slice rA rs.length rc]) (.slice iA ins.length ic) ((j:Int)) ((ins.length+1)) ((intsN (ins ++ [j]))) (ov1) (nx) b0 b1 b2 b3 b4 b5 b6 v23 v24 v25 v26 v27 v28 v2 w') ?_ ?_ ?_
    ·exact (e_8 (e_4 (e_2 ⟨rfl,rfl,(by constructor;(case below=>exact ((Below.refl _ wr).drew));(case y2=>exact (fun _=>rfl));all_goals simp)⟩)))
    ·rintro i listed act w' hi ⟨b0,b1,b2,b3,b4,b5,b6,v23,v24,v25,v26,v27,v28,v2,rfl,rfl,H⟩;have hi16:i < 7:=by
      obtain⟨-,o,ho,-⟩:=mem_ready.1 hi;exact (Array.getElem?_eq_some_iff.1 ho).1
     obtain rfl | rfl | rfl | rfl | rfl | rfl | rfl:i=0∨i=1∨i=2∨i=3∨i=4∨i=5∨i=6:=by omega
     all_goals simp[mem_ready,Region.binds] at hi
     ·have hB:=H.below;have hcc:=HPW.out.below hB HPW.out.lt;have cc0:=hcc.cell_ 0 (.int .i64 (q:Int)) rfl;have cc1:=hcc.cell_ 1 (.int .i64 sym) rfl;have cc2:=hcc.cell_ 2 (.slice hA hood.length hc) rfl;have cc3:=hcc.cell_ 3 (.slice vA vs.length vc) rfl;have cc4:=hcc.cell_ 4 (.slice rA rs.length rc) rfl;clear hcc;clear hB;refine wpOp_hidden rfl fun K hK=>?_;go_wp2;refine OnlyN.mk (hK.out _ _ (e_8 (e_4 (e_2 ⟨rfl,rfl,{ H with h0:=fun _=>rfl }⟩))))
     ·refine wpOp_hidden rfl fun K hK=>?_;go_wp2;refine OnlyN.mk (hK.out _ _ (e_8 (e_4 (e_2 ⟨rfl,rfl,{ H with h1:=fun _=>rfl }⟩))))
     ·refine wpOp_hidden rfl fun K hK=>?_;go_wp2;refine OnlyN.mk (hK.out _ _ (e_8 (e_4 (e_2 ⟨rfl,rfl,{ H with h2:=fun _=>rfl }⟩))))
     ·obtain rfl:=H.h1 (by simp[hi]);obtain rfl:=H.h2 (by simp[hi]);have hB:=H.below;have HC5:=hid (HWI.out w' hB);have HBW:=hid hB;clear hB;refine wpOp_hidden rfl fun K hK=>?_;go_wp2_with (go_at_call 55;refine HC5.out.mono ?_;rintro en w9 ⟨A9,c9,rfl,hi9,hb9⟩;refine Hid.out ?_);refine hid ?_;have HI9:=hid hi9;clear HC5 hi9;have HB9:=hid hb9;have HBN:=hid (HBW.out.trans (hb9.mono HBW.out.size));clear hb9;go_wp2;refine OnlyN.mk (hK.out _ _ (e_8 (e_4 (e_2 ⟨rfl,rfl,{ H with below:=HBN.out,x3:=fun _=>⟨A9,c9,rfl,HI9.out⟩,x5:=fun h=>(H.x5 h).imp fun u h=>⟨h.1,own_below h.2 HB9.out⟩ }⟩))))
     ·have h6:b6=false:=by
       cases hb:b6 with
       | false=>rfl
       | true=>exact absurd (H.q6 hb).1 (by simp[hi])
      have e2:=(H.y2 h6).symm;clear h6;subst e2;refine wpOp_hidden rfl fun K hK=>?_;go_wp2;refine OnlyN.mk (hK.out _ _ (e_8 (e_4 (e_2 ⟨rfl,rfl,{ H with h4:=fun _=>rfl,q5:=fun _=>rfl,q6:=fun h=>⟨rfl,(H.q6 h).2⟩ }⟩))))
     ·obtain rfl:=H.h0 (by simp[hi]);obtain rfl:=H.h4 (by simp[hi]);have hB:=H.below;obtain⟨A5,c5,e5,hi5⟩:=H.x3 (by simp[hi]);subst e5;have HC5:=hid (HUS.out w' A5 c5 hB hi5);clear hi5;have HBW:=hid hB;clear hB;refine wpOp_hidden rfl fun K hK=>?_;go_wp2_with (go_at_call 38;refine HC5.out.mono ?_;rintro en w9 ⟨u9,rfl,ho9,hb9⟩;refine Hid.out ?_);refine hid ?_;have HO9:=hid ho9;clear HC5 ho9;have HB9:=hid hb9;have HBN:=hid (HBW.out.trans (hb9.mono HBW.out.size));clear hb9;go_wp2;refine OnlyN.mk (hK.out _ _ (e_8 (e_4 (e_2 ⟨rfl,rfl,⟨H.h0,H.h1,H.h2,H.h4,HBN.out,fun h=>(H.x3 h).imp fun A9 h=>h.imp fun c9 h=>⟨h.1,h.2.ext HB9.out⟩,fun _=>⟨u9,rfl,HO9.out⟩,fun h=>absurd (H.q6 h).2 (by simp[hi]),fun _=>(by simp[hi]),fun h=>⟨(H.q6 h).1,rfl⟩,H.y2⟩⟩))))
     ·refine wpOp_hidden rfl fun K hK=>?_;go_wp2;refine OnlyN.mk (hK.out _ _ (e_8 (e_4 (e_2 ⟨rfl,rfl,{ H with w6:=fun _=>rfl,q6:=fun _=>⟨(by simp[hi]),(by simp[hi])⟩,y2:=fun h=>(by cases h) }⟩))))
    ·rintro listed act w' hr ⟨b0,b1,b2,b3,b4,b5,b6,v23,v24,v25,v26,v27,v28,v2,rfl,rfl,H⟩;have hn:=List.eq_nil_iff_forall_not_mem.1 hr;have r0:=hn 0;simp[mem_ready,Region.binds] at r0;subst r0;have r1:=hn 1;simp[mem_ready,Region.binds] at r1;subst r1;have r2:=hn 2;simp[mem_ready,Region.binds] at r2;subst r2;have r3:=hn 3;simp[mem_ready,Region.binds] at r3;subst r3;have r4:=hn 4;simp[mem_ready,Region.binds] at r4;subst r4;have r5:=hn 5;simp[mem_ready,Region.binds] at r5;subst r5;have r6:=hn 6;simp[mem_ready,Region.binds] at r6;subst r6;try dsimp only
     obtain⟨u5,e5,ho5⟩:=H.x5 rfl;obtain rfl:=e5;obtain rfl:=H.w6 rfl;have HO5:=hid ho5;have HB6:=hid (HBW.out.trans (H.below.mono HBW.out.size));obtain⟨W6,rfl⟩:∃ W:World,W=w':=⟨_,rfl⟩
     clear H hr hn ho5;go_wp2;go_roundw
     case rel=>exact⟨j+1,_,HJ.out,(by first | rfl | (rw[HWJ.out];rfl)),rfl,hid (by rw[HNX.out];exact HO5.out),HB6⟩
     case measure=>(try rw[HWJ.out]);exact meas_step HJ.out
   ·obtain rfl:q=j:=Nat.le_antisymm (Nat.le_of_not_lt hjq) hj;clear hj hjq;go_wp2;go_ret;exact⟨_,rfl,HX.out,HB0.out.trans (HBW.out.mono HB0.out.size)⟩
end Go.Proofs.YtlegfdllipkggaaGreatDoor
namespace Go.Proofs.YtlegfdllipkggaaGreatDoor
open Lib(hid)
open Go.RowKit Go.Maps
set_option maxRecDepth 100000
set_option linter.unusedVariables false
set_option linter.unusedSimpArgs false
structure RdeJ (V:World)(tv:Value)(gg:Nat)(rv:Value)(nn:Nat)(nx:List Bool)(b0 b1 b2 b3 b4 b5 b6:Bool)(v13 v14 v15 v16 v17 v18 v4:Value)(w:World):Prop where
 h0:b0=true→v13=tv
 h1:b1=true→v14=.pointer (some ⟨gg,4,none⟩)
 h2:b2=true→v15=rv
 h3:b3=true→v16=.int .i64 (nn:Int)
 below:Below V.heap.size V w
 x4:b4=true→∃ u,v17=u∧OwnBl w 0 u (List.replicate nn false)
 x5:b5=true→∃ u,v18=u∧OwnBl w 0 u nx
 w6:b6=true→v4=v18
 q6:b6=true→b5=true
set_option maxHeartbeats 16000000 in
theorem rdead_any (hA:Option Addr)(hc:Nat)(vA:Option Addr)(vc:Nat)(rA:Option Addr)(rc:Nat)(t:TabH)(w:World)(hT:TabR w hA vA rA t) :
  Calls Tryz.prog 17 #[tabV hA hc vA vc rA rc t] w fun e w'=>∃ v,e=.returned (.tuple #[v,.int .i64 (deadT t.tab).2])∧OwnIA w' w.heap.size v (deadT t.tab).1∧Below w.heap.size w w':=by
 obtain⟨w0,hw0⟩:∃ w0,w0=w.alloc (.cells #[.int .i64 t.st,.int .i64 t.sym,.slice hA t.hood.length hc,.slice vA t.vs.length vc,.slice rA t.rs.length rc] 26):=⟨_,rfl⟩
 have hb0:Below w.heap.size w w0:=by rw[hw0];exact below_new _ _
 have p0:Blk w0 w.heap.size 26 #[.int .i64 t.st,.int .i64 t.sym,.slice hA t.hood.length hc,.slice vA t.vs.length vc,.slice rA t.rs.length rc]:=by rw[hw0];exact Blk.new _ _ _
 have hcr:=rright11_any hA hc vA vc rA rc t w0 (hT.ext hb0);have HTR:=hid (hT.ext hb0);have HB0:=hid hb0;have HP:=hid p0;have HW0:=hid hw0;have hh9:t.hood.length≤9223372036854775807:=hT.hood.le;have hr9:t.rs.length≤9223372036854775807:=hT.rows.le;obtain⟨d1,hd1⟩:∃ d,d=(deadT t.tab).1:=⟨_,rfl⟩
 obtain⟨d2,hd2⟩:∃ d,d=(deadT t.tab).2:=⟨_,rfl⟩
 rw[← hd1,← hd2];have HD:Hid (deadT t.tab=(d1,d2)):=hid (by rw[hd1,hd2]);have x0:=p0.cell_ 0 (.int .i64 t.st) rfl;have x1:=p0.cell_ 1 (.int .i64 t.sym) rfl;have x2:=p0.cell_ 2 (.slice hA t.hood.length hc) rfl;have x3:=p0.cell_ 3 (.slice vA t.vs.length vc) rfl;have x4:=p0.cell_ 4 (.slice rA t.rs.length rc) rfl;clear hb0 p0 hw0 hT hd1 hd2;cases hr:rightTab t.tab with
 | false=>
  have HE:Hid (d1=[]∧d2=2):=hid (by
   have h:=HD.out;unfold deadT at h;rw[if_neg (by rw[hr];simp)] at h;injection h with h1 h2
   exact⟨h1.symm,h2.symm⟩)
  rw[hr] at hcr;unfold tabV at hcr ⊢;have HCR:=hid hcr;clear hr hcr;go_enter Tryz.func17,Tryz.ntmps17;go_upto_region 1 with fail
  rw[← HW0.out];go_wp2_with (go_at_call 14;refine HCR.out.mono ?_;rintro e w1 ⟨rfl,hb1⟩;refine Hid.out ?_);refine hid ?_;go_wp2;go_ret2;exact⟨_,by first | (rw[HE.out.2];done) | (rw[HE.out.2];rfl),by rw[HE.out.1];exact OwnI.nil _ _ _,HB0.out.trans (hb1.mono HB0.out.size)⟩
 | true=>
  obtain⟨⟨hr1,hr2⟩,hr3,hr4,hr5,hr6,-⟩:=rightTab_parts hr;have H400:Hid (t.rs.length≤400):=hid (by rw[show t.tab.rows.length=t.rs.length by unfold TabH.tab;simp] at hr6;exact hr6);have hln:=hoodB_len hr3;obtain⟨q,hq⟩:∃ q:Nat,t.st=(q:Int):=⟨t.st.toNat,by have:t.tab.st=t.st:=rfl;omega⟩
  have hq1:t.tab.st=(q:Int):=hq;have HQ:Hid (2≤q∧q≤8∧1≤t.hood.length∧t.hood.length≤25):=hid ⟨by omega,by omega,hln.1,hln.2⟩;have HD2:Hid ((if smallP q t.hood.length=true then (deadL (aliveTo t.tab q t.hood.length (q ^ t.hood.length)) t.rs.length,(0:Int)) else ([],6))=(d1,d2)):=hid (by
   have h:=HD.out;unfold deadT at h;rw[if_pos hr,hq1,Int.toNat_natCast,show t.tab.rows.length=t.rs.length by unfold TabH.tab;simp] at h;exact h)
  have HSM:Hid (∀ W,Below w0.heap.size w0 W→Calls Tryz.prog 15 #[tabV hA hc vA vc rA rc t] W fun e w'=>e=.returned (.bool (smallP q t.hood.length))∧Below W.heap.size W w'):=hid (fun W hW=>rsmall15_any hA hc vA vc rA rc t q W hq (by have:=HQ.out;omega) (by have:=HQ.out;omega) (by have:=HQ.out;omega));have HUS:Hid (∀ (W:World) (v:Value),Below w0.heap.size w0 W→OwnBl W 0 v (List.replicate t.rs.length false)→Calls Tryz.prog 38 #[tabV hA hc vA vc rA rc t,.slice none 0 0,v] W fun e w'=>∃ u,e=.returned u∧OwnBl w' 0 u (aliveTo t.tab q t.hood.length (q ^ t.hood.length))∧Below W.heap.size W w'):=hid (fun W v hW hv=>by
   have h:=rused_any hA hc vA vc rA rc t q w0 HTR.out hr hq t.hood.length [] none 0 v (List.replicate t.rs.length false) W (by simp) (fun s hs=>absurd hs (by simp)) hW (OwnI.reads (I:=3) (base:=0) (c:=0) (n:=0) (OwnI.nil _ W 0)) hv (by simp);have h2:=usedR_all t.tab (q:=q) (by omega) t.hood.length;rw[show t.tab.rows.length=t.rs.length by unfold TabH.tab;simp] at h2;rw[h2] at h;exact h)
  rw[hr] at hcr;unfold tabV at hcr HSM HUS ⊢;have HCR:=hid hcr;have HST:=hid hq;clear hr hcr hr1 hr2 hr3 hr4 hr5 hr6 hln hq hq1;cases hsm:smallP q t.hood.length with
  | false=>
   have HE:Hid (d1=[]∧d2=6):=hid (by
    have h:=HD2.out;rw[if_neg (by rw[hsm];simp)] at h;injection h with h1 h2
    exact⟨h1.symm,h2.symm⟩)
   rw[hsm] at HSM;clear hsm;go_enter Tryz.func17,Tryz.ntmps17;go_upto_region 1 with fail
   rw[← HW0.out];go_wp2_with (go_at_call 14;refine HCR.out.mono ?_;rintro e w1 ⟨rfl,hb1⟩;refine Hid.out ?_);refine hid ?_;have HB1:=hid hb1;have HP1:=hid (HP.out.below hb1 HP.out.lt);have HSC:=hid (HSM.out w1 hb1);clear hb1 x0 x1 x2 x3 x4;have x0:=HP1.out.cell_ 0 (.int .i64 t.st) rfl;have x1:=HP1.out.cell_ 1 (.int .i64 t.sym) rfl;have x2:=HP1.out.cell_ 2 (.slice hA t.hood.length hc) rfl;have x3:=HP1.out.cell_ 3 (.slice vA t.vs.length vc) rfl;have x4:=HP1.out.cell_ 4 (.slice rA t.rs.length rc) rfl;go_wp2_with (go_at_call 15;refine HSC.out.mono ?_;rintro e w2 ⟨rfl,hb2⟩;refine Hid.out ?_);refine hid ?_;go_wp2;go_ret2;exact⟨_,by first | (rw[HE.out.2];done) | (rw[HE.out.2];rfl),by rw[HE.out.1];exact OwnI.nil _ _ _,HB0.out.trans ((HB1.out.trans (hb2.mono HB1.out.size)).mono HB0.out.size)⟩
  | true=>
   have HE:Hid (d1=deadL (aliveTo t.tab q t.hood.length (q ^ t.hood.length)) t.rs.length∧d2=0):=hid (by
    have h:=HD2.out;rw[if_pos hsm] at h;injection h with h1 h2
    exact⟨h1.symm,h2.symm⟩)
   rw[hsm] at HSM;clear hsm;go_enter Tryz.func17,Tryz.ntmps17;go_upto_region 1 with fail
   rw[← HW0.out];go_wp2_with (go_at_call 14;refine HCR.out.mono ?_;rintro e w1 ⟨rfl,hb1⟩;refine Hid.out ?_);refine hid ?_;have HB1:=hid hb1;have HP1:=hid (HP.out.below hb1 HP.out.lt);have HSC:=hid (HSM.out w1 hb1);clear hb1 x0 x1 x2 x3 x4;have x0:=HP1.out.cell_ 0 (.int .i64 t.st) rfl;have x1:=HP1.out.cell_ 1 (.int .i64 t.sym) rfl;have x2:=HP1.out.cell_ 2 (.slice hA t.hood.length hc) rfl;have x3:=HP1.out.cell_ 3 (.slice vA t.vs.length vc) rfl;have x4:=HP1.out.cell_ 4 (.slice rA t.rs.length rc) rfl;go_wp2_with (go_at_call 15;refine HSC.out.mono ?_;rintro e w2 ⟨rfl,hb2⟩;refine Hid.out ?_);refine hid ?_;have HB2:=hid (HB1.out.trans (hb2.mono HB1.out.size));have HP2:=hid (HP.out.below HB2.out HP.out.lt);clear hb2 x0 x1 x2 x3 x4 HB1 HP1 HSC;have x4:=HP2.out.cell_ 4 (.slice rA t.rs.length rc) rfl;have x0:=HP2.out.cell_ 0 (.int .i64 t.st) rfl;obtain⟨nx,hnx⟩:∃ al,al=aliveTo t.tab q t.hood.length (q ^ t.hood.length):=⟨_,rfl⟩
   rw[← hnx] at HUS HE;have HAL:Hid (nx.length=t.rs.length):=hid (by rw[hnx,aliveTo_len];unfold TabH.tab;simp);clear hnx;go_upto_region 5 with fail
   clear x0 x4;refine wp_region_J (by kernel_rfl) (fun listed act w'=>∃ b0 b1 b2 b3 b4 b5 b6 v13 v14 v15 v16 v17 v18 v4,listed=#[b0,b1,b2,b3,b4,b5,b6]∧act=Act.mk #[.agg #[.int .i64 t.st,.int .i64 t.sym,.slice hA t.hood.length hc,.slice vA t.vs.length vc,.slice rA t.rs.length rc],.pointer (some ⟨w.heap.size,0,none⟩),.slice none 0 0,.int .i64 0,v4,undef,undef,.agg #[.int .i64 t.st,.int .i64 t.sym,.slice hA t.hood.length hc,.slice vA t.vs.length vc,.slice rA t.rs.length rc],.bool true,.bool false,.agg #[.int .i64 t.st,.int .i64 t.sym,.slice hA t.hood.length hc,.slice vA t.vs.length vc,.slice rA t.rs.length rc],.bool true,.bool false,v13,v14,v15,v16,v17,v18,undef,undef,undef,undef,undef,undef,undef,undef,undef,undef,undef,undef,undef,undef,undef,undef] []∧RdeJ w2 (.agg #[.int .i64 t.st,.int .i64 t.sym,.slice hA t.hood.length hc,.slice vA t.vs.length vc,.slice rA t.rs.length rc]) (w.heap.size) (.slice rA t.rs.length rc) (t.rs.length) (nx) b0 b1 b2 b3 b4 b5 b6 v13 v14 v15 v16 v17 v18 v4 w') ?_ ?_ ?_
   ·exact (e_8 (e_4 (e_2 ⟨rfl,rfl,(by constructor;(case below=>exact ((Below.refl _ w2).drew));all_goals simp)⟩)))
   ·rintro i listed act w' hi ⟨b0,b1,b2,b3,b4,b5,b6,v13,v14,v15,v16,v17,v18,v4,rfl,rfl,H⟩;have hi16:i < 7:=by
     obtain⟨-,o,ho,-⟩:=mem_ready.1 hi;exact (Array.getElem?_eq_some_iff.1 ho).1
    obtain rfl | rfl | rfl | rfl | rfl | rfl | rfl:i=0∨i=1∨i=2∨i=3∨i=4∨i=5∨i=6:=by omega
    all_goals simp[mem_ready,Region.binds] at hi
    ·have hB:=H.below;have hcc:=HP2.out.below hB HP2.out.lt;have cc0:=hcc.cell_ 0 (.int .i64 t.st) rfl;have cc1:=hcc.cell_ 1 (.int .i64 t.sym) rfl;have cc2:=hcc.cell_ 2 (.slice hA t.hood.length hc) rfl;have cc3:=hcc.cell_ 3 (.slice vA t.vs.length vc) rfl;have cc4:=hcc.cell_ 4 (.slice rA t.rs.length rc) rfl;clear hcc;clear hB;refine wpOp_hidden rfl fun K hK=>?_;go_wp2;refine OnlyN.mk (hK.out _ _ (e_8 (e_4 (e_2 ⟨rfl,rfl,{ H with h0:=fun _=>rfl }⟩))))
    ·refine wpOp_hidden rfl fun K hK=>?_;go_wp2;refine OnlyN.mk (hK.out _ _ (e_8 (e_4 (e_2 ⟨rfl,rfl,{ H with h1:=fun _=>rfl }⟩))))
    ·obtain rfl:=H.h1 (by simp[hi]);have hB:=H.below;have hcc:=HP2.out.below hB HP2.out.lt;have cc4:=hcc.cell_ 4 (.slice rA t.rs.length rc) rfl;clear hcc;clear hB;refine wpOp_hidden rfl fun K hK=>?_;go_wp2;refine OnlyN.mk (hK.out _ _ (e_8 (e_4 (e_2 ⟨rfl,rfl,{ H with h2:=fun _=>rfl }⟩))))
    ·obtain rfl:=H.h2 (by simp[hi]);refine wpOp_hidden rfl fun K hK=>?_;go_wp2;refine OnlyN.mk (hK.out _ _ (e_8 (e_4 (e_2 ⟨rfl,rfl,{ H with h3:=fun _=>rfl }⟩))))
    ·obtain rfl:=H.h3 (by simp[hi]);have hB:=H.below;have HBW:=hid hB;clear hB;refine wpOp_hidden rfl fun K hK=>?_;obtain⟨i0,hi0,hz0,hz1,hz2⟩:=info_parts Tryz.infoBool;have hrs400:t.rs.length≤400:=H400.out;refine wpList_make_full w' rfl _ _ 62 rfl w'.heap.size 4 i0 _ 1 Tryz.underlying62 hi0 hz0 hz1 .i64 .i64 t.rs.length t.rs.length t.rs.length rfl rfl rfl rfl (by rw[hz2];omega) (by unfold maxLen;omega) (Nat.le_refl _) ?_;intro w9 ho9 hg9;rw[show (Value.bool false).cells=#[Value.bool false] from rfl,toList_madeCells_one,Nat.mul_one] at ho9;have hb9:Below w'.heap.size w' w9:=(Below.refl _ w').grown hg9 (Nat.le_refl _) (by intro k hk;cases hk);have hob:OwnBl w9 0 (.slice (some ⟨w'.heap.size,0,none⟩) t.rs.length t.rs.length) (List.replicate t.rs.length false):=by
      unfold OwnBl;rw[List.length_replicate,List.map_replicate];exact own_weak ho9 (Nat.zero_le _)
     have HO9:=hid hob;clear hg9 hi0 hz0 hz1 hz2 ho9 hob hrs400;have HB9:=hid hb9;have HBN:=hid (HBW.out.trans (hb9.mono HBW.out.size));clear hb9;go_wp2;refine OnlyN.mk (hK.out _ _ (e_8 (e_4 (e_2 ⟨rfl,rfl,{ H with below:=HBN.out,x4:=fun _=>⟨_,rfl,HO9.out⟩,x5:=fun h=>(H.x5 h).imp fun u h=>⟨h.1,own_below h.2 HB9.out⟩ }⟩))))
    ·obtain rfl:=H.h0 (by simp[hi]);have hB:=H.below;obtain⟨u5,e5,ho5⟩:=H.x4 (by simp[hi]);subst e5;have HC5:=hid (HUS.out w' v17 (HB2.out.trans (hB.mono HB2.out.size)) ho5);clear ho5;have HBW:=hid hB;clear hB;refine wpOp_hidden rfl fun K hK=>?_;go_wp2_with (go_at_call 38;refine HC5.out.mono ?_;rintro en w9 ⟨u9,rfl,ho9,hb9⟩;refine Hid.out ?_);refine hid ?_;have HO9:=hid ho9;clear HC5 ho9;have HB9:=hid hb9;have HBN:=hid (HBW.out.trans (hb9.mono HBW.out.size));clear hb9;go_wp2;refine OnlyN.mk (hK.out _ _ (e_8 (e_4 (e_2 ⟨rfl,rfl,⟨H.h0,H.h1,H.h2,H.h3,HBN.out,fun h=>(H.x4 h).imp fun u h=>⟨h.1,own_below h.2 HB9.out⟩,fun _=>⟨u9,rfl,HO9.out⟩,fun h=>absurd (H.q6 h) (by simp[hi]),fun _=>rfl⟩⟩))))
    ·refine wpOp_hidden rfl fun K hK=>?_;go_wp2;refine OnlyN.mk (hK.out _ _ (e_8 (e_4 (e_2 ⟨rfl,rfl,{ H with w6:=fun _=>rfl,q6:=fun _=>(by simp[hi]) }⟩))))
   ·rintro listed act w' hr ⟨b0,b1,b2,b3,b4,b5,b6,v13,v14,v15,v16,v17,v18,v4,rfl,rfl,H⟩;have hn:=List.eq_nil_iff_forall_not_mem.1 hr;have r0:=hn 0;simp[mem_ready,Region.binds] at r0;subst r0;have r1:=hn 1;simp[mem_ready,Region.binds] at r1;subst r1;have r2:=hn 2;simp[mem_ready,Region.binds] at r2;subst r2;have r3:=hn 3;simp[mem_ready,Region.binds] at r3;subst r3;have r4:=hn 4;simp[mem_ready,Region.binds] at r4;subst r4;have r5:=hn 5;simp[mem_ready,Region.binds] at r5;subst r5;have r6:=hn 6;simp[mem_ready,Region.binds] at r6;subst r6;try dsimp only
    obtain⟨u5,e5,ho5⟩:=H.x5 rfl;obtain rfl:=e5;obtain rfl:=H.w6 rfl;have HB6:=hid (HB2.out.trans (H.below.mono HB2.out.size));obtain⟨w5,rfl⟩:∃ W:World,W=w':=⟨_,rfl⟩
    have HB5:Hid (Below w.heap.size w w5):=hid (HB0.out.trans (HB6.out.mono HB0.out.size));obtain⟨oA,oc,eov,-,-⟩:=own_form ho5;rw[HAL.out] at eov;subst eov;have HO5:=hid ho5;clear H hr hn ho5;go_wp2;go_loopw [5,6] (fun ov iv wr=>∃ i:Nat,i≤t.rs.length∧iv=.int .i64 i∧Hid (OwnIA wr w5.heap.size ov (deadL nx i))∧Hid (Below w5.heap.size w5 wr)) (fun _ iv _=>t.rs.length - (intOf iv).toNat)
    case atStart=>exact⟨0,Nat.zero_le _,rfl,hid (OwnI.nil _ _ _),hid (Below.refl _ _)⟩
    case round=>
     obtain⟨i,hi,rfl,HO,HB⟩:=hrel;by_cases hil:i < t.rs.length
     ·have hwi:wrap64 ((i:Int)+1)=(i:Int)+1:=by unfold wrap64;omega
      have HI:=hid hil;have HWI:=hid hwi;have hor:=own_below HO5.out HB.out;obtain⟨g,eA,ck⟩:=OwnBl.at_ hor (i:=i) (by rw[HAL.out];exact hil);subst eA;clear hi hwi hor;cases hb:nx.getD i false with
      | true=>
       rw[hb] at ck;have ho2:=HO.out;rw[← deadL_no hb] at ho2;have HO2:=hid ho2;clear hb ho2;go_wp2;go_roundw
       case rel=>exact⟨i+1,HI.out,(by first | rfl | (rw[HWI.out];rfl)),HO2,HB⟩
       case measure=>(try rw[HWI.out]);exact meas_step HI.out
      | false=>
       rw[hb] at ck;have HBF:=hid hb;have hown:=HO.out;have hln:(deadL nx i).length < 1000000000000:=by have:=deadL_len nx i;have:=H400.out;omega
       have hbs:=HB.out.size;clear hb;go_wp2_with (at_builtin;refine wpList_pushI rfl _ _ _ rfl w5.heap.size 3 Tryz.underlying38 Tryz.infoInt _ _ rfl hown _ rfl hln hbs ?_);intro v' w7 ho' hb';have HO7:Hid (OwnIA w7 w5.heap.size v' (deadL nx (i+1))):=hid (by rw[deadL_yes HBF.out];exact ho');have HB7:=hid (HB.out.trans hb');clear ho' hb' hown hln hbs ck;go_wp2;go_roundw
       case rel=>exact⟨i+1,HI.out,(by first | rfl | (rw[HWI.out];rfl)),HO7,HB7⟩
       case measure=>(try rw[HWI.out]);exact meas_step HI.out
     ·obtain rfl:i=t.rs.length:=Nat.le_antisymm hi (Nat.le_of_not_lt hil);have HOE:=own_weak HO.out HB5.out.size;have HOEH:=hid HOE;clear hi hil HOE;go_wp2;go_ret2;exact⟨_,by first | (rw[HE.out.2];done) | (rw[HE.out.2];rfl),by rw[HE.out.1];exact HOEH.out,HB5.out.trans (HB.out.mono HB5.out.size)⟩
end Go.Proofs.YtlegfdllipkggaaGreatDoor
