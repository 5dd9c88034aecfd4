/-
  texts Red Eq EqP SameT Equal RHood RRight RedP FI Alc TrV: parts of the proof; conditions stand with each theorem.
-/
import Derived.Test.YtlegfdllipkggaaGreatDoorWG4
import Derived.Test.YtlegfdllipkggaaGreatDoorRows
import Derived.Test.YtlegfdllipkggaaGreatDoorWG0
import Derived.Test.YtlegfdllipkggaaGreatDoorWG1
namespace Go.Proofs.YtlegfdllipkggaaGreatDoor
open Lib(hid)
open Go.RowKit
set_option maxRecDepth 100000
set_option linter.unusedVariables false
set_option linter.unusedSimpArgs false

structure PT where
 st:Int
 ps:List (Int × Int)
 ns:List Nd
def PT.zero:PT:=⟨0,[],[]⟩
def PT.right (t:PT):Bool:=rightN t.st t.ps t.ns
def RetT (t:PT)(w:World)(e:Ending)(w':World):Prop:=RetTree t.st t.ps t.ns w e w'
def redT (t:PT):PT:=if t.right then ⟨t.st,t.ps,redN chR t.ns⟩ else PT.zero
theorem RetTree.form {st:Int}{ps:List (Int × Int)}{ns:List Nd}{w w':World}{e:Ending}(h:RetTree st ps ns w e w') :
  ∃ A c B d os,e=.returned (.agg #[.int .i64 st,.slice A ps.length c,.slice B os.length d])∧OwnP 56 w' w.heap.size (.slice A ps.length c) ps∧OwnNA w' w.heap.size (.slice B os.length d) os∧Pts w' A ps∧Nds w' B os∧os.map Hd.nd=ns∧Below w.heap.size w w':=by
 obtain⟨hv,nv,os,h1,h2,h3,h4,h5⟩:=h;obtain⟨A,c,e1,p1,-⟩:=h2.pts;obtain⟨B,d,e2,p2,-⟩:=h3.nds;subst e1 e2;exact⟨A,c,B,d,os,h1,h2,h3,p1,p2,h4,h5⟩
theorem redn_any (st:Int)(A:Option Addr)(c:Nat)(ps:List (Int × Int))(B:Option Addr)(d:Nat)(hs:List Hd)(w:World)(hp:Pts w A ps)(hN:Nds w B hs)(ht:TabB w.heap.size w)(hr:rightN st ps (hs.map Hd.nd)=true) :
  Calls Tryz.prog 57 #[.agg #[.int .i64 st,.slice A ps.length c,.slice B hs.length d],.func (.func 58) #[] #[]] w (RetTree st ps (redN chR (hs.map Hd.nd)) w):=by
 obtain⟨a1,a2,a3,a4,a5,a6,a7,a8,a9⟩:=rightN_parts hr;rw[List.length_map] at a4 a5;exact rebuilt_red chR st A c ps B d hs w hp hN st.toNat (by omega) (by omega) a8 (fun i hi=>by have:=a9 i (by rw[List.length_map];exact hi);omega) (chR_chg _) (by omega) (by omega) (by omega) ht
  (fun W base g cx zs lv _ _ _ _ _ _ ho=>clR_any W base g cx zs lv ho)
set_option maxHeartbeats 4000000 in
theorem reduce_any (st:Int)(A:Option Addr)(c:Nat)(ps:List (Int × Int))(B:Option Addr)(d:Nat)(hs:List Hd)(w:World)(hp:Pts w A ps)(hN:Nds w B hs)(ht:TabB w.heap.size w) :
  Calls Tryz.prog 41 #[.agg #[.int .i64 st,.slice A ps.length c,.slice B hs.length d]] w (RetT (redT ⟨st,ps,hs.map Hd.nd⟩) w):=by
 obtain⟨w0,hw0⟩:∃ w0,w0=(w.alloc (.cells #[.int .i64 st,.slice A ps.length c,.slice B hs.length d] 31)).alloc (.cells #[.int .i64 0,.slice none 0 0,.slice none 0 0] 31):=⟨_,rfl⟩
 have hb1:=below_new w (.cells #[.int .i64 st,.slice A ps.length c,.slice B hs.length d] 31);have hb0:Below w.heap.size w w0:=by rw[hw0];exact hb1.alloc hb1.size _
 have p0:Blk w0 w.heap.size 31 #[.int .i64 st,.slice A ps.length c,.slice B hs.length d]:=by rw[hw0];exact (Blk.new w _ _).alloc _
 have q0:Blk w0 (w.heap.size+1) 31 #[.int .i64 0,.slice none 0 0,.slice none 0 0]:=by
  rw[hw0];have:=Blk.new (w.alloc (.cells #[.int .i64 st,.slice A ps.length c,.slice B hs.length d] 31)) 31 #[.int .i64 0,.slice none 0 0,.slice none 0 0];simpa using this
 have HR:=hid (right_any st A c ps B d hs w0 (hp.ext hb0) (hN.ext hb0));have HP:=hid (hp.ext hb0);have HN:=hid (hN.ext hb0);have HT:=hid (ht.on hb0);have HB0:=hid hb0;have HP0:=hid p0;have HQ0:=hid q0;have HW0:=hid hw0;have c0:=p0.cell_ 0 (.int .i64 st) rfl;have c1:=p0.cell_ 1 (.slice A ps.length c) rfl;have c2:=p0.cell_ 2 (.slice B hs.length d) rfl;have hred:redT ⟨st,ps,hs.map Hd.nd⟩=if rightN st ps (hs.map Hd.nd) then ⟨st,ps,redN chR (hs.map Hd.nd)⟩ else PT.zero:=rfl
 rw[hred];clear hb1 hb0 p0 q0 hw0 hp hN ht hred;cases hr:rightN st ps (hs.map Hd.nd) with
 | false=>
  rw[hr] at HR;clear hr;go_enter Tryz.func41,Tryz.ntmps41;go_upto_region 1 with fail
  rw[← HW0.out];go_wp2_with (go_at_call 40;refine HR.out.mono ?_);rintro e w1 ⟨rfl,hb⟩;have q1:=HQ0.out.below hb HQ0.out.lt;have HQ1:=hid q1;have d0:=q1.cell_ 0 (.int .i64 0) rfl;have d1:=q1.cell_ 1 (.slice none 0 0) rfl;have d2:=q1.cell_ 2 (.slice none 0 0) rfl;have f0:=q1.frozen 0;have f1:=q1.frozen 1;have f2:=q1.frozen 2;have HB:=hid (HB0.out.trans (hb.mono HB0.out.size));clear q1 hb c0 c1 c2;go_wp2;have hq:Blk (((w1.setCell ⟨w.heap.size+1,0,none⟩ (.int .i64 0)).setCell ⟨w.heap.size+1,1,none⟩ (.slice none 0 0)).setCell ⟨w.heap.size+1,2,none⟩ (.slice none 0 0)) (w.heap.size+1) 31 #[.int .i64 0,.slice none 0 0,.slice none 0 0]:=((HQ1.out.set_ 0 (.int .i64 0)).set_ 1 (.slice none 0 0)).set_ 2 (.slice none 0 0);exact bodyPost_ret (results_cell_row Tryz.results41 _ _ (w.heap.size+1) 31 #[.int .i64 0,.slice none 0 0,.slice none 0 0] (0,0) _ rfl hq Tryz.underlying31 rfl Tryz.sizeTree) rfl
   ⟨_,_,[],rfl,OwnP.nil _ _ _,OwnN.nil _ _ _ _,rfl,((HB.out.setCell (p:=⟨w.heap.size+1,0,none⟩) (by simp) _).setCell (p:=⟨w.heap.size+1,1,none⟩) (by simp) _).setCell (p:=⟨w.heap.size+1,2,none⟩) (by simp) _⟩
 | true=>
  rw[hr] at HR;have HRR:=hid hr;clear hr;go_enter Tryz.func41,Tryz.ntmps41;go_upto_region 1 with fail
  rw[← HW0.out];go_wp2_with (go_at_call 40;refine HR.out.mono ?_);rintro e w1 ⟨rfl,hb⟩;have q1:=HQ0.out.below hb HQ0.out.lt;have p1:=HP0.out.below hb HP0.out.lt;have HQ1:=hid q1;have c0':=p1.cell_ 0 (.int .i64 st) rfl;have c1':=p1.cell_ 1 (.slice A ps.length c) rfl;have c2':=p1.cell_ 2 (.slice B hs.length d) rfl;have HBw:=hid (HB0.out.trans (hb.mono HB0.out.size));have HCALL:=hid (redn_any st A c ps B d hs w1 (HP.out.ext hb) (HN.out.ext hb) ((HT.out.on (hb.mono HB0.out.size)).up (Nat.le_trans HB0.out.size hb.size)) HRR.out);clear q1 p1 hb c0 c1 c2;go_wp2_with (go_at_call 57;refine HCALL.out.mono ?_;intro e w2 hrt;obtain⟨A2,c2,B2,d2,os,rfl,h1,h2,-,-,h3,h4⟩:=hrt.form;refine Hid.out ?_);refine hid ?_;have q2:=HQ1.out.below h4 HQ1.out.lt;have HQ2:=hid q2;have d0:=q2.cell_ 0 (.int .i64 0) rfl;have d1:=q2.cell_ 1 (.slice none 0 0) rfl;have d2':=q2.cell_ 2 (.slice none 0 0) rfl;have f0:=q2.frozen 0;have f1:=q2.frozen 1;have f2:=q2.frozen 2;have HO1:=hid h1;have HO2:=hid h2;have HO3:=hid h3;have HB2:=hid h4;clear hrt h1 h2 h3 h4 q2 HCALL c0' c1' c2';go_wp2;have hq:Blk (((w2.setCell ⟨w.heap.size+1,0,none⟩ (.int .i64 st)).setCell ⟨w.heap.size+1,1,none⟩ (.slice A2 ps.length c2)).setCell ⟨w.heap.size+1,2,none⟩ (.slice B2 os.length d2)) (w.heap.size+1) 31 #[.int .i64 st,.slice A2 ps.length c2,.slice B2 os.length d2]:=((HQ2.out.set_ 0 (.int .i64 st)).set_ 1 (.slice A2 ps.length c2)).set_ 2 (.slice B2 os.length d2);have hk:Kept (fun g=>g=w.heap.size+1) w2 (((w2.setCell ⟨w.heap.size+1,0,none⟩ (.int .i64 st)).setCell ⟨w.heap.size+1,1,none⟩ (.slice A2 ps.length c2)).setCell ⟨w.heap.size+1,2,none⟩ (.slice B2 os.length d2)):=(((Kept.refl (fun g=>g=w.heap.size+1) w2).setCell (p:=⟨w.heap.size+1,0,none⟩) (Or.inl rfl) _).setCell (p:=⟨w.heap.size+1,1,none⟩) (Or.inl rfl) _).setCell (p:=⟨w.heap.size+1,2,none⟩) (Or.inl rfl) _;refine bodyPost_ret (results_cell_row Tryz.results41 _ _ (w.heap.size+1) 31 #[.int .i64 st,.slice A2 ps.length c2,.slice B2 os.length d2] (0,0) _ rfl hq Tryz.underlying31 rfl Tryz.sizeTree) rfl
   ⟨_,_,os,rfl,?_,?_,HO3.out,?_⟩
  ·exact hk.own (own_down HO1.out HBw.out.size) (fun g e e2=>by subst e2;exact own_blk_ne' HO1.out HQ2.out (by decide) e)
  ·exact OwnN.kept ⟨own_down HO2.out.1 HBw.out.size,fun x hx=>(HO2.out.2 x hx).down HBw.out.size⟩ hk (fun g e e2=>by subst e2;exact own_blk_ne' HO2.out.1 HQ2.out (by decide) e) (fun x hx g e e2=>by subst e2;exact own_blk_ne' (HO2.out.2 x hx) HQ2.out (by decide) e)
  ·exact (HBw.out.trans (HB2.out.mono HBw.out.size)).trans (hk.to_below (by have:=HBw.out.size;have:=HB2.out.size;omega) (fun g hg e=>by omega))
end Go.Proofs.YtlegfdllipkggaaGreatDoor
namespace Go.Proofs.YtlegfdllipkggaaGreatDoor
set_option linter.unusedSimpArgs false
set_option linter.unusedVariables false
open Go.RowKit
theorem take_eq_snoc {α:Type}{xs ys:List α}{k:Nat}(h:xs.take k=ys.take k)(h1:k < xs.length)(h2:k < ys.length)(h3:xs[k]=ys[k]):xs.take (k+1)=ys.take (k+1):=by
 rw[List.take_succ_eq_append_getElem h1,List.take_succ_eq_append_getElem h2,h,h3]
set_option maxRecDepth 100000
theorem Tryz.stood_pt:Tryz.prog.stoodInHeld 56=false:=by kernel_rfl
theorem Tryz.guard_pt:Tryz.prog.eqGuardType Tryz.prog.depth 56=false:=by kernel_rfl
theorem neq_pt (a b c d:Int)(w:World):(binOp .neq 56 (.agg #[.int .i64 a,.int .i64 b]) (.agg #[.int .i64 c,.int .i64 d])).run Tryz.prog w=.ok (.bool (ptNe a b c d)) w:=by
 have h1:=Tryz.stood_pt;simp[go_sem,h1];unfold ptNe;by_cases h2:a=c <;> by_cases h3:b=d <;> simp[h2,h3]
theorem eql_pt (a b c d:Int)(w:World):(binOp .eql 56 (.agg #[.int .i64 a,.int .i64 b]) (.agg #[.int .i64 c,.int .i64 d])).run Tryz.prog w=.ok (.bool (ptEq a b c d)) w:=by
 have h1:=Tryz.stood_pt;simp[go_sem,h1];unfold ptEq;by_cases h2:a=c <;> by_cases h3:b=d <;> simp[h2,h3]
set_option maxRecDepth 100000

theorem nd_take {hs ks:List Hd}{k:Nat}(h1:k < hs.length)(h2:k < ks.length)(h:(hs.take k).map Hd.nd=(ks.take k).map Hd.nd)(h3:hs[k].nd=ks[k].nd):(hs.take (k+1)).map Hd.nd=(ks.take (k+1)).map Hd.nd:=by
 rw[List.take_succ_eq_append_getElem h1,List.take_succ_eq_append_getElem h2,List.map_append,List.map_append,h];simp[h3]
def sameP (a b:PT):Bool:=decide (a.st=b.st) && decide (a.ps=b.ps) && decide (a.ns=b.ns)
set_option maxRecDepth 100000

def TreeAt (w:World)(v:Value)(t:PT):Prop:=∃ A c B d os,v=.agg #[.int .i64 t.st,.slice A t.ps.length c,.slice B os.length d]∧Pts w A t.ps∧Nds w B os∧os.map Hd.nd=t.ns
theorem TreeAt.ext {w w':World}{v:Value}{t:PT}(h:TreeAt w v t)(hb:Below w.heap.size w w'):TreeAt w' v t:=by
 obtain⟨A,c,B,d,os,h1,h2,h3,h4⟩:=h;exact⟨A,c,B,d,os,h1,h2.ext hb,h3.ext hb,h4⟩
theorem RetT.treeAt {t:PT}{w w':World}{e:Ending}(h:RetT t w e w'):∃ v,e=.returned v∧TreeAt w' v t∧Below w.heap.size w w':=by
 obtain⟨A,c,B,d,os,h1,-,-,h2,h3,h4,h5⟩:=RetTree.form h;exact⟨_,h1,⟨A,c,B,d,os,rfl,h2,h3,h4⟩,h5⟩
end Go.Proofs.YtlegfdllipkggaaGreatDoor
namespace Go.Proofs.YtlegfdllipkggaaGreatDoor
open Lib(hid)
open Go.RowKit
set_option maxRecDepth 100000
set_option linter.unusedVariables false
set_option linter.unusedSimpArgs false

theorem bef_ord (x' y' x y:Int):(decide (y' < y) || (y' == y && decide (x' < x)))=decide (ordP x' y' x y < 0):=by
 unfold ordP Lib.compareInt;by_cases h1:y' < y
 ·simp[h1]
 ·by_cases h2:y'=y
  ·subst h2;by_cases h3:x' < x
   ·simp[h3]
   ·by_cases h4:x' > x
    ·simp[h3,h4]
    ·simp[h3,h4]
  ·have h3:y' > y:=by omega
   have h4:¬ y' < y:=h1;simp[h1,h2,h3]
set_option maxHeartbeats 1000000 in
theorem rbefore_any (x' y' x y:Int)(w:World):Calls Tryz.prog 53 #[ptV x' y',ptV x y] w fun e w'=>e=.returned (.bool (decide (ordP x' y' x y < 0)))∧Below w.heap.size w w':=by
 rw[← bef_ord];unfold ptV;by_cases h1:y' < y
 ·have d1:decide (y' < y)=true:=decide_eq_true h1;rw[d1,Bool.true_or];clear h1;go_enter Tryz.func53,Tryz.ntmps53;go_wp2;go_ret;exact⟨rfl,(below_new w _).alloc (below_new w _).size _⟩
 ·have d1:decide (y' < y)=false:=decide_eq_false h1;rw[d1,Bool.false_or];by_cases h2:y'=y
  ·have e2:(y' == y)=true:=by simp[h2]
   rw[e2,Bool.true_and];clear h1 h2;go_enter Tryz.func53,Tryz.ntmps53;go_wp2;go_ret;exact⟨rfl,(below_new w _).alloc (below_new w _).size _⟩
  ·have e2:(y' == y)=false:=by simpa using h2
   rw[e2,Bool.false_and];clear h1 h2;go_enter Tryz.func53,Tryz.ntmps53;go_wp2;go_ret;exact⟨rfl,(below_new w _).alloc (below_new w _).size _⟩
set_option maxHeartbeats 16000000 in
theorem rhood_any (A:Option Addr)(c:Nat)(ps:List (Int × Int))(w:World)(ha:Pts w A ps) :
  Calls Tryz.prog 31 #[.slice A ps.length c] w fun e w'=>e=.returned (.bool (hoodB ps))∧Below w.heap.size w w':=by
 have hn:=ha.le;by_cases h1:ps.length < 1
 ·have d1:decide ((ps.length:Int) < 1)=true:=decide_eq_true (by omega);have HE:Hid (hoodB ps=false):=hid (by unfold hoodB;rw[decide_eq_false (by omega:¬ 1≤ps.length)];rfl);clear h1;go_enter Tryz.func31,Tryz.ntmps31;go_wp2;go_ret;exact⟨ret_bool (by rw[HE.out] <;> rfl),Below.refl _ _⟩
 have d1:decide ((ps.length:Int) < 1)=false:=decide_eq_false (by omega);by_cases h2:25 < ps.length
 ·have d2:decide ((25:Int) < (ps.length:Int))=true:=decide_eq_true (by omega);have HE:Hid (hoodB ps=false):=hid (by unfold hoodB;rw[decide_eq_false (by omega:¬ ps.length≤25),Bool.and_false];rfl);clear h1 h2;go_enter Tryz.func31,Tryz.ntmps31;go_wp2;go_ret;exact⟨ret_bool (by rw[HE.out] <;> rfl),Below.refl _ _⟩
 have d2:decide ((25:Int) < (ps.length:Int))=false:=decide_eq_false (by omega);have HL:=hid (show 1≤ps.length∧ps.length≤25 by omega);have HE:Hid (hoodB ps=chainH none ps):=hid (by unfold hoodB;rw[decide_eq_true HL.out.1,decide_eq_true HL.out.2];rfl);have HA:=hid ha;clear h1 h2 ha;go_enter Tryz.func31,Tryz.ntmps31;go_wp2;go_loopw [3] (fun i wr=>∃ k:Nat,k≤ps.length∧i=.int .i64 k∧Hid (Below w.heap.size w wr)∧Hid (chainH none ps=chainH (prevH ps k) (ps.drop k))) (fun i _=>ps.length - (intOf i).toNat)
 case atStart=>exact⟨0,Nat.zero_le _,rfl,hid (Below.refl _ _),hid rfl⟩
 case round=>
  obtain⟨k,hk,rfl,HB,HT⟩:=hrel;by_cases hlt:k < ps.length
  ·obtain⟨b1,o1,e1,hb1,hc0,hc1⟩:=(HA.out.ext HB.out).at_ hlt;have hpre:0 < k→wr.cell? ⟨b1,o1+(k - 1)*2,none⟩=some (.int .i64 (ps[k - 1]'(by omega)).1)∧wr.cell? ⟨b1,o1+(k - 1)*2+1,none⟩=some (.int .i64 (ps[k - 1]'(by omega)).2):=fun h=>by
    obtain⟨b1',o1',e1',-,h0,h1⟩:=(HA.out.ext HB.out).at_ (k:=k - 1) (by omega);rw[e1] at e1';injection e1' with e1'
    injection e1' with e2 e3
    subst e2 e3;exact⟨h0,h1⟩
   obtain⟨cx,hcx⟩:∃ cx,cx=ps[k]:=⟨_,rfl⟩
   rw[← hcx] at hc0 hc1;have HCX:=hid hcx;have HPRE:=hid hpre;have HLT:=hid hlt;obtain⟨x,y⟩:=cx;dsimp only at hc0 hc1;have hw1:wrap64 ((k:Int)+1)=(k:Int)+1:=by have:=HL.out;unfold wrap64;omega
   obtain⟨wb,hwb⟩:∃ wb,wb=wr.alloc (.cells #[.int .i64 x,.int .i64 y] 56):=⟨_,rfl⟩
   have hnb:=below_new wr (.cells #[.int .i64 x,.int .i64 y] 56);have p0:=Blk.new wr 56 #[.int .i64 x,.int .i64 y];rw[← hwb] at hnb p0;have P0:=cell_regrown (p0.cell_ 0 (.int .i64 x) rfl);have P1:=cell_regrown (p0.cell_ 1 (.int .i64 y) rfl);have HB2:=hid (HB.out.trans (hnb.mono HB.out.size));have HW:=hid hwb;have HNB:=hid hnb;clear hcx hpre p0 hnb hwb hk;by_cases a1:x < -2
   ·have e1d:decide (x < -2)=true:=decide_eq_true a1;have HF:Hid (chainH none ps=false):=hid (by rw[HT.out];exact chainH_no HLT.out (by rw[← HCX.out];unfold okH rngB;dsimp only;rw[decide_eq_false (by omega:¬ -2≤x)] <;> rfl));subst e1;go_upto_region 7 with fail
    rw[← HW.out];refine wp_region_quiet_below (by kernel_rfl) (by kernel_rfl) ?_;repeat (go_big_quiet_step (fail))
    refine wpQuiet_nil ?_;intro _ hw';obtain⟨⟨dq,osq⟩,hw''⟩:=hw';subst hw'';go_wp2;go_ret;exact⟨ret_bool (by rw[HE.out,HF.out] <;> rfl),HB2.out.trans ((below_regrown wb dq osq).mono HB2.out.size)⟩
   have f1:decide (x < -2)=false:=decide_eq_false a1;by_cases a2:2 < x
   ·have e2d:decide (2 < x)=true:=decide_eq_true a2;have HF:Hid (chainH none ps=false):=hid (by rw[HT.out];exact chainH_no HLT.out (by rw[← HCX.out];unfold okH rngB;dsimp only;rw[decide_eq_false (by omega:¬ x≤2)];simp));subst e1;go_upto_region 7 with fail
    rw[← HW.out];refine wp_region_quiet_below (by kernel_rfl) (by kernel_rfl) ?_;repeat (go_big_quiet_step (fail))
    refine wpQuiet_nil ?_;intro _ hw';obtain⟨⟨dq,osq⟩,hw''⟩:=hw';subst hw'';go_wp2;go_ret;exact⟨ret_bool (by rw[HE.out,HF.out] <;> rfl),HB2.out.trans ((below_regrown wb dq osq).mono HB2.out.size)⟩
   have f2:decide (2 < x)=false:=decide_eq_false a2;by_cases a3:y < -2
   ·have e3d:decide (y < -2)=true:=decide_eq_true a3;have HF:Hid (chainH none ps=false):=hid (by rw[HT.out];exact chainH_no HLT.out (by rw[← HCX.out];unfold okH rngB;dsimp only;rw[decide_eq_false (by omega:¬ -2≤y)];simp));subst e1;go_upto_region 7 with fail
    rw[← HW.out];refine wp_region_quiet_below (by kernel_rfl) (by kernel_rfl) ?_;repeat (go_big_quiet_step (fail))
    refine wpQuiet_nil ?_;intro _ hw';obtain⟨⟨dq,osq⟩,hw''⟩:=hw';subst hw'';go_wp2;go_ret;exact⟨ret_bool (by rw[HE.out,HF.out] <;> rfl),HB2.out.trans ((below_regrown wb dq osq).mono HB2.out.size)⟩
   have f3:decide (y < -2)=false:=decide_eq_false a3;by_cases a4:2 < y
   ·have e4d:decide (2 < y)=true:=decide_eq_true a4;have HF:Hid (chainH none ps=false):=hid (by rw[HT.out];exact chainH_no HLT.out (by rw[← HCX.out];unfold okH rngB;dsimp only;rw[decide_eq_false (by omega:¬ y≤2)];simp));subst e1;go_upto_region 7 with fail
    rw[← HW.out];refine wp_region_quiet_below (by kernel_rfl) (by kernel_rfl) ?_;repeat (go_big_quiet_step (fail))
    refine wpQuiet_nil ?_;intro _ hw';obtain⟨⟨dq,osq⟩,hw''⟩:=hw';subst hw'';go_wp2;go_ret;exact⟨ret_bool (by rw[HE.out,HF.out] <;> rfl),HB2.out.trans ((below_regrown wb dq osq).mono HB2.out.size)⟩
   have f4:decide (2 < y)=false:=decide_eq_false a4;have HR:Hid (rngB (x,y)=true):=hid (by unfold rngB;dsimp only;rw[decide_eq_true (by omega:-2≤x),decide_eq_true (by omega:x≤2),decide_eq_true (by omega:-2≤y),decide_eq_true (by omega:y≤2)];rfl);by_cases hk0:0 < k
   ·obtain⟨k1,rfl⟩:∃ k1,k=k1+1:=⟨k - 1,by omega⟩
    obtain⟨q0,q1⟩:=HPRE.out hk0;simp only[Nat.add_sub_cancel] at q0 q1;have hw1':wrap64 ((k1:Int)+1+1)=(k1:Int)+1+1:=by have:=HL.out;unfold wrap64;omega
    have hwk:wrap64 ((k1:Int)+1 - 1)=k1:=by have:=HL.out;unfold wrap64;omega
    have hwk2:wrap64 (k1:Int)=k1:=by have:=HL.out;unfold wrap64;omega
    have hprev:prevH ps (k1+1)=some (ps[k1]'(by omega)):=List.getElem?_eq_getElem (by omega);obtain⟨qx,hqx⟩:∃ qx,qx=ps[k1]'(by omega):=⟨_,rfl⟩
    rw[← hqx] at q0 q1 hprev;obtain⟨x',y'⟩:=qx;dsimp only at q0 q1;have hk1l:k1 < ps.length:=by omega
    have HPV:=hid hprev;have Q0:=cell_regrown (w:=wb) (v:=.int .i64 x') (a:=⟨b1,o1+k1*2,none⟩) ((HNB.out.cell hb1).trans q0);have Q1:=cell_regrown (w:=wb) (v:=.int .i64 y') (a:=⟨b1,o1+k1*2+1,none⟩) ((HNB.out.cell hb1).trans q1);have cC:=fun d os=>Calls.regrown_of (w:=wb) (d:=d) (os:=os) (rbefore_any x' y' x y _);unfold ptV at cC;have CC:=hid cC;clear cC q0 q1 hprev hqx hk0 a1 a2 a3 a4;by_cases hcm:ordP x' y' x y < 0
    ·have g2:decide ((0:Int)≤ordP x' y' x y)=false:=decide_eq_false (by omega);have HOK:Hid (chainH (prevH ps (k1+1)) (ps.drop (k1+1))=chainH (prevH ps (k1+1+1)) (ps.drop (k1+1+1))):=hid (chainH_yes HLT.out (by rw[HPV.out,← HCX.out];unfold okH;rw[HR.out];simpa using hcm));simp only[decide_eq_true hcm] at CC;clear hcm g2;subst e1;go_upto_region 7 with fail
     rw[← HW.out];refine wp_region_quiet_below (by kernel_rfl) (by kernel_rfl) ?_;repeat (go_big_quiet_step (with_reducible exact CC.out _ _))
     refine wpQuiet_nil ?_;intro _ hw';obtain⟨⟨dq,osq⟩,hw''⟩:=hw';subst hw'';go_wp2;go_roundw
     case rel=>exact⟨k1+1+1,HLT.out,rfl,hid (HB2.out.trans ((below_regrown wb dq osq).mono HB2.out.size)),hid (HT.out.trans HOK.out)⟩
     case measure=>have:=HLT.out;simp[intOf];omega
    ·have g2:decide ((0:Int)≤ordP x' y' x y)=true:=decide_eq_true (by omega);have HF:Hid (chainH none ps=false):=hid (by rw[HT.out];exact chainH_no HLT.out (by rw[HPV.out,← HCX.out];unfold okH;rw[HR.out];simpa using hcm));simp only[decide_eq_false hcm] at CC;clear hcm g2;subst e1;go_upto_region 7 with fail
     rw[← HW.out];refine wp_region_quiet_below (by kernel_rfl) (by kernel_rfl) ?_;repeat (go_big_quiet_step (with_reducible exact CC.out _ _))
     refine wpQuiet_nil ?_;intro _ hw';obtain⟨⟨dq,osq⟩,hw''⟩:=hw';subst hw'';go_wp2;go_ret;exact⟨ret_bool (by rw[HE.out,HF.out] <;> rfl),HB2.out.trans ((below_regrown wb dq osq).mono HB2.out.size)⟩
   ·obtain rfl:k=0:=by omega
    have HOK:Hid (chainH (prevH ps 0) (ps.drop 0)=chainH (prevH ps (0+1)) (ps.drop (0+1))):=hid (chainH_yes HLT.out (by rw[← HCX.out];unfold okH;rw[HR.out];rfl));simp only[Nat.zero_mul,Nat.add_zero] at hc0 hc1;clear a1 a2 a3 a4 hk0;subst e1;go_upto_region 7 with fail
    rw[← HW.out];refine wp_region_quiet_below (by kernel_rfl) (by kernel_rfl) ?_;repeat (go_big_quiet_step (fail))
    refine wpQuiet_nil ?_;intro _ hw';obtain⟨⟨dq,osq⟩,hw''⟩:=hw';subst hw'';go_wp2;go_roundw
    case rel=>exact⟨0+1,HLT.out,rfl,hid (HB2.out.trans ((below_regrown wb dq osq).mono HB2.out.size)),hid (HT.out.trans HOK.out)⟩
    case measure=>have:=HLT.out;simp[intOf];omega
  ·have HF:Hid (chainH none ps=true):=hid (by
    have h:=HT.out;rw[List.drop_of_length_le (by omega)] at h;exact h)
   go_wp2;go_ret;exact⟨ret_bool (by rw[HE.out,HF.out] <;> rfl),HB.out⟩

set_option maxHeartbeats 16000000 in
theorem rright_any (st:Int)(A:Option Addr)(c:Nat)(ps:List (Int × Int))(B:Option Addr)(d:Nat)(hs:List Hd)(w:World)(hp:Pts w A ps)(hN:Nds w B hs) :
  Calls Tryz.prog 63 #[.agg #[.int .i64 st,.slice A ps.length c,.slice B hs.length d]] w fun e w'=>e=.returned (.bool (rightN st ps (hs.map Hd.nd)))∧Below w.heap.size w w':=by
 have hn:=hN.le;have hpl:=hp.le;obtain⟨w0,hw0⟩:∃ w0,w0=w.alloc (.cells #[.int .i64 st,.slice A ps.length c,.slice B hs.length d] 31):=⟨_,rfl⟩
 have hb0:=below_new w (.cells #[.int .i64 st,.slice A ps.length c,.slice B hs.length d] 31);have p0:=Blk.new w 31 #[.int .i64 st,.slice A ps.length c,.slice B hs.length d];rw[← hw0] at hb0 p0;have P0:=p0.cell_ 0 (.int .i64 st) rfl;have P1:=p0.cell_ 1 (.slice A ps.length c) rfl;have C2:=p0.cell_ 2 (.slice B hs.length d) rfl;have HB0:=hid hb0;have HP0:=hid p0;have HW0:=hid hw0;have HN:=hid (hN.ext hb0);have hH:=rhood_any A c ps w0 (hp.ext hb0);clear hb0 p0 hw0 hp hN;by_cases a1:st < 2
 ·have e1:decide (st < 2)=true:=decide_eq_true a1;have HF:Hid (rightN st ps (hs.map Hd.nd)=false):=hid (by unfold rightN headB;rw[decide_eq_false (by omega:¬ 2≤st)];rfl);clear hH;go_enter Tryz.func63,Tryz.ntmps63;go_upto_region 2 with fail
  rw[← HW0.out];go_wp2;go_ret;exact⟨ret_bool (by rw[HF.out] <;> rfl),HB0.out⟩
 have f1:decide (st < 2)=false:=decide_eq_false a1;by_cases a2:8 < st
 ·have e2:decide (8 < st)=true:=decide_eq_true a2;have HF:Hid (rightN st ps (hs.map Hd.nd)=false):=hid (by unfold rightN headB;rw[decide_eq_false (by omega:¬ st≤8)];simp);clear hH;go_enter Tryz.func63,Tryz.ntmps63;go_upto_region 2 with fail
  rw[← HW0.out];go_wp2;go_ret;exact⟨ret_bool (by rw[HF.out] <;> rfl),HB0.out⟩
 have f2:decide (8 < st)=false:=decide_eq_false a2;cases hh:hoodB ps with
 | false=>
  rw[hh] at hH;have HF:Hid (rightN st ps (hs.map Hd.nd)=false):=hid (by unfold rightN headB;rw[hh];simp);have HH1:=hid hH;clear hh hH;go_enter Tryz.func63,Tryz.ntmps63;go_upto_region 2 with fail
  rw[← HW0.out];go_wp2_with (go_at_call 31;refine HH1.out.mono ?_);first | rintro e w1 rfl hb | rintro e w1 ⟨rfl,hb⟩
  have HBr:=hid hb;have HB1:=hid (HB0.out.trans (hb.mono HB0.out.size));clear hb;go_wp2;go_ret;exact⟨ret_bool (by rw[HF.out] <;> rfl),HB1.out⟩
 | true=>
  rw[hh] at hH;have HH:=hid hh;have HH1:=hid hH;clear hh hH;by_cases a3:hs.length < 1
  ·have e3:decide ((hs.length:Int) < 1)=true:=decide_eq_true (by omega);have HF:Hid (rightN st ps (hs.map Hd.nd)=false):=hid (by unfold rightN headB;rw[List.length_map,decide_eq_false (by omega:¬ 1≤hs.length)];simp);go_enter Tryz.func63,Tryz.ntmps63;go_upto_region 2 with fail
   rw[← HW0.out];go_wp2_with (go_at_call 31;refine HH1.out.mono ?_);first | rintro e w1 rfl hb | rintro e w1 ⟨rfl,hb⟩
   have HBr:=hid hb;have HB1:=hid (HB0.out.trans (hb.mono HB0.out.size));clear hb;go_wp2;go_ret;exact⟨ret_bool (by rw[HF.out] <;> rfl),HB1.out⟩
  have f3:decide ((hs.length:Int) < 1)=false:=decide_eq_false (by omega);by_cases a4:4096 < hs.length
  ·have e4:decide ((4096:Int) < (hs.length:Int))=true:=decide_eq_true (by omega);have HF:Hid (rightN st ps (hs.map Hd.nd)=false):=hid (by unfold rightN headB;rw[List.length_map,decide_eq_false (by omega:¬ hs.length≤4096)];simp);go_enter Tryz.func63,Tryz.ntmps63;go_upto_region 2 with fail
   rw[← HW0.out];go_wp2_with (go_at_call 31;refine HH1.out.mono ?_);first | rintro e w1 rfl hb | rintro e w1 ⟨rfl,hb⟩
   have HBr:=hid hb;have HB1:=hid (HB0.out.trans (hb.mono HB0.out.size));clear hb;go_wp2;go_ret;exact⟨ret_bool (by rw[HF.out] <;> rfl),HB1.out⟩
  have f4:decide ((4096:Int) < (hs.length:Int))=false:=decide_eq_false (by omega);obtain⟨n1,hn1⟩:∃ n1,hs.length=n1+1:=⟨hs.length - 1,by omega⟩
  have HLEN:=hid (And.intro hn1 (show hs.length≤4096 by omega));have HST:=hid (show 2≤st∧st≤8 by omega);have HP25:Hid (ps.length≤25):=hid (by
   have h:=HH.out;unfold hoodB at h;simp only[Bool.and_eq_true,decide_eq_true_eq] at h;exact h.1.2)
  clear hn1 a1 a2 a3 a4;go_enter Tryz.func63,Tryz.ntmps63;go_upto_region 2 with fail
  rw[← HW0.out];go_wp2_with (go_at_call 31;refine HH1.out.mono ?_);first | rintro e w1 rfl hb | rintro e w1 ⟨rfl,hb⟩
  have HBr:=hid hb;have HB1:=hid (HB0.out.trans (hb.mono HB0.out.size));clear hb;clear P0 P1 C2 f1 f2 hpl hn;go_wp2;clear f3 f4;go_loopw [4] (fun i wr=>∃ k:Nat,k≤hs.length∧i=.int .i64 k∧Hid (Below w0.heap.size w0 wr)∧Hid (allF (nodeB st ps.length (hs.map Hd.nd)) hs.length 0=allF (nodeB st ps.length (hs.map Hd.nd)) (hs.length - k) k)) (fun i _=>hs.length - (intOf i).toNat)
  case atStart=>exact⟨0,Nat.zero_le _,rfl,HBr,hid rfl⟩
  case round=>
   clear HB1 HBr;obtain⟨k,hk,rfl,HBW,HT⟩:=hrel;have hpw:=HP0.out.below HBW.out HP0.out.lt;by_cases hlt:k < hs.length
   ·obtain⟨nb,no,eB,hnb,hc0,hc1,hzI⟩:=(HN.out.ext HBW.out).at_ hlt;have HNB:=hid (And.intro eB hnb);have hndk:=ndl_at hs hlt;obtain⟨x,hx⟩:∃ x,x=hs[k]:=⟨_,rfl⟩
    rw[← hx] at hc0 hc1 hzI hndk;obtain⟨lv,zA,zc,zs⟩:=x;dsimp only at hc0 hc1 hzI;change ndAt (hs.map Hd.nd) k=(lv,zs) at hndk;have HND:=hid hndk;have hw1:wrap64 ((k:Int)+1)=(k:Int)+1:=by have:=HLEN.out;unfold wrap64;omega
    have HLT:=hid hlt;have HBN:Hid (nodeB st ps.length (hs.map Hd.nd) k=false→rightN st ps (hs.map Hd.nd)=false):=hid (fun h=>by
     unfold rightN;rw[List.length_map,HT.out,allF_at HLT.out,h]
     simp)
    obtain⟨wx,hwx⟩:∃ wx,wx=wr.alloc (.cells #[.int .i64 lv,.slice zA zs.length zc] 58):=⟨_,rfl⟩
    have hbx:=below_new wr (.cells #[.int .i64 lv,.slice zA zs.length zc] 58);have hG:=Blk.new wr 58 #[.int .i64 lv,.slice zA zs.length zc];rw[← hwx] at hbx hG;obtain⟨gX,hgX⟩:∃ gX,gX=wr.heap.size:=⟨_,rfl⟩
    rw[← hgX] at hG;have cg0:=hG.cell_ 0 (.int .i64 lv) rfl;have cg1:=hG.cell_ 1 (.slice zA zs.length zc) rfl;have hpx:=hpw.below hbx hpw.lt;have cw2:=hpw.cell_ 2 (.slice B hs.length d) rfl;have ct0:=hpx.cell_ 0 (.int .i64 st) rfl;have ct1:=hpx.cell_ 1 (.slice A ps.length c) rfl;have ct2:=hpx.cell_ 2 (.slice B hs.length d) rfl;have HZI:=hid (hzI.ext hbx);have HBX:=hid hbx;have HBX2:Hid (Below w.heap.size w wx):=hid ((HB0.out.trans (HBW.out.mono HB0.out.size)).trans (hbx.mono (by have:=HB0.out.size;have:=HBW.out.size;omega)));clear hx hndk hzI hbx hG hpx hpw hnb;subst eB;go_upto_region 8 with fail
    rw[← hwx,← hgX];clear hwx hgX hc0 hc1 cw2;by_cases v1:lv < 1
    ·have j1:decide (lv < 1)=true:=decide_eq_true v1;have HF:Hid (rightN st ps (hs.map Hd.nd)=false):=hid (HBN.out (by unfold nodeB;rw[HND.out];dsimp only;rw[decide_eq_false (by omega:¬ 1≤lv)] <;> rfl));go_wp2;go_ret;exact⟨ret_bool (by rw[HF.out] <;> rfl),HBX2.out⟩
    have j1:decide (lv < 1)=false:=decide_eq_false v1;by_cases v2:(ps.length:Int) < lv
    ·have j2:decide ((ps.length:Int) < lv)=true:=decide_eq_true v2;have HF:Hid (rightN st ps (hs.map Hd.nd)=false):=hid (HBN.out (by unfold nodeB;rw[HND.out];dsimp only;rw[decide_eq_false (by omega:¬ lv≤(ps.length:Int))];simp));go_wp2;go_ret;exact⟨ret_bool (by rw[HF.out] <;> rfl),HBX2.out⟩
    have j2:decide ((ps.length:Int) < lv)=false:=decide_eq_false v2;by_cases v3:(zs.length:Int)=st
    ·have j3:((zs.length:Int) != st)=false:=by simp[v3]
     have HV1:=hid v1;have HV2:=hid v2;have HV3:=hid v3;have HBAD:Hid (zs.all (kidB st lv (hs.map Hd.nd) k)=false→rightN st ps (hs.map Hd.nd)=false):=hid (fun h=>HBN.out (by unfold nodeB;rw[HND.out];dsimp only;rw[h];simp));clear v1 v2 v3 hk hlt;go_wp2;clear j1 j2 j3;go_loopw [6] (fun i wi=>∃ m q:Nat,m≤zs.length∧i=.int .i64 m∧wi=wx.drewN q∧Hid (zs.all (kidB st lv (hs.map Hd.nd) k)=(zs.drop m).all (kidB st lv (hs.map Hd.nd) k))) (fun i _=>zs.length - (intOf i).toNat)
     case atStart=>exact⟨0,0,Nat.zero_le _,rfl,rfl,hid (by simp)⟩
     case round=>
      obtain⟨m,qd,hm,rfl,rfl,HTI⟩:=hrel;by_cases hml:m < zs.length
      ·obtain⟨bz,oz,ez,-,hcm⟩:=HZI.out.at_ hml;obtain⟨z,hz⟩:∃ z,z=zs[m]:=⟨_,rfl⟩
       rw[← hz] at hcm;have hwm:wrap64 ((m:Int)+1)=(m:Int)+1:=by have:=HV3.out;have:=HST.out;unfold wrap64;omega
       have hms:decide ((m:Int) < st)=true:=decide_eq_true (by have:=HV3.out;omega);have hlt:=HLT.out;subst ez;by_cases z0:z < 0
       ·have g0:decide (z < 0)=true:=decide_eq_true z0;have HF:Hid (rightN st ps (hs.map Hd.nd)=false):=hid (HBAD.out (by rw[HTI.out,all_drop hml,← hz];unfold kidB;rw[decide_eq_false (by omega:¬ 0≤z)] <;> rfl));clear hz;go_wp2;go_ret;exact⟨ret_bool (by rw[HF.out] <;> rfl),below_drewN HBX2.out _⟩
       ·have g0:decide (z < 0)=false:=decide_eq_false z0;by_cases l1:lv=1
        ·have j1:(lv == 1)=true:=by simp[l1]
         have j2:decide (1 < lv)=false:=decide_eq_false (by omega);have HL1:=hid l1;clear l1;by_cases z1:st≤z
         ·have g1:decide (st≤z)=true:=decide_eq_true z1;have HF:Hid (rightN st ps (hs.map Hd.nd)=false):=hid (HBAD.out (by rw[HTI.out,all_drop hml,← hz];unfold kidB;rw[j1,decide_eq_false (by omega:¬ z < st)];simp));clear hz;go_wp2;go_ret;exact⟨ret_bool (by rw[HF.out] <;> rfl),below_drewN HBX2.out _⟩
         ·have g1:decide (st≤z)=false:=decide_eq_false z1;have HOK:Hid (zs.all (kidB st lv (hs.map Hd.nd) k)=(zs.drop (m+1)).all (kidB st lv (hs.map Hd.nd) k)):=hid (by rw[HTI.out,all_drop hml,← hz];unfold kidB;rw[j1,j2,decide_eq_true (by omega:0≤z),decide_eq_true (by omega:z < st)];simp);clear hz;go_wp2;go_quiet (fail)
          go_wp2;go_roundw
          case rel=>exact⟨m+1,_,hml,(by rw[hwm];rfl),rfl,HOK⟩
          case measure=>rw[hwm];simp[intOf];omega
        ·have j1:(lv == 1)=false:=by simpa using l1
         have j2:decide (1 < lv)=true:=decide_eq_true (by have:=HV1.out;omega);by_cases z1:(k:Int)≤z
         ·have g1:decide ((k:Int)≤z)=true:=decide_eq_true z1;have HF:Hid (rightN st ps (hs.map Hd.nd)=false):=hid (HBAD.out (by rw[HTI.out,all_drop hml,← hz];unfold kidB;rw[j1,j2,decide_eq_false (by omega:¬ z < (k:Int))];simp));clear hz;go_wp2;go_quiet (fail)
          go_wp2;go_ret;exact⟨ret_bool (by rw[HF.out] <;> rfl),below_drewN (below_drewN HBX2.out _) _⟩
         ·have g1:decide ((k:Int)≤z)=false:=decide_eq_false z1;obtain⟨nb',no',eB',-,hk0,-,-⟩:=(HN.out.ext HBW.out).at_ (k:=z.toNat) (by omega);injection eB' with eB'
          injection eB' with eb1 eb2
          subst eb1 eb2;have hkx:wx.cell? ⟨nb,no+z.toNat*2,none⟩=some (.int .i64 (hs[z.toNat]'(by omega)).lv):=(HBX.out.cell (p:=⟨nb,no+z.toNat*2,none⟩) HNB.out.2).trans hk0;have hlz:(ndAt (hs.map Hd.nd) z.toNat).1=(hs[z.toNat]'(by omega)).lv:=by rw[ndl_at hs (by omega)];rfl
          obtain⟨y,hy⟩:∃ y,y=(hs[z.toNat]'(by omega)).lv:=⟨_,rfl⟩
          rw[← hy] at hkx hlz;have HLZ:=hid hlz;have hzl:z < (hs.length:Int):=by omega
          have hz0:0≤z:=by omega
          have hwl:wrap64 (lv - 1)=lv - 1:=by have h1:=HV1.out;have h2:=HV2.out;have h3:=HP25.out;unfold wrap64;omega
          clear hk0 hlz hy;by_cases y1:y=lv - 1
          ·have g2:(y != lv - 1)=false:=by simp[y1]
           have HY:=hid y1;clear y1;have HOK:Hid (zs.all (kidB st lv (hs.map Hd.nd) k)=(zs.drop (m+1)).all (kidB st lv (hs.map Hd.nd) k)):=hid (by rw[HTI.out,all_drop hml,← hz];unfold kidB;rw[j1,j2,HLZ.out,HY.out,decide_eq_true (by omega:0≤z),decide_eq_true (by omega:z < (k:Int))];simp);clear hz;go_wp2;go_quiet (fail)
           go_wp2;go_roundw
           case rel=>exact⟨m+1,_,hml,(by rw[hwm];rfl),rfl,HOK⟩
           case measure=>rw[hwm];simp[intOf];omega
          ·have g2:(y != lv - 1)=true:=by simpa using y1
           have HY:=hid y1;clear y1;have HF:Hid (rightN st ps (hs.map Hd.nd)=false):=hid (HBAD.out (by rw[HTI.out,all_drop hml,← hz];unfold kidB;rw[j1,j2,HLZ.out,show (y == lv - 1)=false from by simpa using HY.out];simp));clear hz;go_wp2;go_quiet (fail)
           go_wp2;go_ret;exact⟨ret_bool (by rw[HF.out] <;> rfl),below_drewN (below_drewN HBX2.out _) _⟩
      ·have HALL:Hid (zs.all (kidB st lv (hs.map Hd.nd) k)=true):=hid (by
        have h:=HTI.out;rw[List.drop_of_length_le (by omega)] at h;exact h)
       have hms:decide ((m:Int) < st)=false:=decide_eq_false (by have:=HV3.out;omega);have HNX:Hid (allF (nodeB st ps.length (hs.map Hd.nd)) hs.length 0=allF (nodeB st ps.length (hs.map Hd.nd)) (hs.length - (k+1)) (k+1)):=hid (by
        rw[HT.out,allF_at HLT.out];have h:nodeB st ps.length (hs.map Hd.nd) k=true:=by
         unfold nodeB;rw[HND.out];dsimp only;rw[HALL.out,decide_eq_true (by have:=HV1.out;omega:1≤lv),decide_eq_true (by have:=HV2.out;omega:lv≤(ps.length:Int)),decide_eq_true HV3.out];rfl
        rw[h,Bool.true_and])
       have hlt:=HLT.out;clear cg0 cg1 ct1 ct2;go_wp2;go_roundw
       case rel=>exact⟨k+1,HLT.out,(by rw[hw1];rfl),hid (below_drewN (HBW.out.trans (HBX.out.mono HBW.out.size)) _),HNX⟩
       case measure=>rw[hw1];simp[intOf];omega
    ·have j3:((zs.length:Int) != st)=true:=by simpa using v3
     have HF:Hid (rightN st ps (hs.map Hd.nd)=false):=hid (HBN.out (by unfold nodeB;rw[HND.out];dsimp only;rw[decide_eq_false v3];simp));go_wp2;go_ret;exact⟨ret_bool (by rw[HF.out] <;> rfl),HBX2.out⟩
   ·obtain rfl:k=hs.length:=by omega
    obtain⟨hn1,-⟩:=HLEN.out;obtain⟨nb,no,eB,hnb,hl0,-,-⟩:=(HN.out.ext HBW.out).at_ (k:=n1) (by omega);have hlast:(ndAt (hs.map Hd.nd) ((hs.map Hd.nd).length - 1)).1=(hs[n1]'(by omega)).lv:=by
     rw[List.length_map,show hs.length - 1=n1 by omega,ndl_at hs (by omega)];rfl
    obtain⟨ll,hll⟩:∃ ll,ll=(hs[n1]'(by omega)).lv:=⟨_,rfl⟩
    rw[← hll] at hl0 hlast;have HF:Hid (rightN st ps (hs.map Hd.nd)=(ll == (ps.length:Int))):=hid (by
     have h:=HT.out;rw[Nat.sub_self] at h;unfold rightN headB;rw[hlast,HH.out,List.length_map,h,decide_eq_true HST.out.1,decide_eq_true HST.out.2,decide_eq_true (by omega:1≤hs.length),decide_eq_true HLEN.out.2];simp[allF,Bool.beq_eq_decide_eq])
    have hwn:wrap64 ((hs.length:Int) - 1)=(n1:Int):=by have:=HLEN.out;unfold wrap64;omega
    have hwn2:wrap64 (n1:Int)=(n1:Int):=by have:=HLEN.out;unfold wrap64;omega
    have hidx:((hs.length:Int) - 1)=(n1:Int):=by omega
    have hnl:n1 < hs.length:=by omega
    have x1:=hpw.cell_ 1 (.slice A ps.length c) rfl;have x2:=hpw.cell_ 2 (.slice B hs.length d) rfl;subst eB;clear hlast hll hn1 hk hlt hpw hnb;go_wp2;go_quiet (fail)
    go_wp2;go_ret;exact⟨ret_bool (by rw[HF.out] <;> rfl),below_drewN (HB0.out.trans (HBW.out.mono HB0.out.size)) _⟩
end Go.Proofs.YtlegfdllipkggaaGreatDoor
namespace Go.Proofs.YtlegfdllipkggaaGreatDoor
set_option linter.unusedSimpArgs false
set_option linter.unusedVariables false

theorem redN_ok {q:Nat}{l:List Nd}{ch:Int→List Int→List Int}(h:VNd q l)(hc:Chg q ch)(hp:0 < l.length)(hl:(ndAt l (l.length - 1)).1≤100) :
  VNd q (redN ch l)∧Dis (redN ch l) (· < (redN ch l).length)∧0 < (redN ch l).length∧Eqv q (redN ch l) ((redN ch l).length - 1) (chgL ch l) (l.length - 1)∧(redN ch l).length≤l.length:=by
 have hR:=RbI.all h hc _ (Nat.le_refl _);obtain⟨g1,g2,g3⟩:=hR.eqv (l.length - 1) (by omega);have hlv:(ndAt (chgL ch l) (l.length - 1)).1=(ndAt l (l.length - 1)).1:=by rw[chg_at ch (by omega)]
 obtain⟨o1,o2,o3,o4,o5,o6⟩:=ord_ok hR.v.lev hR.dis (f:=100) (root:=((rebTo ch l l.length).2.getD (l.length - 1) 0).toNat) (by rw[g3.1,hlv];omega) g2;have e:redN ch l=ord (rebTo ch l l.length).1 100 ((rebTo ch l l.length).2.getD (l.length - 1) 0).toNat:=rfl;rw[← e] at o1 o2 o3 o4 o5 o6;refine⟨⟨o1,o3,fun i hi hl1 z hz=>?_⟩,o2,o4,o5.trans g3,?_⟩
 ·obtain⟨j,pj,ej⟩:=o6 i hi;obtain⟨s,hs,rfl⟩:=List.getElem_of_mem hz;have hq:s < q:=by rw[← o1.len i hi];exact hs
  have hv:=ej.2 [s] (by rw[hl1];rfl) (by simpa using hq);simp only[val,Int.toNat_natCast] at hv;have hjl:=hR.v.lev.len j pj;have g:(ndAt (redN ch l) i).2.getD s 0=(ndAt (redN ch l) i).2[s]:=by rw[List.getD_eq_getElem?_getD,List.getElem?_eq_getElem hs];rfl
  rw[g] at hv;rw[hv];exact hR.v.low j pj (by rw[← ej.1];exact hl1) _ (getD_mem (by rw[hjl];exact hq))
 ·obtain⟨d1,-⟩:=dfs_ok hR.v.lev 100 ((rebTo ch l l.length).2.getD (l.length - 1) 0).toNat _ (by rw[g3.1,hlv];omega) g2 (Inv.start q (rebTo ch l l.length).1 (· < (rebTo ch l l.length).1.length));have:=d1.le;have:=hR.le;rw[e];unfold ord;omega
theorem redT_ok {t:PT}(h:t.right=true):VNd t.st.toNat (redT t).ns∧Dis (redT t).ns (· < (redT t).ns.length)∧0 < (redT t).ns.length∧Eqv t.st.toNat (redT t).ns ((redT t).ns.length - 1) t.ns (t.ns.length - 1)∧(redT t).ns.length≤t.ns.length∧(redT t).st=t.st∧(redT t).ps=t.ps:=by
 obtain⟨a1,a2,a3,a4,a5,a6,a7,a8,a9⟩:=rightN_parts h;have e:redT t=⟨t.st,t.ps,redN chR t.ns⟩:=by unfold redT;rw[if_pos h]
 rw[e];have:=redN_ok a8 (chR_chg _) (by omega) (by omega);rw[show chgL chR t.ns=t.ns from by unfold chgL chR;simp] at this;exact⟨this.1,this.2.1,this.2.2.1,this.2.2.2.1,this.2.2.2.2,rfl,rfl⟩
end Go.Proofs.YtlegfdllipkggaaGreatDoor
namespace Go.Proofs.YtlegfdllipkggaaGreatDoor
set_option linter.unusedSimpArgs false
open Go.RowKit
set_option linter.unusedVariables false

def fI {α:Type}(p:α→Bool):List α→Nat→Int
 | [],_=>-1
 | z :: r,k=>if p z then (k:Int) else fI p r (k+1)
theorem fI_any {α:Type}(p:α→Bool):∀ (l:List α)(k:Nat),decide (0≤fI p l k)=l.any p
 | [],k=>rfl
 | z :: r,k=>by
  unfold fI;rw[List.any_cons];cases h:p z with
  | true=>simp
  | false=>simp[fI_any p r (k+1)]
theorem fI_step {α:Type}(p:α→Bool){l:List α}{k:Nat}(h:k < l.length):fI p (l.drop k) k=if p l[k] then (k:Int) else fI p (l.drop (k+1)) (k+1):=by
 rw[List.drop_eq_getElem_cons h];rfl
def badS (st s:Int):Bool:=decide (s < 0) || decide (st≤s)
theorem meas_step {n k:Nat}(h:k < n):n - (intOf (.int .i64 ((k:Int)+1))).toNat < n - (intOf (.int .i64 (k:Int))).toNat:=by
 simp only[intOf];omega
end Go.Proofs.YtlegfdllipkggaaGreatDoor
namespace Go.Proofs.YtlegfdllipkggaaGreatDoor
set_option linter.unusedSimpArgs false
open Go.RowKit Go.Maps
set_option linter.unusedVariables false

theorem results_ct {P:Program}{fn:Func}{p u:Tmp}{ty:TypeId}(h:fn.results=#[.cell p ty,.tmp u])(tmps:Array Value)(w:World)(g:Nat)(t:TypeId)(cs:Array Value)(fr:Nat × Nat)(d:TypeDesc)
  (hp:tmps.getD p undef=.pointer (some ⟨g,0,none⟩)) (hg:w.heap[g]?=some (.cells cs t fr))
  (hu:P.underlying ty=some d) (hd:(match d with | .struct _ | .array _ _=>true | _=>false)=true) (hi:(P.info? ty).map (·.size)=some cs.size) :
  (results fn tmps).run P w=.ok (.tuple #[.agg cs,tmps.getD u undef]) w:=by
 rw[results_cell_tmp h,hp];simp[asAddr,run_loadVar_row w g t ty cs fr d hg hu hd hi,Result.andThen]
set_option maxRecDepth 100000

structure TrV (w:World)(p:Nat)(st:Int)(A:Option Addr)(n c:Nat)(B:Option Addr)(m d:Nat)(t:PT):Prop where
 blk:Blk w p 31 #[.int .i64 st,.slice A n c,.slice B m d]
 at_:TreeAt w (.agg #[.int .i64 st,.slice A n c,.slice B m d]) t
section
variable {w w' : World} {p : Nat} {st : Int} {A : Option Addr} {n c : Nat} {B : Option Addr} {m d : Nat} {t u : PT} {v x : Value} {k s : Int}
theorem TrV.ext (h:TrV w p st A n c B m d t)(hb:Below w.heap.size w w'):TrV w' p st A n c B m d t:=⟨h.blk.below hb h.blk.lt,h.at_.ext hb⟩
theorem TrV.new (h:TreeAt w (.agg #[.int .i64 st,.slice A n c,.slice B m d]) t):TrV (w.alloc (.cells #[.int .i64 st,.slice A n c,.slice B m d] 31)) w.heap.size st A n c B m d t:=⟨Blk.new _ _ _,h.ext (below_new _ _)⟩
theorem TrV.cells (h:TrV w p st A n c B m d t):w.cell? ⟨p,0,none⟩=some (.int .i64 st)∧w.cell? ⟨p,1,none⟩=some (.slice A n c)∧w.cell? ⟨p,2,none⟩=some (.slice B m d):=
 ⟨h.blk.cell_ 0 (.int .i64 st) rfl,h.blk.cell_ 1 (.slice A n c) rfl,h.blk.cell_ 2 (.slice B m d) rfl⟩
def RetA (t:PT)(w:World)(e:Ending)(w':World):Prop:=∃ st A n c B m d,e=.returned (.agg #[.int .i64 st,.slice A n c,.slice B m d])∧TreeAt w' (.agg #[.int .i64 st,.slice A n c,.slice B m d]) t∧Below w.heap.size w w'
def RetAE (te:PT × Int)(w:World)(e:Ending)(w':World):Prop:=∃ st A n c B m d,e=.returned (.tuple #[.agg #[.int .i64 st,.slice A n c,.slice B m d],.int .i64 te.2])∧TreeAt w' (.agg #[.int .i64 st,.slice A n c,.slice B m d]) te.1∧Below w.heap.size w w'
theorem TreeAt.form (h:TreeAt w v t):∃ st A n c B m d,v=.agg #[.int .i64 st,.slice A n c,.slice B m d]:=by
 obtain⟨A,c,B,d,os,rfl,-⟩:=h;exact⟨_,_,_,_,_,_,_,rfl⟩
theorem RetT.a {e:Ending}(h:RetT t w e w'):RetA t w e w':=by
 obtain⟨v,rfl,h2,h3⟩:=h.treeAt;obtain⟨st,A,n,c,B,m,d,rfl⟩:=h2.form;exact⟨st,A,n,c,B,m,d,rfl,h2,h3⟩
theorem red_tv (h:TreeAt w v t)(ht:TabB w.heap.size w):Calls Tryz.prog 41 #[v] w (RetA (redT t) w):=by
 obtain⟨A,c,B,d,os,rfl,h1,h2,h3⟩:=h;have:=reduce_any t.st A c t.ps B d os w h1 h2 ht;rw[h3] at this;exact this.mono fun _ _ h=>h.a
end
theorem OwnN.reads {w:World}{base:Nat}{A:Option Addr}{n c:Nat}{hs:List Hd}(h:OwnNA w base (.slice A n c) hs):Nds w A hs:=by
 obtain⟨A',c',e,hi,-⟩:=h.nds;injection e with e
 subst e;exact hi
end Go.Proofs.YtlegfdllipkggaaGreatDoor
