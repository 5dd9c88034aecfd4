/-
  texts Box BoxR Runs: parts of the proof; conditions stand with each theorem.
-/
import Derived.Test.YtcfelnhmifkelaaGreatDoorUG1
import Derived.Laws.OwnMore
namespace Go.Proofs.YtcfelnhmifkelaaGreatDoor
open Lib(hid)
open Go.RowKit
set_option maxRecDepth 100000
set_option linter.unusedVariables false
set_option linter.unusedSimpArgs false

structure Bx where
 x:Int
 y:Int
 w:Int
 h:Int
 deriving DecidableEq
def bxV (b:Bx):Value:=.agg #[.int .i64 b.x,.int .i64 b.y,.int .i64 b.w,.int .i64 b.h]
def hdC (ps:List Cel):Cel:=ps.headD ⟨0,0,0⟩
def lstC (ps:List Cel):Cel:=ps.getLastD ⟨0,0,0⟩
def lo (f:Cel→Int)(ps:List Cel)(k:Nat):Int:=(ps.take k).foldl (fun m c=>min m (f c)) (f (hdC ps))
def hi (f:Cel→Int)(ps:List Cel)(k:Nat):Int:=(ps.take k).foldl (fun m c=>max m (f c)) (f (hdC ps))
theorem lo_snoc (f:Cel→Int){ps:List Cel}{k:Nat}(h:k < ps.length):lo f ps (k+1)=min (lo f ps k) (f ps[k]):=by
 unfold lo;rw[List.take_succ_eq_append_getElem h,List.foldl_append];rfl
theorem hi_snoc (f:Cel→Int){ps:List Cel}{k:Nat}(h:k < ps.length):hi f ps (k+1)=max (hi f ps k) (f ps[k]):=by
 unfold hi;rw[List.take_succ_eq_append_getElem h,List.foldl_append];rfl
theorem lo_bd (f:Cel→Int){ps:List Cel}{a b:Int}(h0:ps≠[])(h:∀ c ∈ ps,a≤f c∧f c≤b):∀ k,a≤lo f ps k∧lo f ps k≤b:=by
 intro k;induction k with
 | zero=>
  have:lo f ps 0=f (hdC ps):=rfl;rw[this];apply h;cases ps with
  | nil=>exact absurd rfl h0
  | cons c l=>exact List.mem_cons_self
 | succ k ih=>
  by_cases hk:k < ps.length
  ·rw[lo_snoc f hk];have:=h ps[k] (List.getElem_mem hk);omega
  ·have:lo f ps (k+1)=lo f ps k:=by unfold lo;rw[List.take_of_length_le (by omega),List.take_of_length_le (by omega)]
   rw[this];exact ih
theorem hi_bd (f:Cel→Int){ps:List Cel}{a b:Int}(h0:ps≠[])(h:∀ c ∈ ps,a≤f c∧f c≤b):∀ k,a≤hi f ps k∧hi f ps k≤b:=by
 intro k;induction k with
 | zero=>
  have:hi f ps 0=f (hdC ps):=rfl;rw[this];apply h;cases ps with
  | nil=>exact absurd rfl h0
  | cons c l=>exact List.mem_cons_self
 | succ k ih=>
  by_cases hk:k < ps.length
  ·rw[hi_snoc f hk];have:=h ps[k] (List.getElem_mem hk);omega
  ·have:hi f ps (k+1)=hi f ps k:=by unfold hi;rw[List.take_of_length_le (by omega),List.take_of_length_le (by omega)]
   rw[this];exact ih
theorem chain_ok:∀ {ps:List Cel}{p:Option Cel},chainB p ps=true→∀ c ∈ ps,placeB c.x c.y=true∧1≤c.s∧c.s < 8
 | [],_,_,c,hc=>by cases hc
 | a :: l,p,h,c,hc=>by
  rw[chainB,Bool.and_eq_true] at h;rcases List.mem_cons.1 hc with rfl | hc
  ·have h1:=h.1;unfold okB at h1;simp only[Bool.and_eq_true,decide_eq_true_eq] at h1;exact⟨h1.1.1.1,h1.1.1.2,h1.1.2⟩
  ·exact chain_ok h.2 c hc
theorem place_bd {x y:Int}(h:placeB x y=true):-1048576≤x∧x≤1048576∧-1048576≤y∧y≤1048576:=by
 unfold placeB at h;simp only[Bool.and_eq_true,decide_eq_true_eq] at h;exact⟨h.1.1.1,h.1.1.2,h.1.2,h.2⟩
theorem right_bd {ps:List Cel}(h:rightC ps=true):∀ c ∈ ps,(-1048576≤c.x∧c.x≤1048576)∧(-1048576≤c.y∧c.y≤1048576)∧1≤c.s∧c.s < 8:=by
 intro c hc;unfold rightC at h;rw[Bool.and_eq_true] at h;have h1:=chain_ok h.2 c hc;have h2:=place_bd h1.1;exact⟨⟨h2.1,h2.2.1⟩,⟨h2.2.2.1,h2.2.2.2⟩,h1.2⟩
def boxC (ps:List Cel):Bx × Bool:=
 if ps≠[]∧rightC ps=true then (⟨lo (·.x) ps ps.length,(hdC ps).y,hi (·.x) ps ps.length - lo (·.x) ps ps.length+1,(lstC ps).y - (hdC ps).y+1⟩,true) else (⟨0,0,0,0⟩,false)
def boxR (ps:List Cel):Bx × Bool:=
 if ps≠[]∧rightC ps=true then (⟨lo (·.x) ps ps.length,lo (·.y) ps ps.length,hi (·.x) ps ps.length - lo (·.x) ps ps.length+1,hi (·.y) ps ps.length - lo (·.y) ps ps.length+1⟩,true) else (⟨0,0,0,0⟩,false)
set_option maxHeartbeats 8000000 in
theorem box_any (A:Option Addr)(c:Nat)(ps:List Cel)(w:World)(ha:Cls w A ps) :
  Calls Tryz.prog 44 #[.slice A ps.length c] w fun e w'=>e=.returned (.tuple #[bxV (boxC ps).1,.bool (boxC ps).2])∧Below w.heap.size w w':=by
 have hn:=ha.le;obtain⟨w0,hw0⟩:∃ w0,w0=w.alloc (.cells #[.int .i64 0,.int .i64 0,.int .i64 0,.int .i64 0] 73):=⟨_,rfl⟩
 have hb0:=below_new w (.cells #[.int .i64 0,.int .i64 0,.int .i64 0,.int .i64 0] 73);have br0:=Blk.new w 73 #[.int .i64 0,.int .i64 0,.int .i64 0,.int .i64 0];rw[← hw0] at hb0 br0;have HB0:=hid hb0;have BR0:=hid br0;have HW0:=hid hw0;clear hb0 br0 hw0;by_cases h0:ps=[]
 ·have E:Hid (boxC ps=(⟨0,0,0,0⟩,false)):=hid (by unfold boxC;rw[if_neg (fun h=>h.1 h0)]);subst h0;have r0:=BR0.out.cell_ 0 _ rfl;have r1:=BR0.out.cell_ 1 _ rfl;have r2:=BR0.out.cell_ 2 _ rfl;have r3:=BR0.out.cell_ 3 _ rfl;have g0:=BR0.out.frozen 0;have g1:=BR0.out.frozen 1;have g2:=BR0.out.frozen 2;have g3:=BR0.out.frozen 3;go_enter Tryz.func44,Tryz.ntmps44;go_upto_region 1 with fail
  rw[← HW0.out];go_wp2;refine bodyPost_ret (v:=.tuple #[.agg #[.int .i64 0,.int .i64 0,.int .i64 0,.int .i64 0],.bool false]) (by simp[results,Tryz.results44,go_sem,r0,r1,r2,r3]) rfl ?_;rw[E.out];exact⟨rfl,below_set4 HB0.out (Nat.le_refl _) _ _ _ _⟩
 have hpos:0 < ps.length:=List.length_pos_iff.2 h0;have HR:=hid (right_any A c ps w0 (ha.ext HB0.out));obtain⟨kr,hkr⟩:∃ k,k=rightC ps:=⟨_,rfl⟩
 rw[← hkr] at HR;have d0:((ps.length:Int) == 0)=false:=by simp;omega
 cases kr
 ·have E:Hid (boxC ps=(⟨0,0,0,0⟩,false)):=hid (by unfold boxC;rw[if_neg (by rw[← hkr];simp)]);clear hkr h0;go_enter Tryz.func44,Tryz.ntmps44;go_upto_region 1 with fail
  rw[← HW0.out];go_wp2_with fail;refine HR.out.mono ?_;rintro e w1 ⟨rfl,hb1⟩;have br:=BR0.out.below hb1 BR0.out.lt;have r0:=br.cell_ 0 _ rfl;have r1:=br.cell_ 1 _ rfl;have r2:=br.cell_ 2 _ rfl;have r3:=br.cell_ 3 _ rfl;have g0:=br.frozen 0;have g1:=br.frozen 1;have g2:=br.frozen 2;have g3:=br.frozen 3;have HBF:=hid (HB0.out.trans (hb1.mono HB0.out.size));clear hb1;go_wp2;refine bodyPost_ret (v:=.tuple #[.agg #[.int .i64 0,.int .i64 0,.int .i64 0,.int .i64 0],.bool false]) (by simp[results,Tryz.results44,go_sem,r0,r1,r2,r3]) rfl ?_;rw[E.out];exact⟨rfl,below_set4 HBF.out (Nat.le_refl _) _ _ _ _⟩
 have HBD:=hid (right_bd hkr.symm);have HE:Hid (boxC ps=(⟨lo (·.x) ps ps.length,(hdC ps).y,hi (·.x) ps ps.length - lo (·.x) ps ps.length+1,(lstC ps).y - (hdC ps).y+1⟩,true)):=hid (by unfold boxC;rw[if_pos ⟨h0,hkr.symm⟩]);have HNE:=hid h0;clear hkr h0;go_enter Tryz.func44,Tryz.ntmps44;go_upto_region 1 with fail
 rw[← HW0.out];go_wp2_with fail;refine HR.out.mono ?_;rintro e w1 ⟨rfl,hb1⟩;have HBR:=hid (BR0.out.below hb1 BR0.out.lt);have HB1:=hid (HB0.out.trans (hb1.mono HB0.out.size));clear hb1;obtain⟨b1,o1,e1,-,hc0,hc1,hc2⟩:=(ha.ext HB1.out).at_ hpos;have eh:ps[0]=hdC ps:=by cases ps with | nil=>simp at hpos | cons a l=>rfl
 rw[eh] at hc0 hc1 hc2;simp only[Nat.zero_mul,Nat.add_zero] at hc0 hc1 hc2;have HE1:=hid e1;subst e1;have hi0:(0:Int) < (ps.length:Int):=by omega
 obtain⟨h,hh⟩:∃ h,h=hdC ps:=⟨_,rfl⟩
 rw[← hh] at hc0 hc1 hc2;have HH:=hid hh;clear hh eh;go_upto_region 3 with fail
 go_quiet (fail)
 have HBR2:=hid (HBR.out.drewN nq);have HB2:=hid (below_drewN HB1.out nq);have hc1:(w1.drewN nq).cell? ⟨b1,o1+1,none⟩=some (.int .i64 h.y):=hc1;clear hc0 hc2 HBR HB1 HR;generalize w1.drewN nq=w2 at *;go_wp2;go_loopw [4,5,28] (fun l r i wr=>∃ k:Nat,k≤ps.length∧i=.int .i64 k∧l=.int .i64 (lo (·.x) ps k)∧r=.int .i64 (hi (·.x) ps k)∧Hid (Blk wr w.heap.size 73 #[.int .i64 0,.int .i64 0,.int .i64 0,.int .i64 0])∧Hid (Below w.heap.size w wr)) (fun _ _ i _=>ps.length - (intOf i).toNat)
 case atStart=>exact⟨0,Nat.zero_le _,rfl,by rw[HH.out];rfl,by rw[HH.out];rfl,HBR2,HB2⟩
 case round=>
  clear HBR2 HB2 hc1;obtain⟨k,hk,rfl,rfl,rfl,HBR,HB⟩:=hrel;by_cases hlt:k < ps.length
  ·obtain⟨b3,o3,e3,-,hd0,hd1,hd2⟩:=(ha.ext HB.out).at_ hlt;injection e3 with e3
   injection e3 with e4 e5
   subst e4 e5;have HLO:=hid (lo_snoc (·.x) hlt);have HHI:=hid (hi_snoc (·.x) hlt);obtain⟨L,hL⟩:∃ L,L=lo (·.x) ps k:=⟨_,rfl⟩
   obtain⟨R,hR⟩:∃ R,R=hi (·.x) ps k:=⟨_,rfl⟩
   rw[← hL] at HLO ⊢;rw[← hR] at HHI ⊢;obtain⟨cx,hcx⟩:∃ cx,cx=ps[k]:=⟨_,rfl⟩
   rw[← hcx] at hd0 hd1 hd2 HLO HHI;clear hL hR hcx;have hnb:=below_new wr (.cells #[.int .i64 cx.x,.int .i64 cx.y,.int .i64 cx.s] 114);obtain⟨wb,hwb⟩:∃ wb,wb=wr.alloc (.cells #[.int .i64 cx.x,.int .i64 cx.y,.int .i64 cx.s] 114):=⟨_,rfl⟩
   have p0:=Blk.new wr 114 #[.int .i64 cx.x,.int .i64 cx.y,.int .i64 cx.s];rw[← hwb] at hnb p0;have P0:=p0.cell_ 0 (.int .i64 cx.x) rfl;have HBR2:=hid (HBR.out.below hnb HBR.out.lt);have HB2:=hid (HB.out.trans (hnb.mono HB.out.size));have HW:=hid hwb;clear p0 hnb hwb;go_upto_region 7 with fail
   rw[← HW.out];go_quiet (fail)
   have HBR3:=hid (HBR2.out.drewN nq);have HB3:=hid (below_drewN HB2.out nq);go_wp2;go_roundw
   case rel=>exact⟨k+1,by omega,by go_num,by rw[HLO.out],by rw[HHI.out],HBR3,HB3⟩
   case measure=>simp[intOf];omega
  ·obtain rfl:k=ps.length:=by omega
   obtain⟨m,hm⟩:∃ m,ps.length=m+1:=⟨ps.length - 1,by omega⟩
   have hml:m < ps.length:=by omega
   obtain⟨b3,o3,e3,-,hd0,hd1,hd2⟩:=(ha.ext HB.out).at_ hml;injection e3 with e3
   injection e3 with e4 e5
   subst e4 e5;obtain⟨b4,o4,e3,-,hf0,hf1,hf2⟩:=(ha.ext HB.out).at_ hpos;injection e3 with e3
   injection e3 with e4 e5
   subst e4 e5;have el:ps[m]=lstC ps:=by
    unfold lstC;rw[List.getLastD_eq_getLast?,List.getLast?_eq_getElem?,hm];simp[List.getElem?_eq_getElem hml]
   have eh:ps[0]=hdC ps:=by cases ps with | nil=>simp at hpos | cons a l=>rfl
   have bl:=HBD.out ps[m] (List.getElem_mem hml);have bh:=HBD.out ps[0] (List.getElem_mem hpos);rw[el] at hd0 hd1 hd2 bl;rw[eh] at hf1 bh;simp only[Nat.zero_mul,Nat.add_zero] at hf1;have bL:=lo_bd (·.x) HNE.out (fun c hc=>(HBD.out c hc).1) ps.length;have bR:=hi_bd (·.x) HNE.out (fun c hc=>(HBD.out c hc).1) ps.length;obtain⟨L,hL⟩:∃ L,L=lo (·.x) ps ps.length:=⟨_,rfl⟩
   obtain⟨R,hR⟩:∃ R,R=hi (·.x) ps ps.length:=⟨_,rfl⟩
   obtain⟨hy,hhy⟩:∃ y,y=(hdC ps).y:=⟨_,rfl⟩
   obtain⟨ly,hly⟩:∃ y,y=(lstC ps).y:=⟨_,rfl⟩
   rw[← hL,← hR] at HE ⊢;rw[← hL] at bL;rw[← hR] at bR;rw[← hhy] at HE hf1 bh;rw[← hly] at HE hd1 bl;have hw1:wrap64 (R - L)=R - L:=by unfold wrap64;omega
   have hw2:wrap64 (R - L+1)=R - L+1:=by unfold wrap64;omega
   have hw3:wrap64 (ly - hy)=ly - hy:=by unfold wrap64;omega
   have hw4:wrap64 (ly - hy+1)=ly - hy+1:=by unfold wrap64;omega
   have hw5:wrap64 ((ps.length:Int) - 1)=(m:Int):=by unfold wrap64;omega
   have hml':(m:Int) < (ps.length:Int):=by omega
   have em:m=ps.length - 1:=by omega
   have r0:=HBR.out.cell_ 0 _ rfl;have r1:=HBR.out.cell_ 1 _ rfl;have r2:=HBR.out.cell_ 2 _ rfl;have r3:=HBR.out.cell_ 3 _ rfl;have g0:=HBR.out.frozen 0;have g1:=HBR.out.frozen 1;have g2:=HBR.out.frozen 2;have g3:=HBR.out.frozen 3;clear hL hR hhy hly bL bR bh bl el eh hm hd0 hd2 hf0 hf2;rw[em] at hd1;clear em hw5 hml';go_wp2;refine bodyPost_ret (v:=.tuple #[.agg #[.int .i64 L,.int .i64 hy,.int .i64 (R - L+1),.int .i64 (ly - hy+1)],.bool true]) (by simp[results,Tryz.results44,go_sem,r0,r1,r2,r3]) rfl ?_;rw[HE.out];exact⟨rfl,below_set4 HB.out (Nat.le_refl _) _ _ _ _⟩

/-! in a valid pattern the first cell is the highest, the last the lowest -/
theorem chain_y:∀ {ps:List Cel}{p:Cel},chainB (some p) ps=true→∀ c ∈ ps,p.y≤c.y
 | [],_,_,c,hc=>by cases hc
 | a :: l,p,h,c,hc=>by
  rw[chainB,Bool.and_eq_true] at h;have h1:p.y≤a.y:=by
   have:=h.1;unfold okB at this;simp only[Bool.and_eq_true] at this;have h2:=this.2;unfold befB at h2;simp only[Bool.or_eq_true,decide_eq_true_eq,Bool.and_eq_true,beq_iff_eq] at h2;omega
  rcases List.mem_cons.1 hc with rfl | hc
  ·exact h1
  ·have:=chain_y h.2 c hc;omega
theorem chain_last:∀ {ps:List Cel}{p:Option Cel},chainB p ps=true→∀ c ∈ ps,c.y≤(ps.getLastD ⟨0,0,0⟩).y
 | [],_,_,c,hc=>by cases hc
 | [a],_,_,c,hc=>by simp at hc;subst hc;exact Int.le_refl _
 | a :: b :: l,p,h,c,hc=>by
  rw[chainB,Bool.and_eq_true] at h;have e:((a :: b :: l).getLastD ⟨0,0,0⟩)=((b :: l).getLastD ⟨0,0,0⟩):=by simp[List.getLastD_eq_getLast?]
  rw[e];rcases List.mem_cons.1 hc with rfl | hc
  ·have h1:=chain_y h.2 b (by simp);have h2:=chain_last h.2 b (by simp);omega
  ·exact chain_last h.2 c hc
theorem lo_eq (f:Cel→Int){ps:List Cel}(h0:ps≠[])(h:∀ c ∈ ps,f (hdC ps)≤f c):∀ k,lo f ps k=f (hdC ps):=by
 intro k;induction k with
 | zero=>rfl
 | succ k ih=>
  by_cases hk:k < ps.length
  ·rw[lo_snoc f hk,ih];have:=h ps[k] (List.getElem_mem hk);omega
  ·have:lo f ps (k+1)=lo f ps k:=by unfold lo;rw[List.take_of_length_le (by omega),List.take_of_length_le (by omega)]
   rw[this,ih]
theorem hi_ge (f:Cel→Int){ps:List Cel}:∀ k j,(h:j < k)→(hk:k≤ps.length)→f (ps[j]'(by omega))≤hi f ps k:=by
 intro k;induction k with
 | zero=>intro j h;omega
 | succ k ih=>
  intro j h hk;rw[hi_snoc f (by omega)];by_cases hj:j=k
  ·subst hj;omega
  ·have:=ih j (by omega) (by omega);omega
theorem box_eq (ps:List Cel):boxR ps=boxC ps:=by
 unfold boxR boxC;by_cases h:ps≠[]∧rightC ps=true
 ·rw[if_pos h,if_pos h];have hr:=h.2;unfold rightC at hr;rw[Bool.and_eq_true] at hr;have h1:lo (·.y) ps ps.length=(hdC ps).y:=by
   refine lo_eq (·.y) h.1 ?_ _;intro c hc;cases ps with
   | nil=>cases hc
   | cons a l=>
    rcases List.mem_cons.1 hc with rfl | hc
    ·exact Int.le_refl _
    ·have h2:=hr.2;rw[chainB,Bool.and_eq_true] at h2;exact chain_y h2.2 c hc
  have h2:hi (·.y) ps ps.length=(lstC ps).y:=by
   have hmem:lstC ps ∈ ps:=by
    unfold lstC;rw[List.getLastD_eq_getLast?,List.getLast?_eq_some_getLast h.1];exact List.getLast_mem h.1
   obtain⟨j,hj,he⟩:=List.getElem_of_mem hmem;have h3:=hi_ge (·.y) ps.length j hj (Nat.le_refl _);have h4:=(hi_bd (·.y) (a:=-1048576) (b:=(lstC ps).y) h.1 (fun c hc=>⟨(right_bd h.2 c hc).2.1.1,chain_last hr.2 c hc⟩) ps.length).2;have h5:(ps[j]).y=(lstC ps).y:=by rw[he]
   omega
  rw[h1,h2]
 ·rw[if_neg h,if_neg h]
set_option maxHeartbeats 8000000 in
theorem rbox_any (A:Option Addr)(c:Nat)(ps:List Cel)(w:World)(ha:Cls w A ps) :
  Calls Tryz.prog 116 #[.slice A ps.length c] w fun e w'=>e=.returned (.tuple #[bxV (boxR ps).1,.bool (boxR ps).2])∧Below w.heap.size w w':=by
 have hn:=ha.le;obtain⟨w0,hw0⟩:∃ w0,w0=w.alloc (.cells #[.int .i64 0,.int .i64 0,.int .i64 0,.int .i64 0] 73):=⟨_,rfl⟩
 have hb0:=below_new w (.cells #[.int .i64 0,.int .i64 0,.int .i64 0,.int .i64 0] 73);have br0:=Blk.new w 73 #[.int .i64 0,.int .i64 0,.int .i64 0,.int .i64 0];rw[← hw0] at hb0 br0;have HB0:=hid hb0;have BR0:=hid br0;have HW0:=hid hw0;clear hb0 br0 hw0;by_cases h0:ps=[]
 ·have E:Hid (boxR ps=(⟨0,0,0,0⟩,false)):=hid (by unfold boxR;rw[if_neg (fun h=>h.1 h0)]);subst h0;have r0:=BR0.out.cell_ 0 _ rfl;have r1:=BR0.out.cell_ 1 _ rfl;have r2:=BR0.out.cell_ 2 _ rfl;have r3:=BR0.out.cell_ 3 _ rfl;have g0:=BR0.out.frozen 0;have g1:=BR0.out.frozen 1;have g2:=BR0.out.frozen 2;have g3:=BR0.out.frozen 3;go_enter Tryz.func116,Tryz.ntmps116;go_upto_region 1 with fail
  rw[← HW0.out];go_wp2;refine bodyPost_ret (v:=.tuple #[.agg #[.int .i64 0,.int .i64 0,.int .i64 0,.int .i64 0],.bool false]) (by simp[results,Tryz.results116,go_sem,r0,r1,r2,r3]) rfl ?_;rw[E.out];exact⟨rfl,below_set4 HB0.out (Nat.le_refl _) _ _ _ _⟩
 have hpos:0 < ps.length:=List.length_pos_iff.2 h0;have HR:=hid (rright_any A c ps w0 (ha.ext HB0.out));obtain⟨kr,hkr⟩:∃ k,k=rightC ps:=⟨_,rfl⟩
 rw[← hkr] at HR;have d0:((ps.length:Int) == 0)=false:=by simp;omega
 cases kr
 ·have E:Hid (boxR ps=(⟨0,0,0,0⟩,false)):=hid (by unfold boxR;rw[if_neg (by rw[← hkr];simp)]);clear hkr h0;go_enter Tryz.func116,Tryz.ntmps116;go_upto_region 1 with fail
  rw[← HW0.out];go_wp2_with fail;refine HR.out.mono ?_;rintro e w1 ⟨rfl,hb1⟩;have br:=BR0.out.below hb1 BR0.out.lt;have r0:=br.cell_ 0 _ rfl;have r1:=br.cell_ 1 _ rfl;have r2:=br.cell_ 2 _ rfl;have r3:=br.cell_ 3 _ rfl;have g0:=br.frozen 0;have g1:=br.frozen 1;have g2:=br.frozen 2;have g3:=br.frozen 3;have HBF:=hid (HB0.out.trans (hb1.mono HB0.out.size));clear hb1;go_wp2;refine bodyPost_ret (v:=.tuple #[.agg #[.int .i64 0,.int .i64 0,.int .i64 0,.int .i64 0],.bool false]) (by simp[results,Tryz.results116,go_sem,r0,r1,r2,r3]) rfl ?_;rw[E.out];exact⟨rfl,below_set4 HBF.out (Nat.le_refl _) _ _ _ _⟩
 have HBD:=hid (right_bd hkr.symm);have HE:Hid (boxR ps=(⟨lo (·.x) ps ps.length,lo (·.y) ps ps.length,hi (·.x) ps ps.length - lo (·.x) ps ps.length+1,hi (·.y) ps ps.length - lo (·.y) ps ps.length+1⟩,true)):=hid (by unfold boxR;rw[if_pos ⟨h0,hkr.symm⟩]);have HNE:=hid h0;clear hkr h0;go_enter Tryz.func116,Tryz.ntmps116;go_upto_region 1 with fail
 rw[← HW0.out];go_wp2_with fail;refine HR.out.mono ?_;rintro e w1 ⟨rfl,hb1⟩;have HBR:=hid (BR0.out.below hb1 BR0.out.lt);have HB1:=hid (HB0.out.trans (hb1.mono HB0.out.size));clear hb1;obtain⟨b1,o1,e1,-,hc0,hc1,hc2⟩:=(ha.ext HB1.out).at_ hpos;have eh:ps[0]=hdC ps:=by cases ps with | nil=>simp at hpos | cons a l=>rfl
 rw[eh] at hc0 hc1 hc2;simp only[Nat.zero_mul,Nat.add_zero] at hc0 hc1 hc2;have HE1:=hid e1;subst e1;have hi0:(0:Int) < (ps.length:Int):=by omega
 obtain⟨h,hh⟩:∃ h,h=hdC ps:=⟨_,rfl⟩
 rw[← hh] at hc0 hc1 hc2;have HH:=hid hh;clear hh eh;go_upto_region 3 with fail
 go_quiet (fail)
 have HBR2:=hid (HBR.out.drewN nq);have HB2:=hid (below_drewN HB1.out nq);clear hc0 hc1 hc2 HBR HB1 HR;generalize w1.drewN nq=w2 at *;go_wp2;go_loopw [4,5,6,7,8] (fun l t r b i wr=>∃ k:Nat,k≤ps.length∧i=.int .i64 k∧l=.int .i64 (lo (·.x) ps k)∧t=.int .i64 (lo (·.y) ps k)∧r=.int .i64 (hi (·.x) ps k)∧b=.int .i64 (hi (·.y) ps k)∧Hid (Blk wr w.heap.size 73 #[.int .i64 0,.int .i64 0,.int .i64 0,.int .i64 0])∧Hid (Below w.heap.size w wr)) (fun _ _ _ _ i _=>ps.length - (intOf i).toNat)
 case atStart=>exact⟨0,Nat.zero_le _,rfl,by rw[HH.out];rfl,by rw[HH.out];rfl,by rw[HH.out];rfl,by rw[HH.out];rfl,HBR2,HB2⟩
 case round=>
  clear HBR2 HB2;obtain⟨k,hk,rfl,rfl,rfl,rfl,rfl,HBR,HB⟩:=hrel;by_cases hlt:k < ps.length
  ·obtain⟨b3,o3,e3,-,hd0,hd1,hd2⟩:=(ha.ext HB.out).at_ hlt;injection e3 with e3
   injection e3 with e4 e5
   subst e4 e5;have H1:=hid (lo_snoc (·.x) hlt);have H2:=hid (lo_snoc (·.y) hlt);have H3:=hid (hi_snoc (·.x) hlt);have H4:=hid (hi_snoc (·.y) hlt);obtain⟨L,hL⟩:∃ L,L=lo (·.x) ps k:=⟨_,rfl⟩
   obtain⟨T,hT⟩:∃ L,L=lo (·.y) ps k:=⟨_,rfl⟩
   obtain⟨R,hR⟩:∃ R,R=hi (·.x) ps k:=⟨_,rfl⟩
   obtain⟨B,hB⟩:∃ R,R=hi (·.y) ps k:=⟨_,rfl⟩
   rw[← hL] at H1 ⊢;rw[← hT] at H2 ⊢;rw[← hR] at H3 ⊢;rw[← hB] at H4 ⊢;obtain⟨cx,hcx⟩:∃ cx,cx=ps[k]:=⟨_,rfl⟩
   rw[← hcx] at hd0 hd1 hd2 H1 H2 H3 H4;clear hL hR hT hB hcx;go_wp2;go_roundw
   case rel=>exact⟨k+1,by omega,by go_num,by rw[H1.out],by rw[H2.out],by rw[H3.out],by rw[H4.out],HBR,HB⟩
   case measure=>simp[intOf];omega
  ·obtain rfl:k=ps.length:=by omega
   have bL:=lo_bd (·.x) HNE.out (fun c hc=>(HBD.out c hc).1) ps.length;have bT:=lo_bd (·.y) HNE.out (fun c hc=>(HBD.out c hc).2.1) ps.length;have bR:=hi_bd (·.x) HNE.out (fun c hc=>(HBD.out c hc).1) ps.length;have bB:=hi_bd (·.y) HNE.out (fun c hc=>(HBD.out c hc).2.1) ps.length;obtain⟨L,hL⟩:∃ L,L=lo (·.x) ps ps.length:=⟨_,rfl⟩
   obtain⟨T,hT⟩:∃ L,L=lo (·.y) ps ps.length:=⟨_,rfl⟩
   obtain⟨R,hR⟩:∃ R,R=hi (·.x) ps ps.length:=⟨_,rfl⟩
   obtain⟨B,hB⟩:∃ R,R=hi (·.y) ps ps.length:=⟨_,rfl⟩
   rw[← hL,← hR,← hT,← hB] at HE ⊢;rw[← hL] at bL;rw[← hR] at bR;rw[← hT] at bT;rw[← hB] at bB;have hw1:wrap64 (R - L)=R - L:=by unfold wrap64;omega
   have hw2:wrap64 (R - L+1)=R - L+1:=by unfold wrap64;omega
   have hw3:wrap64 (B - T)=B - T:=by unfold wrap64;omega
   have hw4:wrap64 (B - T+1)=B - T+1:=by unfold wrap64;omega
   have r0:=HBR.out.cell_ 0 _ rfl;have r1:=HBR.out.cell_ 1 _ rfl;have r2:=HBR.out.cell_ 2 _ rfl;have r3:=HBR.out.cell_ 3 _ rfl;have g0:=HBR.out.frozen 0;have g1:=HBR.out.frozen 1;have g2:=HBR.out.frozen 2;have g3:=HBR.out.frozen 3;clear hL hR hT hB bL bR bT bB;go_wp2;refine bodyPost_ret (v:=.tuple #[.agg #[.int .i64 L,.int .i64 T,.int .i64 (R - L+1),.int .i64 (B - T+1)],.bool true]) (by simp[results,Tryz.results116,go_sem,r0,r1,r2,r3]) rfl ?_;rw[HE.out];exact⟨rfl,below_set4 HB.out (Nat.le_refl _) _ _ _ _⟩
end Go.Proofs.YtcfelnhmifkelaaGreatDoor
namespace Go.Proofs.YtcfelnhmifkelaaGreatDoor
open Go.RowKit
set_option maxRecDepth 100000
set_option linter.unusedVariables false
set_option linter.unusedSimpArgs false

theorem Tryz.infoRun:(Tryz.prog.info? 107).map (fun i=>(i.zero,i.size,i.bytes))=some (some (.agg #[.int .i64 0,.int .i64 0]),2,16):=by kernel_rfl
theorem wpList_pushPB {P:Program}{wr:World}{ops:Array Oper}{rest:List Oper}{o:Oper}{a:Act}{Q:Exit→Act→World→Prop}(hgd:o.guard=none)(s x:Operand)(t:TypeId)
  (ho:o.op=.call { callee:=.builtin .append,args:=#[s,x],argTypes:=#[t,t] })
  (base:Nat) (e:TypeId) (ht:P.underlying t=some (.slice e)) (hi:(P.info? e).map (fun i=>(i.zero,i.size,i.bytes))=some (some (.agg #[.int .i64 0,.int .i64 0]),2,16))
  (v:Value) (ps:List (Int × Int)) (hs:a.eval s=v) (hown:OwnP e wr base v ps)
  (p q:Int) (hx:a.eval x=.slice (some ⟨wr.heap.size,0,none⟩) 1 1)
  (hn:ps.length < 4294967296) (hbase:base≤wr.heap.size)
  (h:∀ v' w',OwnP e w' base v' (ps ++ [(p,q)])→Below base wr w'→(∀ g t cs,e≠t→Blk wr g t cs→Blk w' g t cs)→wpList P ops Q rest (a.put o.dst v') w') :
  wpList P ops Q (o :: rest) a (wr.alloc (.cells #[.int .i64 p,.int .i64 q] e)):=by
 obtain⟨i0,hi0,hz0,hz1,hz2⟩:=info_parts hi;have hown0:wr.ownsRow base e 2 v ps.length (ps.flatMap ptCells):=hown;refine wpList_append_own _ hgd s x t ho base e i0 _ 2 16 ht hi0 hz0 hz1 hz2 rfl (by decide) v ps.length _ hs (hown0.alloc _) ⟨wr.heap.size,0,none⟩ 1 1 [.int .i64 p,.int .i64 q] hx (by simp) ?_ (by simp[Value.oneCell']) (by unfold maxLen;omega) (by omega) (by simp;omega) ?_
 ·intro j u hu;rw[addr_add];have:(wr.alloc (.cells #[.int .i64 p,.int .i64 q] e)).cell? ⟨wr.heap.size,0+j,none⟩=#[.int .i64 p,.int .i64 q][0+j]?:=cell_of_row _ _ _ _ _ _ (heap_alloc_new wr _);rw[this];simpa using hu
 ·intro v' w' hown' hg _;refine h v' w' (by unfold OwnP;rw[List.length_append,List.flatMap_append];exact hown') ?_ ?_
  ·refine ((Below.refl base wr).alloc hbase _).grown hg (by simp;omega) ?_;intro k hk;rcases hown0.2 with ⟨rfl,_⟩ | ⟨g,cap,cur,rfl,h4,_⟩
   ·simp[Value.ownBlock] at hk
   ·simp[Value.ownBlock] at hk;omega
  ·intro g t cs hne hb;exact (hb.alloc _).grown hg (fun e'=>own_blk_ne hown0 hb hne e'.symm)

structure RS where
 out:List (Int × Int)
 x:Int
 y:Int
def lineE (bx:Int)(t:RS)(c:Cel):RS:=if t.y < c.y then ⟨t.out ++ [(c.y - t.y,-1)],bx,c.y⟩ else t
def gapE (t:RS)(c:Cel):RS:=if t.x < c.x then ⟨t.out ++ [(c.x - t.x,0)],t.x,t.y⟩ else t
def incs (t:RS)(x:Int)(c:Cel):Bool:=match t.out.getLast? with | none=>false | some r=>decide (c.x=x) && decide (r.2=c.s)
def bump (l:List (Int × Int)):List (Int × Int):=match l.getLast? with | none=>l | some r=>l.dropLast ++ [(r.1+1,r.2)]
def stepR (bx:Int)(t:RS)(c:Cel):RS:=
 ⟨if incs (gapE (lineE bx t c) c) (lineE bx t c).x c then bump (gapE (lineE bx t c) c).out else (gapE (lineE bx t c) c).out ++ [(1,c.s)],c.x+1,(lineE bx t c).y⟩
theorem step_of {bx:Int}{t a g:RS}{c:Cel}{b:Bool}(h1:lineE bx t c=a)(h2:gapE a c=g)(h3:incs g a.x c=b):stepR bx t c=⟨if b then bump g.out else g.out ++ [(1,c.s)],c.x+1,a.y⟩:=by
 subst h1 h2 h3;rfl
theorem flat_snoc (q:List (Int × Int)) (r:Int × Int)(z:Int):((q ++ [r]).flatMap ptCells).set (q.length*2) (.int .i64 z)=(q ++ [(z,r.2)]).flatMap ptCells:=by
 have hl:(q.flatMap ptCells).length=q.length*2:=by
  induction q with
  | nil=>rfl
  | cons a l ih=>rw[List.flatMap_cons,List.length_append,ih];simp[ptCells];omega
 rw[List.flatMap_append,List.flatMap_append,List.set_append,if_neg (by omega),hl];simp[ptCells]
def runsSt (bx y0:Int)(ps:List Cel)(k:Nat):RS:=(ps.take k).foldl (stepR bx) ⟨[],bx,y0⟩
theorem runs_snoc (bx y0:Int){ps:List Cel}{k:Nat}(h:k < ps.length):runsSt bx y0 ps (k+1)=stepR bx (runsSt bx y0 ps k) ps[k]:=by
 unfold runsSt;rw[List.take_succ_eq_append_getElem h,List.foldl_append];rfl
def runsL (ps:List Cel):List (Int × Int):=if (boxC ps).2 then (runsSt (boxC ps).1.x (boxC ps).1.y ps ps.length).out else []
structure RSok (t:RS)(k:Nat):Prop where
 x0:-1048576≤t.x
 x1:t.x≤1048577
 y0:-1048576≤t.y
 y1:t.y≤1048576
 n:t.out.length≤3*k
 c:∀ r ∈ t.out,1≤r.2→0≤r.1∧r.1≤k
theorem RSok.step {bx:Int}{t:RS}{k:Nat}{c:Cel}(h:RSok t k)(hb:-1048576≤bx∧bx≤1048576)(hx:-1048576≤c.x∧c.x≤1048576)(hy:-1048576≤c.y∧c.y≤1048576):RSok (stepR bx t c) (k+1):=by
 have h1:(lineE bx t c).out.length≤3*k+1∧(∀ r ∈ (lineE bx t c).out,1≤r.2→0≤r.1∧r.1≤k)∧-1048576≤(lineE bx t c).y∧(lineE bx t c).y≤1048576:=by
  unfold lineE
  split
  ·refine⟨by simp;have:=h.n;omega,fun r hr h1=>?_,hy.1,hy.2⟩;simp only[List.mem_append,List.mem_singleton] at hr;rcases hr with hr | hr
   ·exact h.c r hr h1
   ·subst hr;simp at h1
  ·exact⟨by have:=h.n;omega,h.c,h.y0,h.y1⟩
 have h2:(gapE (lineE bx t c) c).out.length≤3*k+2∧(∀ r ∈ (gapE (lineE bx t c) c).out,1≤r.2→0≤r.1∧r.1≤k):=by
  unfold gapE
  split
  ·refine⟨by simp;omega,fun r hr h3=>?_⟩;simp only[List.mem_append,List.mem_singleton] at hr;rcases hr with hr | hr
   ·exact h1.2.1 r hr h3
   ·subst hr;simp at h3
  ·exact⟨by omega,h1.2.1⟩
 refine⟨by show -1048576≤c.x+1;omega,by show c.x+1≤1048577;omega,h1.2.2.1,h1.2.2.2,?_,?_⟩
 ·show (if _ then _ else _:List (Int × Int)).length≤_
  split
  ·unfold bump
   split
   ·omega
   ·simp;omega
  ·simp;omega
 ·intro r hr h3;unfold stepR at hr;dsimp only at hr;have key:r ∈ (if incs (gapE (lineE bx t c) c) (lineE bx t c).x c=true then bump (gapE (lineE bx t c) c).out else (gapE (lineE bx t c) c).out ++ [(1,c.s)])→0≤r.1∧r.1≤((k+1:Nat):Int):=by
   intro hr;have h4:=h2.2
   split at hr
   ·unfold bump at hr
    split at hr
    ·have:=h4 r hr h3;omega
    ·rename_i q hq;simp only[List.mem_append,List.mem_singleton] at hr;rcases hr with hr | hr
     ·have:=h4 r (List.dropLast_subset _ hr) h3;omega
     ·subst hr;have:=h4 q (List.mem_of_getLast? hq) h3
      simp
      omega
   ·simp only[List.mem_append,List.mem_singleton] at hr;rcases hr with hr | hr
    ·have:=h4 r hr h3;omega
    ·subst hr;simp;omega
  exact key hr
end Go.Proofs.YtcfelnhmifkelaaGreatDoor
