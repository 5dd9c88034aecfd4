/-
  texts RDecP RPermP RSyms RExact RCtr RTurn11: parts of the proof; conditions stand with each theorem.
-/
import Derived.Test.YtcmbdhopmncmnaaGreatDoorVG4
import Derived.Test.YtcmbdhopmncmnaaGreatDoorVG1
import Derived.Test.YtcmbdhopmncmnaaGreatDoorVG2
namespace Go.Proofs.YtcmbdhopmncmnaaGreatDoor
set_option maxRecDepth 100000
set_option linter.unusedVariables false
set_option linter.unusedSimpArgs false
def ET (vars:List (List Int))(ins:List Int)(out:Int)(inn:List Int)(v:Int):Prop:=Con vars (ins.zip inn)∧valO out (ins.zip inn) v
theorem Con.iff {vars:List (List Int)}{ps qs:List (Int × Int)}(h:∀ p,p ∈ ps ↔ p ∈ qs):Con vars ps ↔ Con vars qs:=⟨fun k=>k.sub fun p hp=>(h p).2 hp,fun k=>k.sub fun p hp=>(h p).1 hp⟩
theorem valO.iff {out v:Int}{ps qs:List (Int × Int)}(h:∀ p,p ∈ ps ↔ p ∈ qs):valO out ps v ↔ valO out qs v:=⟨fun k=>k.sub fun p hp=>(h p).1 hp,fun k=>k.sub fun p hp=>(h p).2 hp⟩
theorem bind_law {vars:List (List Int)}:∀ (ins inn bs:List Int)(qs:List (Int × Int)),Rf vars bs qs→(∀ e ∈ ins,-40≤e)→(∀ s ∈ inn,0≤s)→ins.length=inn.length→
  (∃ b',bindAll vars ins inn bs=some b'∧∃ ps,(∀ p,p ∈ ps ↔ p ∈ ins.zip inn∨p ∈ qs)∧Rf vars b' ps)∨(bindAll vars ins inn bs=none∧¬ Con vars (ins.zip inn ++ qs))
 | [],inn,bs,qs,h,_,_,_=>.inl ⟨bs,rfl,qs,fun p=>by simp,h⟩
 | e :: l,[],_,_,_,_,_,hl=>by simp at hl
 | e :: l,s :: r,bs,qs,h,he,hs,hl=>by
  obtain⟨k1,k2⟩:=acc_step h (he e (by simp)) (hs s (by simp));unfold bindAll;by_cases hf:(acceptP vars bs e s).1=true
  ·rw[if_pos hf];rcases bind_law l r _ _ (k2 hf) (fun x hx=>he x (by simp[hx])) (fun x hx=>hs x (by simp[hx])) (by simpa using hl) with ⟨b',h1,ps,h2,h3⟩ | ⟨h1,h2⟩
   ·refine .inl ⟨b',h1,ps,fun p=>?_,h3⟩;rw[h2 p,List.zip_cons_cons,List.mem_cons,List.mem_cons];constructor
    ·rintro (h | h | h)
     ·exact .inl (.inr h)
     ·exact .inl (.inl h)
     ·exact .inr h
    ·rintro ((h | h) | h)
     ·exact .inr (.inl h)
     ·exact .inl h
     ·exact .inr (.inr h)
   ·refine .inr ⟨h1,fun hc=>h2 (hc.sub fun p hp=>?_)⟩;rw[List.zip_cons_cons,List.cons_append];rcases List.mem_append.1 hp with hp | hp
    ·exact List.mem_cons_of_mem _ (List.mem_append_left _ hp)
    ·rcases List.mem_cons.1 hp with rfl | hp
     ·simp
     ·exact List.mem_cons_of_mem _ (List.mem_append_right _ hp)
  ·rw[if_neg hf];refine .inr ⟨rfl,fun hc=>hf (k1.2 (hc.sub fun p hp=>?_))⟩;rw[List.zip_cons_cons,List.cons_append];rcases List.mem_cons.1 hp with rfl | hp
   ·simp
   ·exact List.mem_cons_of_mem _ (List.mem_append_right _ hp)
theorem mem_zip_fst {ins inn:List Int}(hl:ins.length=inn.length){e:Int}(h:e ∈ ins):∃ p ∈ ins.zip inn,p.1=e:=by
 obtain⟨i,hi,rfl⟩:=List.getElem_of_mem h;refine⟨(ins[i],inn[i]'(by omega)),?_,rfl⟩;rw[← List.getElem_zip (h:=by rw[List.length_zip];omega)];exact List.getElem_mem _
theorem IsMin.one {T:Int→Prop}{n:Int}(h:∀ v,T v ↔ v=n):IsMin T (n,true):=.inr ⟨rfl,(h n).2 rfl,fun v hv=>by rw[(h v).1 hv];exact Int.le_refl _⟩
theorem plain_min {vars:List (List Int)}{ins:List Int}{out:Int}{inn:List Int}(hn:∀ s ∈ inn,0≤s)(he:∀ e ∈ ins,-40≤e)(ho:-40≤out)(hm:out < 0→out ∈ ins)(hl:ins.length=inn.length):IsMin (ET vars ins out inn) (plainP vars ins out inn):=by
 rcases bind_law ins inn _ _ (Rf.neg (vars:=vars)) he hn hl with ⟨b',h1,ps,h2,h3⟩ | ⟨h1,h2⟩
 ·rw[plainP_some h1];have hps:∀ p,p ∈ ps ↔ p ∈ ins.zip inn:=fun p=>by rw[h2 p];simp
  have hmm:out < 0→∃ p ∈ ps,p.1=out:=fun h0=>by
   obtain⟨p,hp,e⟩:=mem_zip_fst hl (hm h0);exact⟨p,(hps p).2 hp,e⟩
  refine IsMin.one fun v=>?_;rw[← h3.val ho hmm v,valO.iff hps];exact⟨fun h=>h.2,fun h=>⟨(Con.iff hps).1 h3.con,h⟩⟩
 ·rw[plainP_none h1];refine IsMin.none fun v hv=>h2 ?_;rw[List.append_nil];exact hv.1
theorem better_or {T U:Int→Prop}{r q:Int × Bool}(h:IsMin T r)(k:IsMin U q):IsMin (fun v=>T v∨U v) (if q.2=true then better r q.1 else r):=by
 rcases k with ⟨k1,k2⟩ | ⟨k1,k2,k3⟩
 ·rw[if_neg (by rw[k1];simp)];exact h.congr fun v=>⟨.inl,fun h'=>h'.resolve_right (k2 v)⟩
 ·rw[if_pos k1];have:=h.better q.1;rcases this with ⟨-,g⟩ | ⟨g1,g2,g3⟩
  ·exact absurd (.inr rfl) (g q.1)
  ·refine .inr ⟨g1,?_,fun v hv=>?_⟩
   ·rcases g2 with g2 | g2
    ·exact .inl g2
    ·rw[g2];exact .inr k2
   ·rcases hv with hv | hv
    ·exact g3 v (.inl hv)
    ·have h1:=g3 q.1 (.inr rfl);have h2:=k3 v hv;omega
theorem all_of {α:Type} [DecidableEq α]:∀ (l m:List α),l.Nodup→(∀ x ∈ l,x ∈ m)→m.length≤l.length→∀ y ∈ m,y ∈ l
 | [],m,_,_,h,y,hy=>by
  have:m=[]:=List.length_eq_zero_iff.1 (by simpa using h);rw[this] at hy;cases hy
 | x :: l,m,hn,hs,h,y,hy=>by
  obtain⟨hx,hn'⟩:=List.nodup_cons.1 hn;have hxm:=hs x (by simp);by_cases hyx:y=x
  ·simp[hyx]
  ·refine List.mem_cons_of_mem _ (all_of l (m.erase x) hn' (fun z hz=>?_) ?_ y ?_)
   ·exact (List.mem_erase_of_ne (by rintro rfl;exact hx hz)).2 (hs z (by simp[hz]))
   ·rw[List.length_erase_of_mem hxm];simp only[List.length_cons] at h;omega
   ·exact (List.mem_erase_of_ne hyx).2 hy
theorem symP_inj {k:Nat}(hk:k < 8){p q:Int × Int}(h:symP (k:Int) p=symP (k:Int) q):p=q:=by
 have hj:symJ (k:Int)=k:=by unfold symJ;omega
 unfold symP at h;rw[hj] at h;obtain⟨p1,p2⟩:=p;obtain⟨q1,q2⟩:=q;obtain rfl | rfl | rfl | rfl | rfl | rfl | rfl | rfl:k=0∨k=1∨k=2∨k=3∨k=4∨k=5∨k=6∨k=7:=by omega
 all_goals
  simp[matL] at h;rw[Prod.mk.injEq];omega
theorem idxF_get {ps:List (Int × Int)}{q:Int × Int}(h:q ∈ ps):∃ j,∃ hj:j < ps.length,idxF q 0 ps=(j:Int)∧ps[j]=q:=by
 have:∀ (l:List (Int × Int)) (k:Nat),q ∈ l→∃ j,∃ hj:j < l.length,idxF q k l=((k+j:Nat):Int)∧l[j]=q:=by
  intro l;induction l with
  | nil=>intro k h;cases h
  | cons x l ih=>
   intro k h;unfold idxF;by_cases hx:x=q
   ·rw[if_pos hx];exact⟨0,by simp,rfl,hx⟩
   ·rw[if_neg hx];obtain⟨j,hj,h1,h2⟩:=ih (k+1) ((List.mem_cons.1 h).resolve_left (fun e=>hx e.symm));exact⟨j+1,by simpa using hj,by rw[h1];congr 1;omega,by simpa using h2⟩
 obtain⟨j,hj,h1,h2⟩:=this ps 0 h;exact⟨j,hj,by rw[h1];simp,h2⟩
theorem turned_nn {hood:List (Int × Int)}{k:Int}{inn:List Int}(h:∀ s ∈ inn,0≤s):∀ s ∈ turnedP hood k inn,0≤s:=fun s hs=>by
 unfold turnedP at hs;obtain⟨q,-,rfl⟩:=List.mem_map.1 hs;exact getD_mem_nn h _
theorem decTo_min {vars:List (List Int)}{hood:List (Int × Int)}{ins inn:List Int}{out:Int}(hn:∀ s ∈ inn,0≤s)(he:∀ e ∈ ins,-40≤e)(ho:-40≤out)(hm:out < 0→out ∈ ins)(hl:ins.length=hood.length):∀ k:Nat,IsMin (fun v=>∃ j,j < k∧ET vars ins out (turnedP hood (j:Int) inn) v) (decTo hood vars ins out inn k)
 | 0=>IsMin.none fun v ⟨j,hj,_⟩=>absurd hj (Nat.not_lt_zero _)
 | k+1=>by
  have h1:=decTo_min (vars:=vars) (hood:=hood) hn he ho hm hl k;have h2:=plain_min (vars:=vars) (ins:=ins) (out:=out) (inn:=turnedP hood (k:Int) inn) (turned_nn hn) he ho hm (by unfold turnedP;rw[List.length_map];exact hl);have h3:=better_or h1 h2;unfold decTo;refine h3.congr fun v=>⟨fun h=>?_,fun ⟨j,hj,h⟩=>?_⟩
  ·rcases h with ⟨j,hj,h⟩ | h
   ·exact⟨j,by omega,h⟩
   ·exact⟨k,by omega,h⟩
  ·rcases Nat.lt_succ_iff_lt_or_eq.1 hj with hj | rfl
   ·exact .inl ⟨j,hj,h⟩
   ·exact .inr h
end Go.Proofs.YtcmbdhopmncmnaaGreatDoor
namespace Go.Proofs.YtcmbdhopmncmnaaGreatDoor
open Go.RowKit Go.Sort
set_option maxRecDepth 100000
set_option linter.unusedVariables false
set_option linter.unusedSimpArgs false
end Go.Proofs.YtcmbdhopmncmnaaGreatDoor
namespace Go.Proofs.YtcmbdhopmncmnaaGreatDoor
open Go.RowKit Go.Sort Go.Maps
set_option maxRecDepth 100000
set_option linter.unusedVariables false
set_option linter.unusedSimpArgs false
end Go.Proofs.YtcmbdhopmncmnaaGreatDoor
namespace Go.Proofs.YtcmbdhopmncmnaaGreatDoor
open Lib(hid)
set_option linter.unusedSimpArgs false
open Go.RowKit
set_option maxRecDepth 100000
set_option linter.unusedVariables false
set_option maxHeartbeats 800000 in
theorem rcentre_any (A:Option Addr)(ps:List (Int × Int))(c:Nat)(w:World)(ha:Pts w A ps) :
  Calls Tryz.prog 22 #[.slice A ps.length c] w fun e w'=>e=.returned (.int .i64 (ctrP ps))∧Below w.heap.size w w':=by
 have HH:=hid (rhood_any A c ps w ha);have HX:=hid (fun W (hb:Below w.heap.size w W)=>ridx_any A ps c 0 0 W (ha.ext hb));have hn:=ha.le;cases hB:hoodB ps with
 | false=>
  have HE:Hid (ctrP ps = -1):=hid (by unfold ctrP;rw[hB];rfl);go_enter Tryz.func22,Tryz.ntmps22;go_wp2_with fail;refine HH.out.mono ?_;rintro e w1 ⟨rfl,hb1⟩;rw[hB];go_wp2;go_ret;exact⟨ret_int HE.out.symm,hb1⟩
 | true=>
  have HE:Hid (ctrP ps=idxF (0,0) 0 ps):=hid (by unfold ctrP;rw[hB];rfl);go_enter Tryz.func22,Tryz.ntmps22;go_wp2_with fail;refine HH.out.mono ?_;rintro e w1 ⟨rfl,hb1⟩;rw[hB];go_wp2_with fail;refine (HX.out w1 hb1).mono ?_;rintro e w2 ⟨rfl,hb2⟩;go_wp2;go_ret;exact⟨ret_int HE.out.symm,hb1.trans (hb2.mono hb1.size)⟩
end Go.Proofs.YtcmbdhopmncmnaaGreatDoor
namespace Go.Proofs.YtcmbdhopmncmnaaGreatDoor
open Go.RowKit Go.Sort Go.Maps
set_option maxRecDepth 100000
set_option linter.unusedVariables false
set_option linter.unusedSimpArgs false
end Go.Proofs.YtcmbdhopmncmnaaGreatDoor
