/-
  texts Trip11 Len11 Sym11 Ln11 Awk11P Nm11 Seq11 Sts11 PushR1 Mem11 NumP11: parts of the proof; conditions stand with each theorem.
-/
import Derived.Test.YtcmbdhopmncmnaaGreatDoorVG7
import Derived.Test.YtcmbdhopmncmnaaGreatDoorVG4
import Derived.Test.YtcmbdhopmncmnaaGreatDoorVG6
import Derived.Lib.Split
import Derived.Lib.SplitLaws
import Derived.Lib.CountLaws
import Derived.Lib.IndexMore
import Derived.Test.YtcmbdhopmncmnaaGreatDoorVG0
import Derived.RangeFuncNested
import Derived.RangeFuncBox
import Derived.Laws.Rows
import Derived.Test.YtcmbdhopmncmnaaGreatDoorVG1
import Derived.DeepKeys5
import Derived.Laws.EntriesVeiled
namespace Go.Proofs.YtcmbdhopmncmnaaGreatDoor
set_option linter.unusedVariables false
set_option linter.unusedSimpArgs false
set_option maxRecDepth 100000
theorem d11_small {n:Nat}(h:n < 10):Lib.decDigits n=[UInt8.ofNat (48+n)]:=by rw[Lib.decDigits,dif_pos h]
theorem d11_big {n:Nat}(h:¬ n < 10):Lib.decDigits n=Lib.decDigits (n / 10) ++ [UInt8.ofNat (48+n % 10)]:=by rw[Lib.decDigits,dif_neg h]
theorem d11_len:∀ {k:Nat}(n:Nat),n < 10 ^ (k+1)→(Lib.decDigits n).length≤k+1
 | 0,n,h=>by rw[d11_small (by simpa using h)];simp
 | k+1,n,h=>by
  by_cases hs:n < 10
  ·rw[d11_small hs];simp
  ·rw[d11_big hs,List.length_append];have:=d11_len (k:=k) (n / 10) (by rw[Nat.pow_succ] at h;omega)
   simp;omega
theorem val11_snoc (l:List UInt8)(c:UInt8):val11 (l ++ [c])=10*val11 l+((c.toNat:Int) - 48):=by
 unfold val11;rw[List.foldl_append];rfl
theorem lines_app:∀ (x r:List UInt8),(∀ c ∈ x,c≠10)→lines11 (x ++ 10 :: r)=x :: lines11 r
 | [],r,_=>by
  show (if (10:UInt8)=10 then _ else _)=_;rw[if_pos rfl]
 | c :: x,r,h=>by
  rw[List.cons_append];show (if c=10 then _ else _)=_;rw[if_neg (h c (by simp)),lines_app x r (fun y hy=>h y (by simp[hy]))]
theorem okVarS_cons (st:Int)(q:Option Int)(s:Int)(l:List Int):okVarS st q (s :: l)=(decide (0≤s) && decide (s < st) && (match q with | none=>true | some a=>decide (a < s)) && okVarS st (some s) l):=rfl
theorem okVarS_parts {st:Int}:∀ (l:List Int)(q:Option Int),okVarS st q l=true→(∀ s ∈ l,0≤s∧s < st)∧ascW l=true∧(match q,l with | some a,s :: _=>decide (a < s) | _,_=>true)=true
 | [],q,_=>⟨fun s h=>absurd h (by simp),rfl,by cases q <;> rfl⟩
 | s :: l,q,h=>by
  rw[okVarS_cons] at h;simp only[Bool.and_eq_true,decide_eq_true_eq] at h;obtain⟨⟨⟨h1,h2⟩,h3⟩,h4⟩:=h;obtain⟨i1,i2,i3⟩:=okVarS_parts l (some s) h4;refine⟨fun x hx=>?_,?_,?_⟩
  ·rcases List.mem_cons.1 hx with rfl | hx
   ·exact⟨h1,h2⟩
   ·exact i1 x hx
  ·cases l with
   | nil=>rfl
   | cons y l=>
    show (decide (s < y) && ascW (y :: l))=true;rw[i2,Bool.and_true];exact i3
  ·cases q with
   | none=>rfl
   | some a=>exact h3
theorem el_len {st:Int}{nv:Nat}{e:Int}(hnv:nv≤40)(hst:st≤8)(h:elB st nv e=true):(elT e).length≤3:=by
 unfold elB at h;rw[Bool.and_eq_true,decide_eq_true_eq,decide_eq_true_eq] at h;unfold elT
 split
 ·have:=d11_len (k:=1) (-1 - e).toNat (by omega);rw[List.length_cons];omega
 ·have:=d11_len (k:=0) e.toNat (by omega);omega
theorem flat_len {α:Type}{f:α→List UInt8}{m:Nat}:∀ {l:List α},(∀ x ∈ l,(f x).length≤m)→(l.flatMap f).length≤m*l.length
 | [],_=>by simp
 | x :: l,h=>by
  rw[List.flatMap_cons,List.length_append,List.length_cons,Nat.mul_succ];have h1:=h x (by simp);have h2:=flat_len (l:=l) (fun y hy=>h y (by simp[hy]));omega
theorem row_len {st:Int}{nv nh:Nat}{r:Rw}(hnv:nv≤40)(hst:st≤8)(h:okRow st nv nh r=true):(rowT11 r).length≤4*nh+7:=by
 obtain⟨h1,-,-⟩:=okRow_parts hnv h;unfold okRow at h;simp only[Bool.and_eq_true,decide_eq_true_eq] at h;obtain⟨⟨⟨-,h2⟩,-⟩,h4⟩:=h;have a:=flat_len (f:=fun e=>elT e ++ [32]) (m:=4) (l:=r.1) (fun e he=>by
  have:=el_len hnv hst (List.all_eq_true.1 h4 e he);rw[List.length_append];simpa using this)
 have b:=el_len hnv hst h2;unfold rowT11;rw[List.length_append,List.length_append,List.length_append];simp only[List.length_cons,List.length_nil];rw[h1] at a;omega
theorem var_len {st:Int}{v:Nat}{l:List Int}(hst:st≤8)(hv:v < 100)(h:okVar st l=true):(varT11 v l).length≤2*l.length+8:=by
 unfold okVar at h;rw[Bool.and_eq_true] at h;obtain⟨h1,-,-⟩:=okVarS_parts l none h.2;have a:=flat_len (f:=fun s:Int=>32 :: Lib.decDigits s.toNat) (m:=2) (l:=l) (fun s hs=>by
  have:=h1 s hs;have:=d11_len (k:=0) s.toNat (by omega);rw[List.length_cons];omega)
 have b:=d11_len (k:=1) v (by omega);unfold varT11 varW;simp only[List.length_append,List.length_cons,List.length_nil];omega
theorem vars_len {st:Int}(hst:st≤8):∀ (vs:List (List Int))(v:Nat),v+vs.length≤40→(∀ l ∈ vs,okVar st l=true)→(∀ l ∈ vs,l.length≤30)→(varsT11 v vs).length≤68*vs.length
 | [],_,_,_,_=>by simp[varsT11]
 | l :: vs,v,h,h1,h2=>by
  rw[List.length_cons] at h;have a:=var_len (v:=v) hst (by omega) (h1 l (by simp));have b:=vars_len hst vs (v+1) (by omega) (fun x hx=>h1 x (by simp[hx])) (fun x hx=>h2 x (by simp[hx]));have c:=h2 l (by simp);unfold varsT11;rw[List.length_append,List.length_cons];omega
theorem words_len:∀ k:Nat,k < 4→(hoodsW.getD k []).length≤7∧(symsW.getD k []).length≤7:=by decide
end Go.Proofs.YtcmbdhopmncmnaaGreatDoor
namespace Go.Proofs.YtcmbdhopmncmnaaGreatDoor
open Go.RowKit Go.Maps
set_option maxRecDepth 100000
set_option linter.unusedVariables false
set_option linter.unusedSimpArgs false
def mE (k i:Nat):Int:=matL.getD (symJ (k:Int)*4+i) 0
theorem symP_mE (k:Nat)(p:Int × Int):symP (k:Int) p=(mE k 0*p.1+mE k 1*p.2,mE k 2*p.1+mE k 3*p.2):=rfl
theorem comp_mE {n c j:Nat}(h1:mE j 0=mE n 0*mE c 0+mE n 1*mE c 2)(h2:mE j 1=mE n 0*mE c 1+mE n 1*mE c 3)(h3:mE j 2=mE n 2*mE c 0+mE n 3*mE c 2)(h4:mE j 3=mE n 2*mE c 1+mE n 3*mE c 3)(p:Int × Int) :
  symP (j:Int) p=symP (n:Int) (symP (c:Int) p):=by
 rw[symP_mE,symP_mE,symP_mE];dsimp only;rw[h1,h2,h3,h4];refine Prod.ext ?_ ?_
 ·dsimp only;simp only[Int.mul_add,Int.add_mul,Int.mul_assoc];omega
 ·dsimp only;simp only[Int.mul_add,Int.add_mul,Int.mul_assoc];omega
theorem comp_tab:∀ n j:Fin 8,∃ c:Fin 8,(n.1 < 4→j.1 < 4→c.1 < 4)∧mE j.1 0=mE n.1 0*mE c.1 0+mE n.1 1*mE c.1 2∧mE j.1 1=mE n.1 0*mE c.1 1+mE n.1 1*mE c.1 3∧mE j.1 2=mE n.1 2*mE c.1 0+mE n.1 3*mE c.1 2∧mE j.1 3=mE n.1 2*mE c.1 1+mE n.1 3*mE c.1 3:=by decide
theorem comp_tab2:∀ n c:Fin 8,∃ j:Fin 8,(n.1 < 4→c.1 < 4→j.1 < 4)∧mE j.1 0=mE n.1 0*mE c.1 0+mE n.1 1*mE c.1 2∧mE j.1 1=mE n.1 0*mE c.1 1+mE n.1 1*mE c.1 3∧mE j.1 2=mE n.1 2*mE c.1 0+mE n.1 3*mE c.1 2∧mE j.1 3=mE n.1 2*mE c.1 1+mE n.1 3*mE c.1 3:=by decide
theorem comp_l {n j:Nat}(hn:n < 8)(hj:j < 8):∃ c:Nat,c < 8∧(n < 4→j < 4→c < 4)∧∀ p,symP (j:Int) p=symP (n:Int) (symP (c:Int) p):=by
 obtain⟨c,h,h1,h2,h3,h4⟩:=comp_tab ⟨n,hn⟩ ⟨j,hj⟩;exact⟨c.1,c.2,h,comp_mE h1 h2 h3 h4⟩
theorem comp_r {n c:Nat}(hn:n < 8)(hc:c < 8):∃ j:Nat,j < 8∧(n < 4→c < 4→j < 4)∧∀ p,symP (j:Int) p=symP (n:Int) (symP (c:Int) p):=by
 obtain⟨j,h,h1,h2,h3,h4⟩:=comp_tab2 ⟨n,hn⟩ ⟨c,hc⟩;exact⟨j.1,j.2,h,comp_mE h1 h2 h3 h4⟩
def TurnOf (hood:List (Int × Int))(n:Nat)(inn tn:List Int):Prop:=tn.length=hood.length∧∀ i (hi:i < hood.length) j (hj:j < hood.length),hood[j]=symP (n:Int) hood[i]→tn.getD j 0=inn.getD i 0
theorem turn_surj {hood:List (Int × Int)}{n:Nat}(hn:n < 8)(hd:hood.Nodup)(hc:∀ q ∈ hood,symP (n:Int) q ∈ hood){j:Nat}(hj:j < hood.length):∃ i,∃ hi:i < hood.length,hood[j]=symP (n:Int) hood[i]:=by
 have hmem:hood[j] ∈ hood.map (symP (n:Int)):=all_of _ hood (List.pairwise_map.2 (hd.imp fun h e=>h (symP_inj hn e))) (fun x hx=>by
  obtain⟨q,hq,rfl⟩:=List.mem_map.1 hx;exact hc q hq) (by rw[List.length_map];exact Nat.le_refl _) _ (List.getElem_mem hj)
 obtain⟨q,hq,e⟩:=List.mem_map.1 hmem;obtain⟨i,hi,rfl⟩:=List.getElem_of_mem hq;exact⟨i,hi,e.symm⟩
theorem turn_mem {hood:List (Int × Int)}{n:Nat}(hn:n < 8)(hd:hood.Nodup)(hc:∀ q ∈ hood,symP (n:Int) q ∈ hood){inn tn:List Int}(hi:inn.length=hood.length)(ht:TurnOf hood n inn tn):∀ s ∈ tn,s ∈ inn:=fun s hs=>by
 obtain⟨j,hj,rfl⟩:=List.getElem_of_mem hs;have hj2:j < hood.length:=by rw[← ht.1];exact hj
 obtain⟨i,hi2,e⟩:=turn_surj hn hd hc hj2;have:=ht.2 i hi2 j hj2 e;rw[List.getD_eq_getElem?_getD,List.getElem?_eq_getElem hj,List.getD_eq_getElem?_getD,List.getElem?_eq_getElem (by omega)] at this;have h2:tn[j]=inn[i]'(by omega):=this;rw[h2];exact List.getElem_mem _
theorem turned_comp {hood:List (Int × Int)}{n c j:Nat}(hcc:∀ q ∈ hood,symP (c:Int) q ∈ hood)(hcj:∀ q ∈ hood,symP (j:Int) q ∈ hood)(hcomp:∀ p,symP (j:Int) p=symP (n:Int) (symP (c:Int) p)){inn tn:List Int}(ht:TurnOf hood n inn tn) :
  turnedP hood (j:Int) tn=turnedP hood (c:Int) inn:=by
 unfold turnedP;refine List.map_congr_left (fun q hq=>?_);obtain⟨i,hi,e1,e2⟩:=idxF_get (hcc q hq);obtain⟨k,hk,e3,e4⟩:=idxF_get (hcj q hq);rw[e1,e3,Int.toNat_natCast,Int.toNat_natCast];exact ht.2 i hi k hk (by rw[e4,hcomp,e2])
theorem row_turn {sym:Int}{hood:List (Int × Int)}{vars:List (List Int)}{ins:List Int}{out:Int}{inn tn:List Int}(hh:hoodB hood=true)(hp:permP hood sym=true)(hs:sym=1∨sym=2)(hn0:∀ s ∈ inn,0≤s)(he:∀ e ∈ ins,-40≤e)(ho:-40≤out)(hm:out < 0→out ∈ ins)(hl:ins.length=hood.length)(hi:inn.length=hood.length){n:Nat}(hn:n < nSym sym)(ht:TurnOf hood n inn tn) :
  decideP sym hood vars ins out tn=decideP sym hood vars ins out inn:=by
 have hd:=hood_nodup hh;have h3:sym≠3:=by omega
 have hc:∀ j,j < nSym sym→∀ q ∈ hood,symP (j:Int) q ∈ hood:=fun j hj=>syms_in hh hp h3 hj;have hk:nSym sym=4∨nSym sym=8:=by
  rcases hs with rfl | rfl
  ·exact .inl rfl
  ·exact .inr rfl
 have hn8:n < 8:=by omega
 have htn:∀ s ∈ tn,0≤s:=fun s h=>hn0 s (turn_mem hn8 hd (hc n hn) hi ht s h);unfold decideP;rw[if_neg h3,if_neg h3];refine (decTo_min (vars:=vars) (hood:=hood) htn he ho hm hl (nSym sym)).uniq ((decTo_min (vars:=vars) (hood:=hood) hn0 he ho hm hl (nSym sym)).congr fun v=>?_);constructor
 ·rintro⟨c,hc1,h⟩;obtain⟨j,j8,j4,hcomp⟩:=comp_r hn8 (show c < 8 by omega);have hj:j < nSym sym:=by
   rcases hk with hk | hk
   ·rw[hk] at hn hc1 ⊢;exact j4 hn hc1
   ·rw[hk];exact j8
  exact⟨j,hj,by rw[turned_comp (hc c hc1) (hc j hj) hcomp ht];exact h⟩
 ·rintro⟨j,hj,h⟩;obtain⟨c,c8,c4,hcomp⟩:=comp_l hn8 (show j < 8 by omega);have hc1:c < nSym sym:=by
   rcases hk with hk | hk
   ·rw[hk] at hn hj ⊢;exact c4 hn hj
   ·rw[hk];exact c8
  exact⟨c,hc1,by rw[← turned_comp (hc c hc1) (hc j hj) hcomp ht];exact h⟩
theorem perm_same:∀ {l m:List Nat},l.Nodup→m.Nodup→(∀ x,x ∈ l ↔ x ∈ m)→l.Perm m
 | [],m,_,_,h=>by
  have:m=[]:=List.eq_nil_iff_forall_not_mem.2 (fun x hx=>by have:=(h x).2 hx;simp at this);rw[this]
 | x :: l,m,hl,hm,h=>by
  have hx:x ∈ m:=(h x).1 (by simp);rw[List.nodup_cons] at hl;have ih:=perm_same hl.2 (hm.erase x) (fun y=>by
   rw[hm.mem_erase_iff];constructor
   ·intro hy;exact⟨fun e=>hl.1 (e ▸ hy),(h y).1 (by simp[hy])⟩
   ·rintro⟨h1,h2⟩;rcases List.mem_cons.1 ((h y).2 h2) with h3 | h3
    ·exact absurd h3 h1
    ·exact h3)
  exact (ih.cons x).trans (List.perm_cons_erase hx).symm
def swapL (l:List Int)(a b:Nat):List Int:=(l.set a (l.getD b 0)).set b (l.getD a 0)
def sw (a b k:Nat):Nat:=if k=b then a else if k=a then b else k
theorem swapL_len (l:List Int)(a b:Nat):(swapL l a b).length=l.length:=by unfold swapL;simp
theorem swapL_get {l:List Int}{a b:Nat}(ha:a < l.length)(hb:b < l.length)(k:Nat):(swapL l a b).getD k 0=l.getD (sw a b k) 0:=by
 unfold swapL sw;rw[List.getD_eq_getElem?_getD,List.getElem?_set];by_cases h1:b=k
 ·subst h1;rw[if_pos rfl,if_pos (by rw[List.length_set];exact hb),if_pos rfl];rfl
 ·rw[if_neg h1,if_neg (fun e=>h1 e.symm),List.getElem?_set];by_cases h2:a=k
  ·subst h2;rw[if_pos rfl,if_pos ha,if_pos rfl];rfl
  ·rw[if_neg h2,if_neg (fun e=>h2 e.symm),List.getD_eq_getElem?_getD]
theorem swapL_mem {l:List Int}{a b:Nat}(ha:a < l.length)(hb:b < l.length):∀ s ∈ swapL l a b,s ∈ l:=fun s hs=>by
 obtain⟨k,hk,rfl⟩:=List.getElem_of_mem hs;have h:=swapL_get ha hb k;have hk2:k < l.length:=by rw[← swapL_len l a b];exact hk
 have hsw:sw a b k < l.length:=by unfold sw;split;exact ha;split;exact hb;exact hk2
 rw[List.getD_eq_getElem?_getD,List.getElem?_eq_getElem hk,List.getD_eq_getElem?_getD,List.getElem?_eq_getElem hsw] at h;have h2:(swapL l a b)[k]=l[sw a b k]:=h;rw[h2];exact List.getElem_mem _
theorem offC_swap {l:List Int}{a b:Nat}(ha:a < l.length)(hb:b < l.length){c:Int}(hac:(a:Int)≠c)(hbc:(b:Int)≠c):(offC (swapL l a b) l.length c).Perm (offC l l.length c):=by
 unfold offC;have e:((List.range l.length).filter (fun (k:Nat)=>decide ((k:Int)≠c))).map (fun (k:Nat)=>(swapL l a b).getD k 0)=(((List.range l.length).filter (fun (k:Nat)=>decide ((k:Int)≠c))).map (sw a b)).map (fun (k:Nat)=>l.getD k 0):=by
  rw[List.map_map];exact List.map_congr_left (fun k _=>swapL_get ha hb k)
 rw[e];refine List.Perm.map _ ?_;have hinv:∀ k,sw a b (sw a b k)=k:=fun k=>by
  unfold sw
  split
  ·split
   ·omega
   ·rw[if_pos rfl];omega
  ·split
   ·rw[if_pos rfl];omega
   ·rfl
 have hmem:∀ k,k ∈ (List.range l.length).filter (fun (k:Nat)=>decide ((k:Int)≠c))→sw a b k ∈ (List.range l.length).filter (fun (k:Nat)=>decide ((k:Int)≠c)):=fun k hk=>by
  rw[List.mem_filter,List.mem_range,decide_eq_true_eq] at hk ⊢;unfold sw
  split
  ·exact⟨ha,hac⟩
  ·split
   ·exact⟨hb,hbc⟩
   ·exact hk
 have hnd:((List.range l.length).filter (fun (k:Nat)=>decide ((k:Int)≠c))).Nodup:=List.nodup_range.filter _;refine perm_same (List.pairwise_map.2 (hnd.imp fun {x y} h e=>h (by
  have:=congrArg (sw a b) e;rw[hinv,hinv] at this;exact this))) hnd (fun x=>?_)
 constructor
 ·intro hx;obtain⟨k,hk,rfl⟩:=List.mem_map.1 hx;exact hmem k hk
 ·intro hx;exact List.mem_map.2 ⟨sw a b x,hmem x hx,hinv x⟩
theorem row_swap {hood:List (Int × Int)}{vars:List (List Int)}{ins:List Int}{out:Int}{inn:List Int}(hn0:∀ s ∈ inn,0≤s)(he:∀ e ∈ ins,-40≤e)(ho:-40≤out)(hm:out < 0→out ∈ ins)(hl:ins.length=inn.length){a b:Nat}(ha:a < inn.length)(hb:b < inn.length)(hac:(a:Int)≠ctrP hood)(hbc:(b:Int)≠ctrP hood) :
  decideP 3 hood vars ins out (swapL inn a b)=decideP 3 hood vars ins out inn:=by
 unfold decideP;rw[if_pos rfl,if_pos rfl];refine (permutedP_min (fun s h=>hn0 s (swapL_mem ha hb s h)) he ho hm (by rw[swapL_len];exact hl)).uniq ((permutedP_min hn0 he ho hm hl).congr fun v=>?_);have hq:ctrQ ins (swapL inn a b) (ctrP hood)=ctrQ ins inn (ctrP hood):=by
  unfold ctrQ;by_cases h:0≤ctrP hood
  ·rw[if_pos h,if_pos h,swapL_get ha hb,show sw a b (ctrP hood).toNat=(ctrP hood).toNat by unfold sw;rw[if_neg (by omega),if_neg (by omega)]]
  ·rw[if_neg h,if_neg h]
 have hpm:=offC_swap ha hb hac hbc;unfold PmT;rw[hq,swapL_len];exact⟨fun h=>⟨h.1,h.2.permA hpm.symm⟩,fun h=>⟨h.1,h.2.permA hpm⟩⟩
theorem val_same {t:TabL}{inn tn:List Int}(hrow:∀ r ∈ t.rows,rowD t tn r=rowD t inn r)(hctr:0≤ctrP t.hood→tn.getD (ctrP t.hood).toNat 0=inn.getD (ctrP t.hood).toNat 0):valT t tn=valT t inn:=by
 have h:∀ rs:List Rw,(∀ r ∈ rs,rowD t tn r=rowD t inn r)→firstD t tn rs=firstD t inn rs:=by
  intro rs;induction rs with
  | nil=>intro _;rfl
  | cons r rs ih=>
   intro h;unfold firstD;rw[h r (by simp),ih (fun x hx=>h x (by simp[hx]))]
 unfold valT;rw[h _ hrow]
 split
 ·rfl
 ·split
  ·exact hctr ‹_›
  ·rfl
theorem row_facts {t:TabL}(hr:rightTab t=true){r:Rw}(h:r ∈ t.rows):(∀ e ∈ r.1,-40≤e)∧-40≤r.2∧(r.2 < 0→r.2 ∈ r.1)∧r.1.length=t.hood.length:=by
 obtain⟨-,-,-,hv,-,-,hro⟩:=rightTab_parts hr;have h1:=hro r h;obtain⟨h2,h3,h4⟩:=okRow_parts hv h1;unfold okRow at h1;simp only[Bool.and_eq_true,Bool.or_eq_true,decide_eq_true_eq] at h1;refine⟨fun e he=>by have:=(h4 e he).1;omega,by have:=h3.1;omega,fun h0=>?_,h2⟩;rcases h1.1.2 with h5 | h5
 ·omega
 ·exact h5
theorem val_swap {t:TabL}(hr:rightTab t=true)(hs:t.sym=3){inn:List Int}(hn0:∀ s ∈ inn,0≤s)(hi:inn.length=t.hood.length){a b:Nat}(ha:a < inn.length)(hb:b < inn.length)(hac:(a:Int)≠ctrP t.hood)(hbc:(b:Int)≠ctrP t.hood):valT t (swapL inn a b)=valT t inn:=
 val_same (fun r h=>by
  obtain⟨h1,h2,h3,h4⟩:=row_facts hr h;unfold rowD;rw[hs];exact row_swap hn0 h1 h2 h3 (by rw[h4,hi]) ha hb hac hbc) (fun h=>by
  rw[swapL_get ha hb,show sw a b (ctrP t.hood).toNat=(ctrP t.hood).toNat by unfold sw;rw[if_neg (by omega),if_neg (by omega)]])
theorem val_turn {t:TabL}(hr:rightTab t=true)(hs:t.sym=1∨t.sym=2){inn tn:List Int}(hn0:∀ s ∈ inn,0≤s)(hi:inn.length=t.hood.length){n:Nat}(hn:n < nSym t.sym)(ht:TurnOf t.hood n inn tn):valT t tn=valT t inn:=by
 obtain⟨-,hh,hp,-⟩:=rightTab_parts hr;refine val_same (fun r h=>?_) (fun h=>?_)
 ·obtain⟨h1,h2,h3,h4⟩:=row_facts hr h;exact row_turn hh hp hs hn0 h1 h2 h3 h4 hi hn ht
 ·have hc:(ctrP t.hood).toNat < t.hood.length:=by
   rcases ctr_lt15 t.hood with h1 | ⟨-,h1⟩
   ·omega
   ·exact h1
  have h0:t.hood[(ctrP t.hood).toNat]=(0,0):=by
   have e:ctrP t.hood=idxF (0,0) 0 t.hood:=by unfold ctrP;rw[if_pos hh]
   have hm:(0,0) ∈ t.hood:=(idxF_mem t.hood 0).1 (by omega);obtain⟨j,hj,e1,e2⟩:=idxF_get hm;have:(ctrP t.hood).toNat=j:=by omega
   simp only[this];exact e2
  exact ht.2 _ hc _ hc (by rw[h0,symP_mE];simp)
end Go.Proofs.YtcmbdhopmncmnaaGreatDoor
namespace Go.Proofs.YtcmbdhopmncmnaaGreatDoor
open Go.RowKit
set_option linter.unusedVariables false
set_option linter.unusedSimpArgs false
theorem index_nl {a r:List UInt8}(h:(10:UInt8) ∉ a):Lib.index (a ++ 10 :: r) [10]=a.length:=by
 refine Lib.index_first (by simp) (by simp[Lib.occAt]) (fun j hj=>?_);unfold Lib.occAt;rw[List.drop_append_of_le_length (by omega),List.drop_eq_getElem_cons hj];have hne:a[j]≠10:=fun he=>h (he ▸ List.getElem_mem hj);simp only[List.cons_append,List.isPrefixOf,Bool.and_true];simpa using Ne.symm hne
theorem splitK_nl {a r:List UInt8}(h:(10:UInt8) ∉ a)(k:Nat):Lib.splitK [10] 0 (k+1) (a ++ 10 :: r)=a :: Lib.splitK [10] 0 k r:=by
 rw[Lib.splitK,index_nl h];have:¬ (((a.length:Nat):Int) == -1)=true:=by rw[beq_iff_eq];omega
 rw[if_neg this]
 simp
theorem cut_nl:∀ (l:List UInt8)(n:Nat),l.count 10=n+1→∃ a r,l=a ++ 10 :: r∧(10:UInt8) ∉ a∧r.count 10=n
 | [],n,h=>by simp at h
 | c :: l,n,h=>by
  by_cases hc:c=10
  ·subst hc;exact⟨[],l,rfl,by simp,by simpa using h⟩
  ·rw[List.count_cons,if_neg (by simpa using hc)] at h;obtain⟨a,r,h1,h2,h3⟩:=cut_nl l n h;refine⟨c :: a,r,by simp[h1],?_,h3⟩;intro hm;rcases List.mem_cons.1 hm with hm | hm
   ·exact hc hm.symm
   ·exact h2 hm
theorem lines_one:∀ {l:List UInt8},(10:UInt8) ∉ l→lines11 l=[l]
 | [],_=>rfl
 | c :: l,h=>by
  show (if c=10 then _ else _)=_;rw[if_neg (fun e=>h (by rw[e];simp)),lines_one (fun h2=>h (by simp[h2]))]
theorem split_lines:∀ (k:Nat)(l:List UInt8),l.count 10=k→Lib.splitK [10] 0 k l=lines11 l
 | 0,l,h=>by
  rw[lines_one (List.count_eq_zero.1 h)];rfl
 | k+1,l,h=>by
  obtain⟨a,r,rfl,h2,h3⟩:=cut_nl l k h;rw[splitK_nl h2,lines_app a r (fun c hc e=>h2 (e ▸ hc)),split_lines k r h3]
theorem split_all (s:ByteArray):(Lib.splitB ⟨#[10]⟩ 0 (Lib.countB s ⟨#[10]⟩) s).map (fun x=>x.data.toList)=lines11 s.data.toList:=by
 rw[Lib.splitB_data];exact split_lines _ _ (Lib.count_one 10 s.data.toList).symm
def linesX:List (List UInt8)→Nat→List (Nat × List Wd)
 | [],_=>[]
 | l :: r,i=>if wordsL l=[] then linesX r (i+1) else (i+1,wordsL l) :: linesX r (i+1)
def foldW (s:PSt):List (Nat × List Wd)→TabL × Int × Int
 | []=>if s.head < 3 then (zero11,0,4) else (s.t,0,0)
 | x :: r=>if (stepW s x.2).2≠0 then (zero11,(x.1:Int),(stepW s x.2).2) else foldW (stepW s x.2).1 r
theorem read_fold:∀ (ls:List (List UInt8))(s:PSt)(i:Nat),readW s i ls=foldW s (linesX ls i)
 | [],s,i=>rfl
 | l :: r,s,i=>by
  show (if wordsL l=[] then readW s (i+1) r else if (stepW s (wordsL l)).2≠0 then (zero11,(i:Int)+1,(stepW s (wordsL l)).2) else readW (stepW s (wordsL l)).1 (i+1) r)=foldW s (if wordsL l=[] then linesX r (i+1) else (i+1,wordsL l) :: linesX r (i+1));by_cases h:wordsL l=[]
  ·rw[if_pos h,if_pos h,read_fold r s (i+1)]
  ·rw[if_neg h,if_neg h];show _=(if (stepW s (wordsL l)).2≠0 then (zero11,((i+1:Nat):Int),(stepW s (wordsL l)).2) else foldW (stepW s (wordsL l)).1 (linesX r (i+1)))
   by_cases h2:(stepW s (wordsL l)).2≠0
   ·rw[if_pos h2,if_pos h2,Int.natCast_add];rfl
   ·rw[if_neg h2,if_neg h2,read_fold r _ (i+1)]
def runX (s:PSt):List (Nat × List Wd)→Option PSt
 | []=>some s
 | x :: r=>if (stepW s x.2).2≠0 then none else runX (stepW s x.2).1 r
theorem runX_snoc:∀ (a:List (Nat × List Wd))(s s':PSt)(x:Nat × List Wd),runX s a=some s'→runX s (a ++ [x])=if (stepW s' x.2).2≠0 then none else some (stepW s' x.2).1
 | [],s,s',x,h=>by
  injection h with h
  subst h;show (if (stepW s x.2).2≠0 then none else some (stepW s x.2).1)=_;rfl
 | y :: a,s,s',x,h=>by
  have h':(if (stepW s y.2).2≠0 then none else runX (stepW s y.2).1 a)=some s':=h;show (if (stepW s y.2).2≠0 then none else runX (stepW s y.2).1 (a ++ [x]))=_;by_cases h2:(stepW s y.2).2≠0
  ·rw[if_pos h2] at h';cases h'
  ·rw[if_neg h2] at h' ⊢;exact runX_snoc a _ s' x h'
theorem foldW_run:∀ (a b:List (Nat × List Wd))(s s':PSt),runX s a=some s'→foldW s (a ++ b)=foldW s' b
 | [],b,s,s',h=>by
  injection h with h
  subst h;rfl
 | y :: a,b,s,s',h=>by
  have h':(if (stepW s y.2).2≠0 then none else runX (stepW s y.2).1 a)=some s':=h;show (if (stepW s y.2).2≠0 then _ else foldW (stepW s y.2).1 (a ++ b))=_;by_cases h2:(stepW s y.2).2≠0
  ·rw[if_pos h2] at h';cases h'
  ·rw[if_neg h2] at h' ⊢;exact foldW_run a b _ s' h'
theorem linesX_mem:∀ (ls:List (List UInt8))(i:Nat)(x:Nat × List Wd),x ∈ linesX ls i→i < x.1∧x.1≤i+ls.length∧x.2≠[]∧∃ l ∈ ls,x.2=wordsL l
 | [],i,x,h=>absurd h (by simp[linesX])
 | l :: r,i,x,h=>by
  have h':x ∈ (if wordsL l=[] then linesX r (i+1) else (i+1,wordsL l) :: linesX r (i+1)):=h;have key:x ∈ linesX r (i+1)→i < x.1∧x.1≤i+(l :: r).length∧x.2≠[]∧∃ l' ∈ l :: r,x.2=wordsL l':=fun h2=>by
   obtain⟨h3,h4,h5,l',h6,h7⟩:=linesX_mem r (i+1) x h2;exact⟨by omega,by rw[List.length_cons];omega,h5,l',by simp[h6],h7⟩
  by_cases hw:wordsL l=[]
  ·rw[if_pos hw] at h';exact key h'
  ·rw[if_neg hw] at h';rcases List.mem_cons.1 h' with rfl | h2
   ·exact⟨by dsimp only;omega,by rw[List.length_cons];dsimp only;omega,hw,l,by simp,rfl⟩
   ·exact key h2
theorem lines_len:∀ l:List UInt8,(lines11 l).length≤l.length+1∧∀ x ∈ lines11 l,x.length≤l.length
 | []=>⟨by simp[lines11],fun x h=>by
  rw[List.mem_singleton.1 (show x ∈ [[]] from h)];exact Nat.le_refl _⟩
 | c :: r=>by
  obtain⟨h1,h2⟩:=lines_len r;have e:lines11 (c :: r)=(if c=10 then [] :: lines11 r else match lines11 r with | x :: l=>(c :: x) :: l | []=>[[c]]):=rfl;rw[e];by_cases hc:c=10
  ·rw[if_pos hc];refine⟨by simp;omega,fun x hx=>?_⟩;rcases List.mem_cons.1 hx with rfl | hx
   ·simp
   ·have:=h2 x hx
    simp
    omega
  ·rw[if_neg hc];cases hl:lines11 r with
   | nil=>
    refine⟨by simp,fun x hx=>?_⟩;rw[List.mem_singleton.1 hx]
    simp
   | cons y l=>
    rw[hl] at h1 h2;dsimp only;refine⟨by simp at h1 ⊢;omega,fun x hx=>?_⟩;rcases List.mem_cons.1 hx with rfl | hx
    ·have:=h2 y (by simp)
     simp
     omega
    ·have:=h2 x (by simp[hx])
     simp
     omega
theorem fields_len:∀ (l:List UInt8)(cur:Wd),(fieldsB cur l).length≤l.length+1∧∀ w ∈ fieldsB cur l,w.length≤cur.length+l.length
 | [],cur=>by
  show (if cur=[] then [] else [cur]).length≤_∧∀ w ∈ (if cur=[] then [] else [cur]),_;by_cases h:cur=[]
  ·rw[if_pos h];exact⟨by simp,fun w hw=>absurd hw (by simp)⟩
  ·rw[if_neg h];exact⟨by simp,fun w hw=>by rw[List.mem_singleton.1 hw];simp⟩
 | c :: r,cur=>by
  show (if sepB c=true then (if cur=[] then fieldsB [] r else cur :: fieldsB [] r) else fieldsB (cur ++ [c]) r).length≤_∧∀ w ∈ (if sepB c=true then (if cur=[] then fieldsB [] r else cur :: fieldsB [] r) else fieldsB (cur ++ [c]) r),_;by_cases hs:sepB c=true
  ·rw[if_pos hs];obtain⟨h1,h2⟩:=fields_len r [];by_cases h:cur=[]
   ·rw[if_pos h];refine⟨by simp;omega,fun w hw=>?_⟩;have:=h2 w hw;simp at this ⊢;omega
   ·rw[if_neg h];refine⟨by simp;omega,fun w hw=>?_⟩;rcases List.mem_cons.1 hw with rfl | hw
    ·simp
    ·have:=h2 w hw;simp at this ⊢;omega
  ·rw[if_neg hs];obtain⟨h1,h2⟩:=fields_len r (cur ++ [c]);refine⟨by simp;omega,fun w hw=>?_⟩;have:=h2 w hw;simp at this ⊢;omega
theorem words_bound (l:List UInt8):(wordsL l).length≤l.length+1∧∀ w ∈ wordsL l,w.length≤l.length:=by
 have hu:(uncom l).length≤l.length:=by unfold uncom;exact (List.takeWhile_sublist _).length_le
 obtain⟨h1,h2⟩:=fields_len (uncom l) [];exact⟨by unfold wordsL;omega,fun w hw=>by have:=h2 w hw;simp at this;omega⟩
end Go.Proofs.YtcmbdhopmncmnaaGreatDoor
namespace Go.Proofs.YtcmbdhopmncmnaaGreatDoor
set_option linter.unusedSimpArgs false
set_option linter.unusedVariables false
set_option maxRecDepth 100000
def exA:List UInt8:=[115,116,97,116,101,115,32,50,10,104,111,111,100,32,108,105,110,101,10,115,121,109,109,101,116,114,121,32,110,111,110,101,10,118,97,114,32,97,32,48,32,49,10,49,32,97,32,48,32,45,62,32,49,10,97,32,49,32,97,32,45,62,32,48,10]
def exB:List UInt8:=[115,116,97,116,101,115,32,50,10,104,111,111,100,32,104,101,120,10,115,121,109,109,101,116,114,121,32,114,111,116,97,116,101]
def exC:List UInt8:=[115,116,97,116,101,115,32,50,10,104,111,111,100,32,110,101,117,109,97,110,110,10,115,121,109,109,101,116,114,121,32,114,111,116,97,116,101,10,49,32,48,32,48,32,48,32,48,32,45,62,32,49,10]
def tabA:TabL:=⟨2,0,line11,[[0,1]],[([1,-1,0],1),([-1,1,-1],0)]⟩
def tabU:TabL:=⟨2,1,neumP,[],[([1,0,0,0,0],1)]⟩
theorem exA_parse:parse11 exA=(tabA,0,0):=by rfl
theorem exB_parse:parse11 exB=(zero11,3,2):=by rfl
theorem exE_parse:parse11 []=(zero11,0,4):=by rfl
theorem exA_next1:nextT tabA [1,0,0]=(1,0):=by decide
theorem exA_next2:nextT tabA [1,1,1]=(0,0):=by decide
theorem exA_next3:nextT tabA [0,0,1]=(0,0):=by decide
theorem exA_next4:nextT tabA [0,1,1]=(1,0):=by decide
theorem exA_match:matchT tabA 1 [0,1,0]=(0,true):=by decide
theorem exU_next:nextT tabU [0,0,0,1,0]=(1,0):=by decide
theorem exU_right:rightTab tabU=true:=by decide
theorem exZ_right:rightTab zero11=false:=by decide
theorem exU_text:text11 tabU=exC:=by
 have h2:Lib.decDigits 2=[50]:=d11_small (by decide);have h1:Lib.decDigits 1=[49]:=d11_small (by decide);have h0:Lib.decDigits 0=[48]:=d11_small (by decide);have e1:elT 1=[49]:=h1;have e0:elT 0=[48]:=h0;unfold text11;rw[if_neg (by rw[exU_right];decide),show placeH tabU.hood 0 hoodsP=some 1 by decide];dsimp only;unfold head11;rw[show tabU.st.toNat=2 from rfl,h2];show _ ++ [] ++ (([1,0,0,0,0].flatMap fun e=>elT e ++ [32]) ++ ([45,62,32] ++ elT 1) ++ [10] ++ [])=exC;simp only[List.flatMap_cons,List.flatMap_nil,e1,e0];rfl
end Go.Proofs.YtcmbdhopmncmnaaGreatDoor
namespace Go.Proofs.YtcmbdhopmncmnaaGreatDoor
set_option linter.unusedSimpArgs false
open Go.RowKit Go.Maps
set_option linter.unusedVariables false
theorem placeW_snoc (w x:Wd):∀ (l:List Wd)(k:Nat),placeW w k (l ++ [x])=(placeW w k l).or (if x=w then some (k+l.length) else none)
 | [],k=>by
  show (if x=w then some k else none)=_;by_cases h:x=w
  ·rw[if_pos h,if_pos h];rfl
  ·rw[if_neg h,if_neg h];rfl
 | y :: l,k=>by
  show (if y=w then some k else placeW w (k+1) (l ++ [x]))=Option.or (if y=w then some k else placeW w (k+1) l) _;by_cases h:y=w
  ·rw[if_pos h,if_pos h];rfl
  ·rw[if_neg h,if_neg h,placeW_snoc w x l (k+1),List.length_cons,show k+1+l.length=k+(l.length+1) by omega]
theorem placeW_lt (w:Wd):∀ (l:List Wd)(k i:Nat),placeW w k l=some i→i < k+l.length
 | [],k,i,h=>by cases h
 | y :: l,k,i,h=>by
  have h':(if y=w then some k else placeW w (k+1) l)=some i:=h;by_cases e:y=w
  ·rw[if_pos e] at h';injection h' with h'
   rw[List.length_cons];omega
  ·rw[if_neg e] at h';have:=placeW_lt w l (k+1) i h';rw[List.length_cons];omega
def KnownW (D:DataW Unit)(names:List Wd):Prop:=IsMap D∧∀ b:Wd,Maps.has D (.string b)=(placeW b 0 names).isSome∧∀ i,placeW b 0 names=some i→D.atKey (.string b) (.lit (.int .i64 0))=.lit (.int .i64 i)
theorem KnownW.nil:KnownW (.map []) []:=⟨isMap_empty,fun b=>⟨rfl,fun i h=>by cases h⟩⟩
theorem KnownW.push {D:DataW Unit}{names:List Wd}(h:KnownW D names){x:Wd}(hx:placeW x 0 names=none):KnownW (D.put (.string x) (.lit (.int .i64 names.length))) (names ++ [x]):=by
 have hk:WideAt.IsKeyLit (.string x):=trivial;refine⟨h.1.put _ _,fun y=>?_⟩;rw[placeW_snoc];by_cases e:x=y
 ·subst e;rw[hx,if_pos rfl];refine⟨has_put_same h.1 hk _,fun i hi=>?_⟩;simp at hi;subst hi;exact atKey_put_same h.1 hk _ _
 ·have hne:(Lit.string y)≠.string x:=by
   intro he;injection he with he
   exact e he.symm
  rw[if_neg e,Option.or_none,has_put_other hne];refine⟨(h.2 y).1,fun i hi=>?_⟩;rw[atKey_put_other hne];exact (h.2 y).2 i hi
end Go.Proofs.YtcmbdhopmncmnaaGreatDoor
namespace Go.Proofs.YtcmbdhopmncmnaaGreatDoor
set_option linter.unusedSimpArgs false
open Go.RowKit
set_option linter.unusedVariables false
abbrev Blks:=Nat→Prop
theorem wideO_call {n:Nat}{f:FuncId}{C:Prop}(h:C):Fence.wide.fn f∧(Fence.wide.depth.isSome=true→1≤n)∧C:=⟨trivial,(fun hd=>by cases hd),h⟩
theorem wideO_round {n:Nat}{C:Prop}(h:C):(Fence.wide.depth.isSome=true→1≤n)∧C:=⟨(fun hd=>by cases hd),h⟩
def LocalO {X:Type}(J:List X→Blks→World→Prop):Prop:=∀ xs O W W',J xs O W→Kept (fun k=>¬ O k) W W'→J xs O W'
def InO (O:Blks)(W:World):Prop:=∀ k,O k→k < W.heap.size
def NewO (O O':Blks)(W:World):Prop:=∀ k,O' k→O k∨W.heap.size≤k
theorem Kept.putObjO {S:Nat→Prop}{w w':World}(h:Kept S w w'){l:Nat}(hl:S l∨w.heap.size≤l)(o:Obj):Kept S w (w'.putObj l o):=
 ⟨⟨h.below.os,h.below.tape,h.below.output,Nat.le_trans h.below.size (by simp),fun k hk=>absurd hk (Nat.not_lt_zero k)⟩,fun k hk hs=>(World.putObj_heap_other (fun e=>by
  subst e;rcases hl with hl | hl
  ·exact hs hl
  ·omega)).trans (h.block k hk hs)⟩
theorem LocalO.putObj {X:Type}{J:List X→Blks→World→Prop}(h:LocalO J){xs:List X}{O:Blks}{W:World}(hj:J xs O W){l:Nat}(hl:¬ O l)(o:Obj):J xs O (W.putObj l o):=
 h xs O W _ hj ((Kept.refl _ W).putObjO (.inl hl) o)
def SeqO (P:Program)(g:Nat)(lb:Array Value){X:Type}(Ok:List X→X→Array Value→Blks→World→Prop)(S:List X→Prop)(lo:Nat)(w:World):Prop:=
 ∀ (n l:Nat) (J:List X→Blks→World→Prop) (Jx:List X→World→Prop) (W:World),Below w.heap.size w W→LocalO J→(∀ xs O W,J xs O W→InO O W)→
  (∀ pre x vs O W1,J pre O W1→Ok pre x vs O W1→YieldAt Fence.wide (n - 1) P l vs W1 fun e W'=>(e=.returned (.bool true)∧∃ O',J (pre ++ [x]) O' W'∧Kept (fun k=>O k∧lo≤k) W1 W'∧NewO O O' W1)∨(e=.returned (.bool false)∧Jx (pre ++ [x]) W'))→
  ∀ O,J [] O W→CallsIn Fence.wide n P g (#[.func (.yield l) #[] #[]] ++ lb) W fun e W'=>(∃ v,e=.returned v)∧((∃ xs O',S xs∧J xs O' W')∨∃ pre rest,S (pre ++ rest)∧Jx pre W')
def EndsO {X:Type}(lo:Nat)(I Ix:List X→Blks→World→Prop)(O:Blks)(xs:List X)(W:World):Exit→Act→World→Prop
 | .normal,_,W'=>∃ O',Kept (fun k=>O k∧lo≤k) W W'∧I xs O' W'∧NewO O O' W
 | .ret,_,W'=>∃ O',Kept (fun k=>O k∧lo≤k) W W'∧Ix xs O' W'∧NewO O O' W
 | _,_,_=>False
theorem wpIn_rangeO {n:Nat}{P:Program}{g:Operand}{ps:Array Tmp}{assign body:Code}{Q:Exit→Act→World→Prop}{a:Act}{w w0:World}
  {gf:Nat} {lb:Array Value} {X:Type} {Ok:List X→X→Array Value→Blks→World→Prop} {S:List X→Prop} {lo:Nat}
  (hg:a.eval g=.func (.func gf) #[] lb) (eg:∀ args w,(callFunc gf args).run P w=.ok (.enter gf args) w) (hseq:SeqO P gf lb Ok S lo w0) (hlw:lo≤w.heap.size) (hb0:Below w0.heap.size w0 w)
  (hps:∀ pre x vs O W,Ok pre x vs O W→vs.size=ps.size)
  (hOk:∀ pre x vs O O1 W l o o',Ok pre x vs O W→(∀ k,O1 k→O k)→W.heap[l]?=some o→o.isCells=false→Ok pre x vs O1 (W.putObj l o'))
  (I Ix:List X→Blks→World→Prop) (hI:LocalO I) (hIx:LocalO Ix) (hIn:∀ xs O W,I xs O W→InO O W) (O0:Blks) (h0:I [] O0 w) (a₁:Array Value→Act)
  (hassign:∀ (l:Nat) (pre:List X) (x:X) (vs:Array Value) (O:Blks) (W:World) (K:Act→World→Prop),Ok pre x vs O W→K (a₁ vs) W→
   assign.wpIn (Fence.wide.inRound l) (n - 1 - 1) P (Exit.then K (fun _ _ _=>False)) { tmps:=(ps.zip vs).foldl (fun t (p,v)=>t.setIfInBounds p v) a.tmps,defers:=[] } W)
  (hbody:∀ (l:Nat) (pre:List X) (x:X) (vs:Array Value) (O:Blks) (W:World),w.heap.size≤W.heap.size→I pre O W→Ok pre x vs O W→body.wpIn (Fence.wide.inRound l) (n - 1 - 1) P (EndsO lo I Ix O (pre ++ [x]) W) (a₁ vs) W)
  (hdone:∀ (D:Nat) (xs:List X) (O:Blks) (W:World),w.heap.size≤D→S xs→I xs O W→¬ O D→W.heap[D]?=some (.deferred (some []))→Q .normal { a with defers:={ target:=.collected D,args:=#[] } :: a.defers } W)
  (hstop:∀ (D:Nat) (pre rest:List X) (O:Blks) (W:World),w.heap.size≤D→S (pre ++ rest)→Ix pre O W→¬ O D→W.heap[D]?=some (.deferred (some []))→Code.ret.wpIn Fence.wide n P Q { a with defers:={ target:=.collected D,args:=#[] } :: a.defers } W) :
  (Code.rangeFunc g ps assign body).wpIn Fence.wide n P Q a w:=by
 refine wpIn_rangeFunc fun fn hfn=>?_;obtain⟨mk,hmk⟩:∃ mk:LoopState→Option Code→Obj,mk=fun st pe=>.loop { state:=st,pending:=pe,fn,tmps:=a.tmps,params:=ps,assign,body,defers:=w.heap.size }:=⟨_,rfl⟩
 obtain⟨W1,hW1⟩:∃ W1,W1=(w.alloc (.deferred (some []))).alloc (mk .ready none):=⟨_,rfl⟩
 have hsz:W1.heap.size=w.heap.size+1+1:=by rw[hW1];simp
 have hL1:W1.heap[w.heap.size+1]?=some (mk .ready none):=by
  rw[hW1];have h:=World.alloc_heap_new (w.alloc (.deferred (some []))) (mk .ready none);rwa [World.size_alloc] at h
 have hD1:W1.heap[w.heap.size]?=some (.deferred (some [])):=by
  rw[hW1];exact (Below.heap_alloc _ _ _ (by simp)).trans (World.alloc_heap_new w _)
 have hcells:∀ st pe,(mk st pe).isCells=false:=fun st pe=>by rw[hmk];rfl
 refine⟨w.heap.size+1,[{ target:=.collected w.heap.size,args:=#[] }],W1,{ target:=.fn (.func gf) lb,args:=#[.func (.yield (w.heap.size+1)) #[] #[]] },W1,gf,
  #[.func (.yield (w.heap.size + 1)) #[] #[]] ++ lb, W1, ?_, ?_, fun _ _ => trivial, ?_, fun h => by simp [Fence.wide] at h, ?_⟩
 ·rw[hW1,hmk];exact run_enterLoop_outer _ _ _ _ _
 ·simp only[resolve,hg];simp[go_sem]
 ·simp[invoke,go_sem,eg]
 have hbw:Below w.heap.size w W1:=by
  rw[hW1];exact ((Below.refl _ w).alloc (Nat.le_refl _) _).alloc (by simp) _
 have hb1:Below w0.heap.size w0 W1:=hb0.trans (hbw.mono hb0.size);have hI1:I [] O0 W1:=hI _ _ _ _ h0 (Kept.of_new _ hbw);have hN1:∀ k,O0 k→k≠w.heap.size∧k≠w.heap.size+1:=fun k hk=>by have:=hIn _ _ _ h0 k hk;omega
 refine (hseq (n - 1) (w.heap.size+1)
  (fun pre O W=>∃ O0,(∀ k,O k ↔ O0 k∨k=w.heap.size∨k=w.heap.size+1)∧I pre O0 W∧(∀ k,O0 k→k≠w.heap.size∧k≠w.heap.size+1)∧W.heap[w.heap.size+1]?=some (mk .ready none)∧W.heap[w.heap.size]?=some (.deferred (some [])))
  (fun pre W=>∃ O0,Ix pre O0 W∧(∀ k,O0 k→k≠w.heap.size∧k≠w.heap.size+1)∧W.heap[w.heap.size+1]?=some (mk .done (some .ret))∧W.heap[w.heap.size]?=some (.deferred (some [])))
  W1 hb1 ?loc ?inn ?rounds (fun k=>O0 k∨k=w.heap.size∨k=w.heap.size+1) ⟨O0,fun k=>Iff.rfl,hI1,hN1,hL1,hD1⟩).mono ?behind
 case loc=>
  rintro xs O W W' ⟨O1,hO,h1,h2,h3,h4⟩ hk;exact⟨O1,hO,hI _ _ _ _ h1 (hk.mono fun k _ h h2=>h ((hO k).2 (.inl h2))),h2,(hk.block _ (Array.getElem?_eq_some_iff.1 h3).1 (fun h=>h ((hO _).2 (.inr (.inr rfl))))).trans h3,(hk.block _ (Array.getElem?_eq_some_iff.1 h4).1 (fun h=>h ((hO _).2 (.inr (.inl rfl))))).trans h4⟩
 case inn=>
  rintro xs O W ⟨O1,hO,h1,h2,h3,h4⟩ k hk;rcases (hO k).1 hk with h | rfl | rfl
  ·exact hIn _ _ _ h1 k h
  ·exact (Array.getElem?_eq_some_iff.1 h4).1
  ·exact (Array.getElem?_eq_some_iff.1 h3).1
 case rounds=>
  rintro pre x vs O W ⟨O1,hO,hi1,hn1,hl,hk⟩ hok;have hlt:w.heap.size+1 < W.heap.size:=(Array.getElem?_eq_some_iff.1 hl).1;have hy:=hl;rw[hmk] at hy;have hyr:=run_yield (P:=P) (args:=vs) hy (by simp[hps _ _ _ _ _ hok]);refine⟨fn,_,assign,body,hyr,roundIn_of_wpIn hfn (hassign _ pre x vs O W _ hok ⟨_,run_beginRound hy rfl,?_⟩)⟩;have eb:(Obj.loop { state:=.busy,pending:=none,fn,tmps:=a.tmps,params:=ps,assign,body,defers:=w.heap.size })=mk .busy none:=by rw[hmk]
  have nL:¬ O1 (w.heap.size+1):=fun h=>(hn1 _ h).2 rfl;have nD:¬ O1 w.heap.size:=fun h=>(hn1 _ h).1 rfl;obtain⟨W2,hW2⟩:∃ W2,W2=W.putObj (w.heap.size+1) (mk .busy none):=⟨_,rfl⟩
  have hsz2:W2.heap.size=W.heap.size:=by rw[hW2];simp
  have hgoal:body.wpIn (Fence.wide.inRound (w.heap.size+1)) (n - 1 - 1) P (EndsO lo I Ix O1 (pre ++ [x]) W2) (a₁ vs) W2:=
   hbody _ pre x vs O1 W2 (by omega) (by rw[hW2];exact hI.putObj hi1 nL _) (by rw[hW2];exact hOk _ _ _ _ O1 _ _ _ _ hok (fun k h=>(hO k).2 (.inl h)) hl (hcells _ _))
  have hl2:W2.heap[w.heap.size+1]?=some (mk .busy none):=by rw[hW2];exact World.putObj_heap_same hlt
  have hk2:W2.heap[w.heap.size]?=some (.deferred (some [])):=by rw[hW2];exact (World.putObj_heap_other (by omega)).trans hk
  have hkw:Kept (fun k=>O k∧lo≤k) W W2:=by rw[hW2];exact (Kept.refl _ W).putObjO (.inl ⟨(hO _).2 (.inr (.inr rfl)),Nat.le_succ_of_le hlw⟩) _
  have hl2s:w.heap.size+1 < W2.heap.size:=by omega
  have fin:∀ (st:LoopState) (jump:Option Code) (W3:World),(st=if jump.isNone then .ready else .done)→Kept (fun k=>O1 k∧lo≤k) W2 W3→
    (Instr.endRound (w.heap.size+1) jump).run P W3=.ok (.bool jump.isNone) (W3.putObj (w.heap.size+1) (mk st jump))∧
    (W3.putObj (w.heap.size+1) (mk st jump)).heap[w.heap.size+1]?=some (mk st jump)∧(W3.putObj (w.heap.size+1) (mk st jump)).heap[w.heap.size]?=some (.deferred (some [])):=by
   intro st jump W3 hst hk3;subst hst;have hl3:=(hk3.block _ hl2s (fun h=>nL h.1)).trans hl2;have hl3':=hl3;rw[hmk] at hl3';have hr:=run_endRound (P:=P) jump hl3';exact⟨by rw[hmk];exact hr,World.putObj_heap_same (Array.getElem?_eq_some_iff.1 hl3).1,(World.putObj_heap_other (by omega)).trans ((hk3.block _ (by omega) (fun h=>nD h.1)).trans hk2)⟩
  have new3:∀ {O3:Blks},NewO O1 O3 W2→∀ k,O3 k→k≠w.heap.size∧k≠w.heap.size+1:=fun hn k hk=>by
   rcases hn k hk with h | h
   ·exact hn1 k h
   ·omega
  show body.wpIn _ _ P _ _ (W.putObj (w.heap.size+1) (.loop { state:=.busy,pending:=none,fn,tmps:=a.tmps,params:=ps,assign,body,defers:=w.heap.size }));rw[eb,← hW2];refine wpIn_mono hgoal ?_;rintro e a3 W3 hp;cases e with
  | normal=>
   obtain⟨O3,hk3,hi3,hn3⟩:=hp;obtain⟨hr,hl4,hk4⟩:=fin .ready none W3 rfl hk3;have n3:=new3 hn3;refine⟨_,_,hr,.inl ⟨rfl,fun k=>O3 k∨k=w.heap.size∨k=w.heap.size+1,⟨O3,fun k=>Iff.rfl,hI.putObj hi3 (fun h=>(n3 _ h).2 rfl) _,n3,hl4,hk4⟩,?_,?_⟩⟩
   ·exact (hkw.trans (hk3.mono fun k _ h=>⟨(hO k).2 (.inl h.1),h.2⟩)).putObjO (.inl ⟨(hO _).2 (.inr (.inr rfl)),Nat.le_succ_of_le hlw⟩) _
   ·intro k hk;rcases hk with h | h
    ·rcases hn3 k h with h | h
     ·exact .inl ((hO k).2 (.inl h))
     ·exact .inr (by omega)
    ·exact .inl ((hO k).2 (.inr h))
  | ret=>
   obtain⟨O3,hk3,hi3,hn3⟩:=hp;obtain⟨hr,hl4,hk4⟩:=fin .done (some .ret) W3 rfl hk3;have n3:=new3 hn3;exact⟨_,_,hr,.inr ⟨rfl,O3,hIx.putObj hi3 (fun h=>(n3 _ h).2 rfl) _,n3,hl4,hk4⟩⟩
  | exit id=>exact (hp:False).elim
  | goto t=>exact (hp:False).elim
  | panic ch=>exact (hp:False).elim
  | outgrown=>exact (hp:False).elim
 case behind=>
  rintro e W2 ⟨⟨v,rfl⟩,(⟨xs,O,hS,O1,hO,hi1,hn1,hl,hk⟩ | ⟨pre,rest,hS,O1,hi1,hn1,hl,hk⟩)⟩
  ·have hl':=hl;rw[hmk] at hl';have hr:=run_endLoop (P:=P) hl' (by simp);exact⟨none,_,hr,hdone _ xs O1 _ (Nat.le_refl _) hS (hI.putObj hi1 (fun h=>(hn1 _ h).2 rfl) _) (fun h=>(hn1 _ h).1 rfl) ((World.putObj_heap_other (by omega)).trans hk)⟩
  ·have hl':=hl;rw[hmk] at hl';have hr:=run_endLoop (P:=P) hl' (by simp);exact⟨some .ret,_,hr,hstop _ pre rest O1 _ (Nat.le_refl _) hS (hIx.putObj hi1 (fun h=>(hn1 _ h).2 rfl) _) (fun h=>(hn1 _ h).1 rfl) ((World.putObj_heap_other (by omega)).trans hk)⟩
set_option maxRecDepth 100000
def Sts (w:World)(A:Option Addr)(bs:List ByteArray):Prop:=Reads w w.heap.size 1 A bs.length (bs.map Value.string)∧bs.length≤9223372036854775807
section
variable {w w' : World} {A : Option Addr} {bs : List ByteArray}
theorem Sts.at_ {k:Nat}(h:Sts w A bs)(hk:k < bs.length):∃ b o,A=some ⟨b,o,none⟩∧b < w.heap.size∧w.cell? ⟨b,o+k,none⟩=some (.string bs[k]):=by
 obtain⟨ad,e,hb,hc⟩:=h.1.2 (by omega);have h0:=hc 0 (.string bs[0]) (by simp);have hk':=hc k (.string bs[k]) (by simp[List.getElem?_eq_getElem hk]);obtain⟨b,o,sp⟩:=ad;obtain rfl:=spot_none h0;rw[addr_add] at hk';exact⟨b,o,e,hb,hk'⟩
theorem Sts.le (h:Sts w A bs):bs.length≤9223372036854775807:=h.2
theorem Sts.ext (h:Sts w A bs)(hb:Below w.heap.size w w'):Sts w' A bs:=⟨(Reads.below h.1 hb).more hb.size,h.2⟩
theorem Sts.drewN (h:Sts w A bs)(n:Nat):Sts (w.drewN n) A bs:=h
theorem Sts.putObj (h:Sts w A bs){l:Nat}{o:Obj}(hl:w.heap[l]?=some o)(ho:o.isCells=false)(o':Obj):Sts (w.putObj l o') A bs:=by
 refine⟨⟨h.1.1,fun hn=>?_⟩,h.2⟩;obtain⟨ad,e,hb,hc⟩:=h.1.2 hn;refine⟨ad,e,by simpa using hb,fun j u hj=>?_⟩;have hu:=hc j u hj;have hne:(ad.add j).block≠l:=fun e2=>by
  rw[World.cell?,e2,hl] at hu;cases o <;> first | (cases ho;done) | (simp at hu;done)
 exact (World.cell?_of_block (World.putObj_heap_other hne)).trans hu
theorem Sts.kept {S:Nat→Prop}(h:Sts w A bs)(hk:Kept S w w')(hs:∀ ad,A=some ad→0 < bs.length→¬ S ad.block):Sts w' A bs:=by
 refine⟨⟨h.1.1,fun hn=>?_⟩,h.2⟩;obtain⟨ad,e,hb,hc⟩:=h.1.2 hn;refine⟨ad,e,Nat.lt_of_lt_of_le hb hk.below.size,fun j u hj=>?_⟩;have hu:=hc j u hj;have hbl:(ad.add j).block=ad.block:=by unfold Addr.add;split <;> rfl
 rw[← hu];exact hk.cell (by rw[hbl];exact hb) (by rw[hbl];exact hs ad e hn)
end
def OwnS (T:TypeId)(w:World)(base:Nat)(v:Value)(bs:List ByteArray):Prop:=w.ownsRow base T 1 v bs.length (bs.map Value.string)
theorem OwnS.sts {T:TypeId}{w:World}{base:Nat}{v:Value}{bs:List ByteArray}(h:OwnS T w base v bs):∃ A c,v=.slice A bs.length c∧Sts w A bs∧NewA base A:=own_form h
set_option maxRecDepth 100000
def OwnR0 (T:TypeId)(w:World)(base:Nat)(v:Value)(hs:List Rh):Prop:=w.ownsRow base T 2 v hs.length (hs.flatMap Rh.cells)
theorem OwnR0.form {T:TypeId}{w:World}{base:Nat}{v:Value}{hs:List Rh}(h:OwnR0 T w base v hs):∃ A c,v=.slice A hs.length c∧NewA base A:=by
 obtain⟨A,c,e,h1,h2⟩:=own_form h;exact⟨A,c,e,h2⟩
theorem OwnR0.rws {T:TypeId}{w w0:World}{base:Nat}{A:Option Addr}{n c:Nat}{hs:List Rh}(h:OwnR0 T w base (.slice A n c) hs)(hb:Below w0.heap.size w0 w)(hr:∀ x ∈ hs,Ints w0 x.A x.zs):Rws w A hs:=by
 obtain⟨A',c',e,h1,h2⟩:=own_form h;injection e with e1 e2 e3
 subst e1;exact⟨h1.1,h1.2,fun x hx=>(hr x hx).ext hb⟩
theorem wpList_pushR1 {P:Program}{wr:World}{ops:Array Oper}{rest:List Oper}{o:Oper}{a:Act}{Q:Exit→Act→World→Prop}(hgd:o.guard=none)(s x:Operand)(t:TypeId)
  (ho:o.op=.call { callee:=.builtin .append,args:=#[s,x],argTypes:=#[t,t] })
  (base:Nat) (T:TypeId) (ht:P.underlying t=some (.slice T)) (hi:(P.info? T).map (fun i=>(i.zero,i.size,i.bytes))=some (some (.agg #[.slice none 0 0,.int .i64 0]),2,32))
  (v:Value) (hs:List Rh) (hse:a.eval s=v) (hown:OwnR0 T wr base v hs)
  (y:Rh) (hx:a.eval x=.slice (some ⟨wr.heap.size,0,none⟩) 1 1)
  (hn:hs.length < 1000000000000) (hbase:base≤wr.heap.size)
  (h:∀ v' w',OwnR0 T w' base v' (hs ++ [y])→Kept (fun g=>v.ownBlock=some g) wr w'→(v'.ownBlock=v.ownBlock∨∃ g,v'.ownBlock=some g∧wr.heap.size≤g)→wpList P ops Q rest (a.put o.dst v') w') :
  wpList P ops Q (o :: rest) a (wr.alloc (.cells #[.slice y.A y.zs.length y.c,.int .i64 y.out] T)):=by
 obtain⟨i0,hi0,hz0,hz1,hz2⟩:=info_parts hi;refine wpList_append_own_at _ hgd s x t ho base T i0 _ 2 32 ht hi0 hz0 hz1 hz2 rfl (by decide) v hs.length _ hse (World.ownsRow.alloc hown _) ⟨wr.heap.size,0,none⟩ 1 1 [.slice y.A y.zs.length y.c,.int .i64 y.out] hx (by simp) ?_ (by simp[Value.oneCell']) (by unfold maxLen;omega) (by omega) (by simp;omega) ?_
 ·intro j u hu;rw[addr_add];have:(wr.alloc (.cells #[.slice y.A y.zs.length y.c,.int .i64 y.out] T)).cell? ⟨wr.heap.size,0+j,none⟩=#[Value.slice y.A y.zs.length y.c,.int .i64 y.out][0+j]?:=cell_of_row _ _ _ _ _ _ (heap_alloc_new wr _);rw[this];simpa using hu
 ·intro v' w' hown' hg _ hat;have hk:Kept (fun g=>v.ownBlock=some g) wr w':=((Kept.refl _ wr).alloc _).grown hg fun g hg=>Or.inl hg;refine h v' w' ?_ hk ?_
  rotate_left
  ·rcases hat with hat | hat
   ·exact .inl hat
   ·exact .inr ⟨_,hat,by simp⟩
  unfold OwnR0;rw[List.length_append,List.flatMap_append];exact hown'
end Go.Proofs.YtcmbdhopmncmnaaGreatDoor
namespace Go.Proofs.YtcmbdhopmncmnaaGreatDoor
open Go.RowKit Go.Maps
set_option maxRecDepth 100000
set_option linter.unusedVariables false
set_option linter.unusedSimpArgs false
theorem Pts.kept {w w':World}{A:Option Addr}{ps:List (Int × Int)}{S:Nat→Prop}(h:Pts w A ps)(hk:Kept S w w')(hs:∀ ad,A=some ad→¬ S ad.block):Pts w' A ps:=by
 refine⟨⟨h.1.1,fun hn=>?_⟩,h.2⟩;obtain⟨ad,e,hb,hc⟩:=h.1.2 hn;refine⟨ad,e,Nat.lt_of_lt_of_le hb hk.below.size,fun j u hj=>?_⟩;have hbl:(ad.add j).block=ad.block:=by unfold Addr.add;split <;> rfl
 rw[← hc j u hj];exact hk.cell (by rw[hbl];exact hb) (by rw[hbl];exact hs ad e)
theorem Ints.kept {w w':World}{A:Option Addr}{zs:List Int}{S:Nat→Prop}(h:Ints w A zs)(hk:Kept S w w')(hs:∀ ad,A=some ad→¬ S ad.block):Ints w' A zs:=by
 refine⟨⟨h.1.1,fun hn=>?_⟩,h.2⟩;obtain⟨ad,e,hb,hc⟩:=h.1.2 hn;refine⟨ad,e,Nat.lt_of_lt_of_le hb hk.below.size,fun j u hj=>?_⟩;have hbl:(ad.add j).block=ad.block:=by unfold Addr.add;split <;> rfl
 rw[← hc j u hj];exact hk.cell (by rw[hbl];exact hb) (by rw[hbl];exact hs ad e)
abbrev OwnVA (w:World)(base:Nat)(v:Value)(hs:List Vh):Prop:=OwnV 30 3 w base v hs
abbrev OwnRA (w:World)(base:Nat)(v:Value)(hs:List Rh):Prop:=OwnR0 48 w base v hs
def parC (s:PSt)(hv vv rv:Value)(M:Nat):Array Value:=#[.int .i64 s.t.st,.int .i64 s.t.sym,hv,vv,rv,.map (some M),.int .i64 (s.head:Int)]
structure PrM (O:Blks)(base gp M:Nat)(hA:Option Addr)(hc:Nat)(vv rv:Value)(vs:List Vh)(rs:List Rh)(D:DataW Unit)(s:PSt)(w:World):Prop where
 blk:Blk w gp 66 (parC s (.slice hA s.t.hood.length hc) vv rv M)
 hood:Pts w hA s.t.hood
 vars:OwnVA w base vv vs
 rows:OwnRA w base rv rs
 rins:∀ x ∈ rs,Ints w x.A x.zs
 map:MapA w M s.names.length D
 known:KnownW D s.names
 evs:vs.map Vh.zs=s.t.vars
 ers:rs.map Rh.rw_=s.t.rows
 nms:s.names.length=s.t.vars.length
 og:O gp
 om:O M
 oh:∀ ad,hA=some ad→O ad.block
 ov:∀ g,vv.ownBlock=some g→O g
 ovs:∀ x ∈ vs,∀ g,x.val.ownBlock=some g→O g
 orv:∀ g,rv.ownBlock=some g→O g
 ors:∀ x ∈ rs,∀ ad,x.A=some ad→O ad.block
 hx:∀ x ∈ rs,∀ ad,x.A=some ad→ad.block≠gp∧ad.block≠M∧vv.ownBlock≠some ad.block∧rv.ownBlock≠some ad.block
 hg:∀ ad,hA=some ad→ad.block≠gp∧ad.block≠M∧vv.ownBlock≠some ad.block∧rv.ownBlock≠some ad.block
 inO:InO O w
section
variable {O O' : Blks} {base gp M : Nat} {hA : Option Addr} {hc : Nat} {vv rv : Value} {vs : List Vh} {rs : List Rh} {D : DataW Unit} {s : PSt} {w w' : World}
theorem PrM.kept (h:PrM O base gp M hA hc vv rv vs rs D s w)(hk:Kept (fun k=>¬ O k) w w'):PrM O base gp M hA hc vv rv vs rs D s w':=
 ⟨hk.blk h.blk (fun k=>k h.og),h.hood.kept hk (fun ad e k=>k (h.oh ad e)),h.vars.kept hk (fun g e k=>k (h.ov g e)) (fun x hx g e k=>k (h.ovs x hx g e)),hk.own h.rows (fun g e k=>k (h.orv g e)),fun x hx=>(h.rins x hx).kept hk (fun ad e k=>k (h.ors x hx ad e)),hk.map h.map (fun k=>k h.om),
  h.known,h.evs,h.ers,h.nms,h.og,h.om,h.oh,h.ov,h.ovs,h.orv,h.ors,h.hx,h.hg,fun k hk2=>Nat.lt_of_lt_of_le (h.inO k hk2) hk.below.size⟩
theorem PrM.ext (h:PrM O base gp M hA hc vv rv vs rs D s w)(hb:Below w.heap.size w w'):PrM O base gp M hA hc vv rv vs rs D s w':=h.kept (Kept.of_new _ hb)
theorem PrM.wide (h:PrM O base gp M hA hc vv rv vs rs D s w)(ho:∀ k,O k→O' k)(hi:InO O' w):PrM O' base gp M hA hc vv rv vs rs D s w:=
 ⟨h.blk,h.hood,h.vars,h.rows,h.rins,h.map,h.known,h.evs,h.ers,h.nms,ho _ h.og,ho _ h.om,fun ad e=>ho _ (h.oh ad e),fun g e=>ho _ (h.ov g e),fun x hx g e=>ho _ (h.ovs x hx g e),fun g e=>ho _ (h.orv g e),fun x hx ad e=>ho _ (h.ors x hx ad e),h.hx,h.hg,hi⟩
theorem PrM.look (h:PrM O base gp M hA hc vv rv vs rs D s w)(b:ByteArray)(hb:b.size≤2147483648) :
  ∃ v:Int,(∀ n,(Instr.lookup 64 (.map (some M)) (.string b) true).run Tryz.prog (w.drewN n)=.ok (.tuple #[.int .i64 v,.bool (placeW b.data.toList 0 s.names).isSome]) (w.drewN n))∧∀ i,placeW b.data.toList 0 s.names=some i→v=(i:Int):=by
 have hl:b.size≤maxLen:=by unfold maxLen;omega
 have hk:keyOf Tryz.prog 9 (.string b)=some (.string b.data.toList):=WideMaps.keyOf_string_mk (s:=b) Tryz.underlying9 hl;obtain⟨k1,k2⟩:=h.known.2 b.data.toList;have key:∀ n,∃ x:Int,(Instr.lookup 64 (.map (some M)) (.string b) true).run Tryz.prog (w.drewN n)=.ok (.tuple #[.int .i64 x,.bool (placeW b.data.toList 0 s.names).isSome]) (w.drewN n)∧D.atKey (.string b.data.toList) (.lit (.int .i64 0))=.lit (.int .i64 x):=fun n=>by
  have hm:MapA (w.drewN n) M s.names.length D:=h.map;obtain⟨v,ps,hrun,hat⟩:=hm.look_ok Tryz.law Tryz.underlying64 (Tryz.zeroInt _) (plainElem_int Tryz.underlying3 (by decide)) hk;obtain⟨x,rfl,hx,-⟩:=plainElem_int_inv Tryz.underlying3 hat;rw[k1] at hrun;exact⟨x,hrun,congrArg Prod.fst hx⟩
 obtain⟨v,-,hv⟩:=key 0;refine⟨v,fun n=>?_,fun i hi=>?_⟩
 ·obtain⟨x,hx,hx2⟩:=key n;rw[hv] at hx2;injection hx2 with hx2
  injection hx2 with _ hx2
  rw[hx,hx2]
 ·rw[k2 i hi] at hv;injection hv with hv
  injection hv with _ hv
  exact hv.symm
theorem PrM.box (h:PrM O base gp M hA hc vv rv vs rs D s w){s':PSt}{hA':Option Addr}{hc':Nat}{k:Nat}{u:Value}(hs:(parC s (.slice hA s.t.hood.length hc) vv rv M).setIfInBounds k u=parC s' (.slice hA' s'.t.hood.length hc') vv rv M)
  (e1:s'.t.vars=s.t.vars) (e2:s'.t.rows=s.t.rows) (e3:s'.names=s.names) (hh:Pts w hA' s'.t.hood) (oh:∀ ad,hA'=some ad→O ad.block) (hg:∀ ad,hA'=some ad→ad.block≠gp∧ad.block≠M∧vv.ownBlock≠some ad.block∧rv.ownBlock≠some ad.block) :
  PrM O base gp M hA' hc' vv rv vs rs D s' (w.setCell ⟨gp,k,none⟩ u):=by
 have hk:Kept (fun g=>g=gp) w (w.setCell ⟨gp,k,none⟩ u):=(Kept.refl (fun g=>g=gp) w).setCell (p:=⟨gp,k,none⟩) (Or.inl rfl) u;refine⟨by have:=h.blk.set_ k u;rw[hs] at this;exact this,hh.kept hk (fun ad e=>(hg ad e).1),h.vars.kept hk (fun g e1 e2=>by subst e2;exact own_blk_ne' h.vars.1 h.blk (by decide) e1) (fun x hx g e1 e2=>by subst e2;exact own_blk_ne' (h.vars.2 x hx) h.blk (by decide) e1),
  hk.own h.rows (fun g e1 e2=>by subst e2;exact own_blk_ne' h.rows h.blk (by decide) e1),fun x hx=>(h.rins x hx).kept hk (fun ad e=>(h.hx x hx ad e).1),by rw[e3];exact hk.map h.map (fun e=>blk_map_ne h.blk h.map e.symm),
  by rw[e3];exact h.known,by rw[e1];exact h.evs,by rw[e2];exact h.ers,by rw[e3,e1];exact h.nms,h.og,h.om,oh,h.ov,h.ovs,h.orv,h.ors,h.hx,hg,fun k hk2=>Nat.lt_of_lt_of_le (h.inO k hk2) hk.below.size⟩
theorem PrM.mapped (h:PrM O base gp M hA hc vv rv vs rs D s w){w8:World}(hg:w.grownBy w8 (some M)):Kept (fun g=>g=M) w w8∧Blk w8 gp 66 (parC s (.slice hA s.t.hood.length hc) vv rv M)∧Pts w8 hA s.t.hood∧OwnVA w8 base vv vs∧OwnRA w8 base rv rs∧∀ x ∈ rs,Ints w8 x.A x.zs:=by
 have k8:Kept (fun g=>g=M) w w8:=(Kept.refl _ w).grown hg fun g e=>by injection e with e;exact .inl e.symm
 exact⟨k8,k8.blk h.blk (fun e=>blk_map_ne h.blk h.map e),h.hood.kept k8 (fun ad e=>(h.hg ad e).2.1),h.vars.kept k8 (fun g e1 e2=>by subst e2;exact own_map_ne h.vars.1 h.map e1) (fun x hx g e1 e2=>by subst e2;exact own_map_ne (h.vars.2 x hx) h.map e1),
  k8.own h.rows (fun g e1 e2=>by subst e2;exact own_map_ne h.rows h.map e1),fun x hx=>(h.rins x hx).kept k8 (fun ad e=>(h.hx x hx ad e).2.1)⟩
theorem PrM.pushVar (h:PrM O base gp M hA hc vv rv vs rs D s w){w8 w9:World}(hg:w.grownBy w8 (some M)){D':DataW Unit}{nm:Wd}(hM:MapA w8 M (s.names.length+1) D')(hkn:KnownW D' (s.names ++ [nm])){x:Vh}{vv':Value}
  (hN:OwnVA w9 base vv' (vs ++ [x])) (hk:Kept (fun g=>vv.ownBlock=some g) w8 w9) (hm:vv'.ownBlock=vv.ownBlock∨∃ g,vv'.ownBlock=some g∧w8.heap.size≤g) (ho:∀ k,O k→O' k) (hx:∀ g,x.val.ownBlock=some g→O' g) (hnew:∀ g,w.heap.size≤g→g < w9.heap.size→O' g) (hin:InO O' w9) :
  PrM O' base gp M hA hc vv' rv (vs ++ [x]) rs D' ⟨s.head,⟨s.t.st,s.t.sym,s.t.hood,s.t.vars ++ [x.zs],s.t.rows⟩,s.names ++ [nm]⟩ (w9.setCell ⟨gp,3,none⟩ vv')∧Kept O w (w9.setCell ⟨gp,3,none⟩ vv')∧Blk w9 gp 66 (parC s (.slice hA s.t.hood.length hc) vv rv M):=by
 obtain⟨k8,b8,p8,v8,r8,i8⟩:=h.mapped hg;have b9:=hk.blk b8 (own_blk_ne' v8.1 b8 (by decide));have m9:=hk.map hM (own_map_ne v8.1 hM);have p9:=p8.kept hk (fun ad e=>(h.hg ad e).2.2.1);have r9:OwnRA w9 base rv rs:=hk.own r8 (fun g e1 e2=>own_ne r8 v8.1 (by decide) e1 e2);have i9:∀ x ∈ rs,Ints w9 x.A x.zs:=fun x hx=>(i8 x hx).kept hk (fun ad e=>(h.hx x hx ad e).2.2.1);have k7:Kept (fun g=>g=gp) w9 (w9.setCell ⟨gp,3,none⟩ vv'):=(Kept.refl (fun g=>g=gp) w9).setCell (p:=⟨gp,3,none⟩) (Or.inl rfl) vv';have hs8:=k8.below.size;have hs9:=hk.below.size;have hvo:∀ g,vv'.ownBlock=some g→O' g:=fun g e=>by
  rcases hm with hm | ⟨g',e',hg'⟩
  ·exact ho _ (h.ov g (by rw[← hm];exact e))
  ·rw[e'] at e;injection e with e
   subst e;exact hnew _ (by omega) (own_lt' hN.1 e').1
 have hxn:∀ x ∈ rs,∀ ad,x.A=some ad→vv'.ownBlock≠some ad.block:=fun x hx ad e e2=>by
  rcases hm with hm | ⟨g',e',hg'⟩
  ·exact (h.hx x hx ad e).2.2.1 (by rw[← hm];exact e2)
  ·rw[e'] at e2;injection e2 with e2
   have:=h.inO _ (h.ors x hx ad e);omega
 have hpn:∀ ad,hA=some ad→vv'.ownBlock≠some ad.block:=fun ad e e2=>by
  rcases hm with hm | ⟨g',e',hg'⟩
  ·exact (h.hg ad e).2.2.1 (by rw[← hm];exact e2)
  ·rw[e'] at e2;injection e2 with e2
   have:=h.inO _ (h.oh ad e);omega
 refine⟨⟨by have:=b9.set_ 3 vv';exact this,p9.kept k7 (fun ad e=>(h.hg ad e).1),hN.kept k7 (fun g e1 e2=>by subst e2;exact own_blk_ne' hN.1 b9 (by decide) e1) (fun x hx g e1 e2=>by subst e2;exact own_blk_ne' (hN.2 x hx) b9 (by decide) e1),
  k7.own r9 (fun g e1 e2=>by subst e2;exact own_blk_ne' r9 b9 (by decide) e1),fun x hx=>(i9 x hx).kept k7 (fun ad e=>(h.hx x hx ad e).1),?_,hkn,?_,h.ers,?_,ho _ h.og,ho _ h.om,fun ad e=>ho _ (h.oh ad e),hvo,?_,fun g e=>ho _ (h.orv g e),fun x hx ad e=>ho _ (h.ors x hx ad e),fun x hx ad e=>⟨(h.hx x hx ad e).1,(h.hx x hx ad e).2.1,hxn x hx ad e,(h.hx x hx ad e).2.2.2⟩,fun ad e=>⟨(h.hg ad e).1,(h.hg ad e).2.1,hpn ad e,(h.hg ad e).2.2.2⟩,fun k hk2=>Nat.lt_of_lt_of_le (hin k hk2) k7.below.size⟩,?_,b9⟩
 ·rw[List.length_append];exact k7.map m9 (fun e=>blk_map_ne b9 m9 e.symm)
 ·rw[List.map_append,h.evs];rfl
 ·rw[List.length_append,List.length_append,h.nms];rfl
 ·intro y hy g e;rcases List.mem_append.1 hy with hy | hy
  ·exact ho _ (h.ovs y hy g e)
  ·rw[List.mem_singleton.1 hy] at e;exact hx g e
 ·exact ((k8.mono fun g _ e=>by rw[e];exact h.om).trans (hk.mono fun g _ e=>h.ov g e)).setCell (p:=⟨gp,3,none⟩) (.inl h.og) vv'
theorem PrM.pushRow (h:PrM O base gp M hA hc vv rv vs rs D s w){w9:World}{x:Rh}{rv':Value}
  (hN:OwnRA w9 base rv' (rs ++ [x])) (hk:Kept (fun g=>rv.ownBlock=some g) w w9) (hm:rv'.ownBlock=rv.ownBlock∨∃ g,rv'.ownBlock=some g∧w.heap.size≤g) (ho:∀ k,O k→O' k) (hxI:Ints w9 x.A x.zs) (hxO:∀ ad,x.A=some ad→O' ad.block)
  (hxd:∀ ad,x.A=some ad→ad.block < w.heap.size∧ad.block≠gp∧ad.block≠M∧vv.ownBlock≠some ad.block∧rv.ownBlock≠some ad.block) (hnew:∀ g,w.heap.size≤g→g < w9.heap.size→O' g) (hin:InO O' w9) :
  PrM O' base gp M hA hc vv rv' vs (rs ++ [x]) D ⟨s.head,⟨s.t.st,s.t.sym,s.t.hood,s.t.vars,s.t.rows ++ [x.rw_]⟩,s.names⟩ (w9.setCell ⟨gp,4,none⟩ rv')∧Kept O w (w9.setCell ⟨gp,4,none⟩ rv')∧Blk w9 gp 66 (parC s (.slice hA s.t.hood.length hc) vv rv M):=by
 have b9:=hk.blk h.blk (own_blk_ne' h.rows h.blk (by decide));have m9:=hk.map h.map (own_map_ne h.rows h.map);have p9:=h.hood.kept hk (fun ad e=>(h.hg ad e).2.2.2);have v9:=h.vars.kept hk (fun g e1 e2=>own_ne h.vars.1 h.rows (by decide) e1 e2) (fun x hx g e1 e2=>own_ne (h.vars.2 x hx) h.rows (by decide) e1 e2);have i9:∀ x ∈ rs,Ints w9 x.A x.zs:=fun x hx=>(h.rins x hx).kept hk (fun ad e=>(h.hx x hx ad e).2.2.2);have k7:Kept (fun g=>g=gp) w9 (w9.setCell ⟨gp,4,none⟩ rv'):=(Kept.refl (fun g=>g=gp) w9).setCell (p:=⟨gp,4,none⟩) (Or.inl rfl) rv';have hs9:=hk.below.size;have hvo:∀ g,rv'.ownBlock=some g→O' g:=fun g e=>by
  rcases hm with hm | ⟨g',e',hg'⟩
  ·exact ho _ (h.orv g (by rw[← hm];exact e))
  ·rw[e'] at e;injection e with e
   subst e;exact hnew _ (by omega) (own_lt' hN e').1
 have far:∀ k,k < w.heap.size→rv.ownBlock≠some k→rv'.ownBlock≠some k:=fun k hk1 hk2 e2=>by
  rcases hm with hm | ⟨g',e',hg'⟩
  ·exact hk2 (by rw[← hm];exact e2)
  ·rw[e'] at e2;injection e2 with e2
   omega
 refine⟨⟨by have:=b9.set_ 4 rv';exact this,p9.kept k7 (fun ad e=>(h.hg ad e).1),v9.kept k7 (fun g e1 e2=>by subst e2;exact own_blk_ne' v9.1 b9 (by decide) e1) (fun x hx g e1 e2=>by subst e2;exact own_blk_ne' (v9.2 x hx) b9 (by decide) e1),
  k7.own hN (fun g e1 e2=>by subst e2;exact own_blk_ne' hN b9 (by decide) e1),?_,k7.map m9 (fun e=>blk_map_ne b9 m9 e.symm),h.known,h.evs,?_,h.nms,ho _ h.og,ho _ h.om,fun ad e=>ho _ (h.oh ad e),fun g e=>ho _ (h.ov g e),fun x hx g e=>ho _ (h.ovs x hx g e),hvo,?_,?_,fun ad e=>⟨(h.hg ad e).1,(h.hg ad e).2.1,(h.hg ad e).2.2.1,far _ (h.inO _ (h.oh ad e)) (h.hg ad e).2.2.2⟩,fun k hk2=>Nat.lt_of_lt_of_le (hin k hk2) k7.below.size⟩,?_,b9⟩
 ·intro y hy;rcases List.mem_append.1 hy with hy | hy
  ·exact (i9 y hy).kept k7 (fun ad e=>(h.hx y hy ad e).1)
  ·rw[List.mem_singleton.1 hy];exact hxI.kept k7 (fun ad e=>(hxd ad e).2.1)
 ·rw[List.map_append,h.ers];rfl
 ·intro y hy ad e;rcases List.mem_append.1 hy with hy | hy
  ·exact ho _ (h.ors y hy ad e)
  ·rw[List.mem_singleton.1 hy] at e;exact hxO ad e
 ·intro y hy ad e;rcases List.mem_append.1 hy with hy | hy
  ·exact⟨(h.hx y hy ad e).1,(h.hx y hy ad e).2.1,(h.hx y hy ad e).2.2.1,far _ (h.inO _ (h.ors y hy ad e)) (h.hx y hy ad e).2.2.2⟩
  ·rw[List.mem_singleton.1 hy] at e;exact⟨(hxd ad e).2.1,(hxd ad e).2.2.1,(hxd ad e).2.2.2.1,far _ (hxd ad e).1 (hxd ad e).2.2.2.2⟩
 ·exact (hk.mono fun g _ e=>h.orv g e).setCell (p:=⟨gp,4,none⟩) (.inl h.og) rv'
end
end Go.Proofs.YtcmbdhopmncmnaaGreatDoor
namespace Go.Proofs.YtcmbdhopmncmnaaGreatDoor
set_option linter.unusedVariables false
set_option maxRecDepth 100000
set_option linter.unusedSimpArgs false
def okW (w:Wd):Bool:=decide (w≠[]) && decide (w.length≤9) && !(decide (1 < w.length) && (w.headD 0 == 48))
theorem numW_bad {w:Wd}(h:okW w=false):numW w = -1:=by
 unfold numW;refine if_pos ?_;unfold okW at h;by_cases h0:w.length=0
 ·exact .inl h0
 ·by_cases h1:9 < w.length
  ·exact .inr (.inl h1)
  ·by_cases h2:1 < w.length∧w.headD 0=48
   ·exact .inr (.inr (.inl h2))
   ·exfalso;have a0:decide (w≠[])=true:=decide_eq_true (fun e=>h0 (by rw[e];rfl));have a1:decide (w.length≤9)=true:=decide_eq_true (by omega);have a2:(decide (1 < w.length) && (w.headD 0 == 48))=false:=by
     by_cases h3:1 < w.length
     ·rw[decide_eq_true h3,Bool.true_and,beq_eq_false_iff_ne];exact fun e=>h2 ⟨h3,e⟩
     ·rw[decide_eq_false h3,Bool.false_and]
    rw[a0,a1,a2] at h;cases h
theorem numW_not {w:Wd}{k:Nat}(hk:k < w.length)(h:dig11 w[k]=false):numW w = -1:=by
 unfold numW;refine if_pos (.inr (.inr (.inr ?_)));cases ha:w.all dig11 with
 | false=>rfl
 | true=>
  rw[List.all_eq_true.1 ha _ (List.getElem_mem hk)] at h;cases h
theorem numW_ok {w:Wd}(h:okW w=true)(hd:∀ c ∈ w,dig11 c=true):numW w=val11 w:=by
 unfold okW at h;simp only[Bool.and_eq_true,decide_eq_true_eq,Bool.not_eq_true',Bool.and_eq_false_iff,decide_eq_false_iff_not,beq_eq_false_iff_ne] at h;unfold numW;rw[if_neg];rintro (h1 | h1 | h1 | h1)
 ·exact h.1.1 (List.eq_nil_of_length_eq_zero h1)
 ·have:=h.1.2;omega
 ·rcases h.2 with h2 | h2
  ·exact h2 h1.1
  ·exact h2 h1.2
 ·rw[List.all_eq_true.2 hd] at h1;cases h1
theorem okW_nil:okW []=false:=rfl
theorem okW_long {w:Wd}(h:9 < w.length):okW w=false:=by
 unfold okW;rw[decide_eq_false (show ¬ (w.length≤9) by omega),Bool.and_false,Bool.false_and]
theorem okW_zero {w:Wd}(h:1 < w.length)(h2:w.headD 0=48):okW w=false:=by
 unfold okW;rw[decide_eq_true h,h2]
 simp
theorem okW_yes {w:Wd}(h0:0 < w.length)(h1:w.length≤9)(h2:¬ (1 < w.length∧w.headD 0=48)):okW w=true:=by
 unfold okW;have a0:decide (w≠[])=true:=decide_eq_true (fun e=>by rw[e] at h0;simp at h0);have a2:(decide (1 < w.length) && (w.headD 0 == 48))=false:=by
  by_cases h3:1 < w.length
  ·rw[decide_eq_true h3,Bool.true_and,beq_eq_false_iff_ne];exact fun e=>h2 ⟨h3,e⟩
  ·rw[decide_eq_false h3,Bool.false_and]
 rw[a0,a2,decide_eq_true h1];rfl
theorem val11_bd {w:Wd}(h:∀ c ∈ w,dig11 c=true):0≤val11 w∧val11 w < 10 ^ w.length:=by
 have key:∀ (l:List UInt8) (hl:∀ c ∈ l,dig11 c=true),0≤val11 l.reverse∧val11 l.reverse < 10 ^ l.length:=by
  intro l;induction l with
  | nil=>intro _;exact⟨by decide,by decide⟩
  | cons c l ih=>
   intro hl;obtain⟨h1,h2⟩:=ih (fun x hx=>hl x (by simp[hx]));have hc:=hl c (by simp);unfold dig11 at hc;rw[Bool.and_eq_true,decide_eq_true_eq,decide_eq_true_eq] at hc;rw[List.reverse_cons,val11_snoc,List.length_cons,Int.pow_succ];omega
 have:=key w.reverse (fun c hc=>h c (List.mem_reverse.1 hc));rw[List.reverse_reverse,List.length_reverse] at this;exact this
theorem val11_bd9 {w:Wd}(h:∀ c ∈ w,dig11 c=true)(hl:w.length≤9):0≤val11 w∧val11 w≤999999999:=by
 obtain⟨h1,h2⟩:=val11_bd h;have h3:(10:Int) ^ w.length≤10 ^ 9:=by
  have:(10:Nat) ^ w.length≤10 ^ 9:=Nat.pow_le_pow_right (by decide) hl;exact_mod_cast this
 have h4:(10:Int) ^ 9=1000000000:=by decide
 omega
theorem take_dig {w:Wd}{k:Nat}(hk:k < w.length)(h:∀ c ∈ w.take k,dig11 c=true)(hd:dig11 w[k]=true):∀ c ∈ w.take (k+1),dig11 c=true:=fun c hc=>by
 rw[List.take_succ_eq_append_getElem hk,List.mem_append,List.mem_singleton] at hc;rcases hc with hc | rfl
 ·exact h c hc
 ·exact hd
theorem val11_take {w:Wd}{k:Nat}(hk:k < w.length):val11 (w.take (k+1))=10*val11 (w.take k)+((w[k].toNat:Int) - 48):=by
 rw[List.take_succ_eq_append_getElem hk,val11_snoc]
theorem headD_get11 {l:List UInt8}(h:0 < l.length):l.headD 0=l[0]:=by
 cases l with
 | nil=>simp at h
 | cons a l=>rfl
def okNm (w:Wd):Bool:=decide (1≤w.length) && decide (w.length≤20) && decide (w≠varW) && !dig11 (w.headD 0)
def anB (c:UInt8):Bool:=alpha11 c || dig11 c
theorem nameW_eq (w:Wd):nameW w=(okNm w && w.all anB):=rfl
theorem nameW_no {w:Wd}(h:okNm w=false):nameW w=false:=by rw[nameW_eq,h];rfl
theorem nameW_bad {w:Wd}{k:Nat}(hk:k < w.length)(h:anB w[k]=false):nameW w=false:=by
 rw[nameW_eq];have:w.all anB=false:=by
  cases ha:w.all anB with
  | false=>rfl
  | true=>
   rw[List.all_eq_true.1 ha _ (List.getElem_mem hk)] at h;cases h
 rw[this,Bool.and_false]
theorem nameW_ok {w:Wd}(h:okNm w=true)(ha:(w.take w.length).all anB=true):nameW w=true:=by
 rw[List.take_length] at ha;rw[nameW_eq,h,ha];rfl
theorem an_take {w:Wd}{k:Nat}(hk:k < w.length)(h:(w.take k).all anB=true)(hb:anB w[k]=true):(w.take (k+1)).all anB=true:=by
 rw[List.take_succ_eq_append_getElem hk,List.all_append,h];simp[hb]
def lowB (b:Nat):Nat:=b ||| 32
theorem lowB_alpha:∀ b:Fin 256,(decide (97≤lowB b.1) && decide (lowB b.1≤122))=((decide (97≤b.1) && decide (b.1≤122)) || (decide (65≤b.1) && decide (b.1≤90))):=by decide
theorem alpha_low (b:UInt8):alpha11 b=(decide (97≤lowB b.toNat) && decide (lowB b.toNat≤122)):=(lowB_alpha ⟨b.toNat,b.toNat_lt⟩).symm
end Go.Proofs.YtcmbdhopmncmnaaGreatDoor
