/-
  texts Dfs Key Nd: parts of the proof; conditions stand with each theorem.
-/
import Derived.Lib.Hide
import Derived.Lib.ItoaNum
import Derived.Test.YtlegfdllipkggaaGreatDoorWG0
import Derived.Test.YtlegfdllipkggaaGreatDoorProg
import Derived.Maps.OwnSet
import Derived.Maps.Keyed
import Derived.Maps.AppendAt
import Derived.Laws.IdiomStrings
import Derived.Lib.AppendIntMem
namespace Go.Proofs.YtlegfdllipkggaaGreatDoor
set_option linter.unusedSimpArgs false
set_option linter.unusedVariables false

abbrev Nd:=Int × List Int
def ndAt (ns:List Nd)(i:Nat):Nd:=ns.getD i (0,[])
def val (ns:List Nd)(k:Int):List Nat→Int
 | []=>k
 | s :: r=>val ns ((ndAt ns k.toNat).2.getD s 0) r
structure Lev (q:Nat)(ns:List Nd)(P:Nat→Prop):Prop where
 lt:∀ i,P i→i < ns.length
 len:∀ i,P i→(ndAt ns i).2.length=q
 one:∀ i,P i→1≤(ndAt ns i).1
 kids:∀ i,P i→1 < (ndAt ns i).1→∀ k ∈ (ndAt ns i).2,0≤k∧P k.toNat∧(ndAt ns k.toNat).1=(ndAt ns i).1 - 1
def Dis (ns:List Nd)(P:Nat→Prop):Prop:=∀ i j,P i→P j→ndAt ns i=ndAt ns j→i=j
def Eqv (q:Nat)(A:List Nd)(a:Nat)(B:List Nd)(b:Nat):Prop:=
 (ndAt A a).1=(ndAt B b).1∧∀ ins:List Nat,(ins.length:Int)=(ndAt A a).1→(∀ s ∈ ins,s < q)→val A (a:Int) ins=val B (b:Int) ins
section
variable {q : Nat} {A B C : List Nd} {a b c : Nat}
theorem Eqv.symm (h:Eqv q A a B b):Eqv q B b A a:=⟨h.1.symm,fun ins hl hs=>(h.2 ins (by rw[hl,h.1]) hs).symm⟩
theorem Eqv.trans (h:Eqv q A a B b)(k:Eqv q B b C c):Eqv q A a C c:=⟨h.1.trans k.1,fun ins hl hs=>(h.2 ins hl hs).trans (k.2 ins (by rw[hl,h.1]) hs)⟩
theorem toNat_cast {k:Int}(h:0≤k):((k.toNat:Nat):Int)=k:=Int.toNat_of_nonneg h
theorem Eqv.kid {P Q:Nat→Prop}(hA:Lev q A P)(hB:Lev q B Q)(ha:P a)(hb:Q b)(h:Eqv q A a B b)(hl:1 < (ndAt A a).1)(s:Nat)(hs:s < q) :
  Eqv q A ((ndAt A a).2.getD s 0).toNat B ((ndAt B b).2.getD s 0).toNat:=by
 have la:=hA.len a ha;have lb:=hB.len b hb;have e1:(ndAt A a).2.getD s 0 ∈ (ndAt A a).2:=by rw[List.getD_eq_getElem?_getD,List.getElem?_eq_getElem (by omega)];exact List.getElem_mem _
 have e2:(ndAt B b).2.getD s 0 ∈ (ndAt B b).2:=by rw[List.getD_eq_getElem?_getD,List.getElem?_eq_getElem (by omega)];exact List.getElem_mem _
 obtain⟨p1,p2,p3⟩:=hA.kids a ha hl _ e1;obtain⟨r1,r2,r3⟩:=hB.kids b hb (by rw[← h.1];exact hl) _ e2;refine⟨by rw[p3,r3,h.1],fun ins hi hq=>?_⟩;have:=h.2 (s :: ins) (by rw[List.length_cons];rw[p3] at hi;omega) (by intro t ht;rcases List.mem_cons.1 ht with rfl | ht;exact hs;exact hq t ht);simp only[val,Int.toNat_natCast] at this;rw[toNat_cast p1,toNat_cast r1];exact this
theorem Eqv.uniq {P:Nat→Prop}(hA:Lev q A P)(hd:Dis A P):∀ (n:Nat)(a b:Nat),(ndAt A a).1≤n→P a→P b→Eqv q A a A b→a=b
 | 0,a,b,hn,ha,hb,h=>by have:=hA.one a ha;omega
 | n+1,a,b,hn,ha,hb,h=>by
  refine hd a b ha hb (Prod.ext h.1 ?_);have la:=hA.len a ha;have lb:=hA.len b hb;refine List.ext_getElem (by rw[la,lb]) fun s h1 h2=>?_;have hs:s < q:=by omega
  have g1:(ndAt A a).2.getD s 0=(ndAt A a).2[s]:=by rw[List.getD_eq_getElem?_getD,List.getElem?_eq_getElem h1];rfl
  have g2:(ndAt A b).2.getD s 0=(ndAt A b).2[s]:=by rw[List.getD_eq_getElem?_getD,List.getElem?_eq_getElem h2];rfl
  have ho:=hA.one a ha;rcases Int.lt_or_le 1 (ndAt A a).1 with hl | hl
  ·have hk:=Eqv.kid hA hA ha hb h hl s hs;rw[g1,g2] at hk;obtain⟨p1,p2,p3⟩:=hA.kids a ha hl _ (List.getElem_mem h1);obtain⟨r1,r2,r3⟩:=hA.kids b hb (by rw[← h.1];exact hl) _ (List.getElem_mem h2);have:=Eqv.uniq hA hd n _ _ (by rw[p3];omega) p2 r2 hk;omega
  ·have:=h.2 [s] (by simp;omega) (by simpa using hs);simp only[val,Int.toNat_natCast] at this;rw[g1,g2] at this;exact this
end

abbrev St:=List Int × List Nd
def dfs (ns:List Nd):Nat→Nat→St→St
 | 0,_,s=>s
 | f+1,k,s=>
  if 0 < s.1.getD k 0 then s else
  let x:=ndAt ns k
  let r:=if 1 < x.1 then x.2.foldl (fun (a:St × List Int) kd=>(dfs ns f kd.toNat a.1,a.2 ++ [(dfs ns f kd.toNat a.1).1.getD kd.toNat 0 - 1])) (s,[]) else (s,x.2)
  (r.1.1.set k (r.1.2.length+1:Nat),r.1.2 ++ [(x.1,r.2)])
def kidStep (ns:List Nd)(f:Nat)(a:St × List Int)(kd:Int):St × List Int:=(dfs ns f kd.toNat a.1,a.2 ++ [(dfs ns f kd.toNat a.1).1.getD kd.toNat 0 - 1])
theorem dfs_succ (ns:List Nd)(f k:Nat)(s:St):dfs ns (f+1) k s=if 0 < s.1.getD k 0 then s else
  let x:=ndAt ns k
  let r:=if 1 < x.1 then x.2.foldl (kidStep ns f) (s,[]) else (s,x.2)
  (r.1.1.set k (r.1.2.length+1:Nat),r.1.2 ++ [(x.1,r.2)]):=rfl

structure SRel (q:Nat)(A:List Nd)(P:Nat→Prop)(B:List Nd)(Q:Nat→Prop)(s t:St):Prop where
 out:s.2=t.2
 lenA:s.1.length=A.length
 lenB:t.1.length=B.length
 num:∀ a b,P a→Q b→Eqv q A a B b→s.1.getD a 0=t.1.getD b 0
theorem getD_set {l:List Int}{i j:Nat}{v:Int}(hi:i < l.length):(l.set i v).getD j 0=if j=i then v else l.getD j 0:=by
 by_cases h:j=i
 ·subst h;simp[List.getD_eq_getElem?_getD,hi]
 ·rw[if_neg h,List.getD_eq_getElem?_getD,List.getD_eq_getElem?_getD,List.getElem?_set_ne (by omega)]
theorem dfs_rel {q:Nat}{A B:List Nd}{P Q:Nat→Prop}(hA:Lev q A P)(hB:Lev q B Q)(dA:Dis A P)(dB:Dis B Q) :
  ∀ (f g:Nat) (a b:Nat) (s t:St),(ndAt A a).1≤f→(ndAt A a).1≤g→P a→Q b→Eqv q A a B b→SRel q A P B Q s t→SRel q A P B Q (dfs A f a s) (dfs B g b t)
 | 0,g,a,b,s,t,h1,h2,ha,hb,h,hr=>by have:=hA.one a ha;omega
 | f+1,0,a,b,s,t,h1,h2,ha,hb,h,hr=>by have:=hA.one a ha;omega
 | f+1,g+1,a,b,s,t,h1,h2,ha,hb,h,hr=>by
  rw[dfs_succ,dfs_succ];have hn:=hr.num a b ha hb h;by_cases hd:0 < s.1.getD a 0
  ·rw[if_pos hd,if_pos (by rw[← hn];exact hd)];exact hr
  ·rw[if_neg hd,if_neg (by rw[← hn];exact hd)];have la:=hA.len a ha;have lb:=hB.len b hb;have key:∀ m,m≤q→1 < (ndAt A a).1→SRel q A P B Q (((ndAt A a).2.take m).foldl (kidStep A f) (s,[])).1 (((ndAt B b).2.take m).foldl (kidStep B g) (t,[])).1∧
     (((ndAt A a).2.take m).foldl (kidStep A f) (s,[])).2=(((ndAt B b).2.take m).foldl (kidStep B g) (t,[])).2:=by
    intro m;induction m with
    | zero=>intro _ _;exact⟨hr,rfl⟩
    | succ m ih=>
     intro hm hl;obtain⟨i1,i2⟩:=ih (by omega) hl;have g1:(ndAt A a).2.getD m 0=(ndAt A a).2[m]'(by omega):=by rw[List.getD_eq_getElem?_getD,List.getElem?_eq_getElem (by omega)];rfl
     have g2:(ndAt B b).2.getD m 0=(ndAt B b).2[m]'(by omega):=by rw[List.getD_eq_getElem?_getD,List.getElem?_eq_getElem (by omega)];rfl
     have hk:=Eqv.kid hA hB ha hb h hl m (by omega);rw[g1,g2] at hk;obtain⟨p1,p2,p3⟩:=hA.kids a ha hl _ (List.getElem_mem (by omega:m < (ndAt A a).2.length));obtain⟨r1,r2,r3⟩:=hB.kids b hb (by rw[← h.1];exact hl) _ (List.getElem_mem (by omega:m < (ndAt B b).2.length));rw[List.take_add_one,List.take_add_one,List.getElem?_eq_getElem (by omega:m < (ndAt A a).2.length),List.getElem?_eq_getElem (by omega:m < (ndAt B b).2.length)];simp only[Option.toList_some,List.foldl_append,List.foldl_cons,List.foldl_nil];have hx:=dfs_rel hA hB dA dB f g _ _ _ _ (by rw[p3];omega) (by rw[p3];omega) p2 r2 hk i1;refine⟨hx,?_⟩;simp only[kidStep];rw[i2,hx.num _ _ p2 r2 hk]
   have e0:(ndAt B b).1=(ndAt A a).1:=h.1.symm;have hq:SRel q A P B Q (if 1 < (ndAt A a).1 then (ndAt A a).2.foldl (kidStep A f) (s,[]) else (s,(ndAt A a).2)).1 (if 1 < (ndAt A a).1 then (ndAt B b).2.foldl (kidStep B g) (t,[]) else (t,(ndAt B b).2)).1∧
     (if 1 < (ndAt A a).1 then (ndAt A a).2.foldl (kidStep A f) (s,[]) else (s,(ndAt A a).2)).2=(if 1 < (ndAt A a).1 then (ndAt B b).2.foldl (kidStep B g) (t,[]) else (t,(ndAt B b).2)).2:=by
    by_cases hl:1 < (ndAt A a).1
    ·rw[if_pos hl,if_pos hl];have:=key q (Nat.le_refl _) hl;rw[List.take_of_length_le (by omega),List.take_of_length_le (by omega)] at this;exact this
    ·rw[if_neg hl,if_neg hl];refine⟨hr,List.ext_getElem (by show (ndAt A a).2.length=(ndAt B b).2.length;rw[la,lb]) fun s h1 h2=>?_⟩;dsimp only at h1 h2 ⊢;have g1:(ndAt A a).2.getD s 0=(ndAt A a).2[s]:=by rw[List.getD_eq_getElem?_getD,List.getElem?_eq_getElem h1];rfl
     have g2:(ndAt B b).2.getD s 0=(ndAt B b).2[s]:=by rw[List.getD_eq_getElem?_getD,List.getElem?_eq_getElem h2];rfl
     have ho:=hA.one a ha;have:=h.2 [s] (by simp;omega) (by simp;omega);simp only[val,Int.toNat_natCast] at this;rw[g1,g2] at this;exact this
   dsimp only;rw[e0];generalize (if 1 < (ndAt A a).1 then (ndAt A a).2.foldl (kidStep A f) (s,[]) else (s,(ndAt A a).2))=X at hq ⊢;generalize (if 1 < (ndAt A a).1 then (ndAt B b).2.foldl (kidStep B g) (t,[]) else (t,(ndAt B b).2))=Y at hq ⊢;obtain⟨q1,q2⟩:=hq;refine⟨by rw[q1.out,q2],(List.length_set ..).trans q1.lenA,(List.length_set ..).trans q1.lenB,fun a' b' ha' hb' h'=>?_⟩;rw[getD_set (by rw[q1.lenA];exact hA.lt a ha),getD_set (by rw[q1.lenB];exact hB.lt b hb),q1.out];by_cases e:a'=a
   ·subst e;have:b'=b:=Eqv.uniq hB dB (ndAt B b').1.toNat _ _ (by have:=hB.one b' hb';omega) hb' hb (h'.symm.trans h);rw[if_pos rfl,if_pos this]
   ·have:b'≠b:=by
     rintro rfl;exact e (Eqv.uniq hA dA (ndAt A a').1.toNat _ _ (by have:=hA.one a' ha';omega) ha' ha (h'.trans h.symm))
    rw[if_neg e,if_neg this];exact q1.num a' b' ha' hb' h'

def ord (ns:List Nd)(f root:Nat):List Nd:=(dfs ns f root (List.replicate ns.length 0,[])).2
theorem ord_eq {q:Nat}{A B:List Nd}{P Q:Nat→Prop}(hA:Lev q A P)(hB:Lev q B Q)(dA:Dis A P)(dB:Dis B Q){f g a b:Nat}(hf:(ndAt A a).1≤f)(hg:(ndAt A a).1≤g)(ha:P a)(hb:Q b)
  (h:Eqv q A a B b):ord A f a=ord B g b:=by
 show (dfs A f a (List.replicate A.length 0,[])).2=(dfs B g b (List.replicate B.length 0,[])).2;refine (dfs_rel hA hB dA dB f g a b (List.replicate A.length 0,[]) (List.replicate B.length 0,[]) hf hg ha hb h ⟨rfl,List.length_replicate,List.length_replicate,fun x y hx hy _=>?_⟩).out;simp[List.getD_eq_getElem?_getD,List.getElem?_replicate]
 split <;> split <;> rfl

section
variable {q : Nat} {A ns : List Nd} {P : Nat → Prop}
theorem ndAt_app_lt {i:Nat}(h:i < A.length)(ys:List Nd):ndAt (A ++ ys) i=ndAt A i:=by
 unfold ndAt;rw[List.getD_eq_getElem?_getD,List.getD_eq_getElem?_getD,List.getElem?_append_left h]
theorem ndAt_app_len (A:List Nd)(x:Nd):ndAt (A ++ [x]) A.length=x:=by
 unfold ndAt;rw[List.getD_eq_getElem?_getD];simp
theorem getD_mem {l:List Int}{s:Nat}(h:s < l.length):l.getD s 0 ∈ l:=by
 rw[List.getD_eq_getElem?_getD,List.getElem?_eq_getElem h];exact List.getElem_mem _
theorem Eqv.app (hA:Lev q A (· < A.length))(ys:List Nd):∀ (n a:Nat),(ndAt A a).1≤n→a < A.length→Eqv q (A ++ ys) a A a
 | 0,a,hn,ha=>by have:=hA.one a ha;omega
 | n+1,a,hn,ha=>by
  have e:=ndAt_app_lt ha ys;refine⟨by rw[e],fun ins hl hs=>?_⟩;rw[e] at hl;have h1:=hA.one a ha;cases ins with
  | nil=>simp at hl;omega
  | cons s r=>
   simp only[val,Int.toNat_natCast,e];have hq:s < q:=hs s (by simp);have hm:=getD_mem (l:=(ndAt A a).2) (s:=s) (by rw[hA.len a ha];exact hq);rcases Int.lt_or_le 1 (ndAt A a).1 with hl1 | hl1
   ·obtain⟨p1,p2,p3⟩:=hA.kids a ha hl1 _ hm;have:=(Eqv.app hA ys n _ (by rw[p3];omega) p2).2 r (by rw[ndAt_app_lt p2,p3];simp at hl;omega) (fun t ht=>hs t (by simp[ht]));rw[toNat_cast p1] at this;exact this
   ·have:r=[]:=by cases r with
     | nil=>rfl
     | cons _ _=>simp at hl;omega
    subst this;rfl
theorem Eqv.node {i j:Nat}(h:ndAt A i=ndAt A j)(h1:1≤(ndAt A i).1):Eqv q A i A j:=by
 refine⟨by rw[h],fun ins hl _=>?_⟩;cases ins with
 | nil=>simp at hl;omega
 | cons s r=>simp only[val,Int.toNat_natCast,h]

def cntP:List Int→Nat
 | []=>0
 | z :: r=>(if 0 < z then 1 else 0)+cntP r
theorem cntP_zero:∀ n,cntP (List.replicate n (0:Int))=0
 | 0=>rfl
 | n+1=>by rw[List.replicate_succ];simp[cntP,cntP_zero n]
theorem cntP_le:∀ l,cntP l≤l.length
 | []=>Nat.le_refl _
 | z :: r=>by
  have:=cntP_le r;simp only[cntP,List.length_cons]
  split <;> omega
theorem cntP_set:∀ (l:List Int)(k:Nat)(v:Int),k < l.length→¬ 0 < l.getD k 0→0 < v→cntP (l.set k v)=cntP l+1
 | [],k,v,hk,_,_=>by simp at hk
 | z :: r,0,v,_,h0,hv=>by
  simp at h0;simp only[List.set_cons_zero,cntP];rw[if_pos hv,if_neg (by omega)];omega
 | z :: r,k+1,v,hk,h0,hv=>by
  simp only[List.set_cons_succ,cntP];rw[cntP_set r k v (by simpa using hk) (by simpa using h0) hv];omega
structure Inv (q:Nat)(ns:List Nd)(P:Nat→Prop)(s:St):Prop where
 len:s.1.length=ns.length
 lev:Lev q s.2 (· < s.2.length)
 ordk:∀ i,i < s.2.length→1 < (ndAt s.2 i).1→∀ k ∈ (ndAt s.2 i).2,k < (i:Int)
 nn:∀ j,0≤s.1.getD j 0
 num:∀ j,P j→0 < s.1.getD j 0→(s.1.getD j 0 - 1).toNat < s.2.length∧Eqv q s.2 (s.1.getD j 0 - 1).toNat ns j
 all:∀ i,i < s.2.length→∃ j,P j∧s.1.getD j 0=(i:Int)+1
 cnt:s.2.length=cntP s.1
theorem Inv.start (q:Nat)(ns:List Nd)(P:Nat→Prop):Inv q ns P (List.replicate ns.length 0,[]):=by
 have hz:∀ j,(List.replicate ns.length (0:Int)).getD j 0=0:=by
  intro j;simp[List.getD_eq_getElem?_getD,List.getElem?_replicate];split <;> rfl
 refine⟨List.length_replicate,⟨fun i h=>h,fun i h=>absurd h (by simp),fun i h=>absurd h (by simp),fun i h=>absurd h (by simp)⟩,fun i h=>absurd h (by simp),fun j=>by rw[hz];omega,fun j _ h=>by rw[hz] at h;omega,fun i h=>absurd h (by simp),(cntP_zero _).symm⟩
theorem Inv.dis {s:St}(h:Inv q ns P s)(hA:Lev q ns P)(dA:Dis ns P):Dis s.2 (· < s.2.length):=by
 intro i i' hi hi' he;obtain⟨j,pj,ej⟩:=h.all i hi;obtain⟨j',pj',ej'⟩:=h.all i' hi';have n1:=(h.num j pj (by omega)).2;have n2:=(h.num j' pj' (by omega)).2;have t1:(s.1.getD j 0 - 1).toNat=i:=by omega
 have t2:(s.1.getD j' 0 - 1).toNat=i':=by omega
 rw[t1] at n1;rw[t2] at n2;have:=Eqv.uniq hA dA (ndAt ns j).1.toNat j j' (by have:=hA.one j pj;omega) pj pj' ((n1.symm.trans (Eqv.node he (h.lev.one i hi))).trans n2);subst this;omega
theorem Inv.push {s:St}(h:Inv q ns P s)(hA:Lev q ns P){k:Nat}(hk:P k)(h0:¬ 0 < s.1.getD k 0)(nx:List Int)(hlen:nx.length=q)
  (hnx:1 < (ndAt ns k).1→∀ m,m < q→nx.getD m 0=s.1.getD ((ndAt ns k).2.getD m 0).toNat 0 - 1∧0 < s.1.getD ((ndAt ns k).2.getD m 0).toNat 0)
  (hn1:¬ 1 < (ndAt ns k).1→nx=(ndAt ns k).2) :
  Inv q ns P (s.1.set k (s.2.length+1:Nat),s.2 ++ [((ndAt ns k).1,nx)]):=by
 have hkl:k < s.1.length:=by rw[h.len];exact hA.lt k hk
 have nn:=h.nn;have hge:∀ j,(s.1.set k (s.2.length+1:Nat)).getD j 0=if j=k then ((s.2.length+1:Nat):Int) else s.1.getD j 0:=fun j=>getD_set hkl
 have hlk:∀ (x:Nd),(s.2 ++ [x]).length=s.2.length+1:=fun x=>by simp
 have ho:=hA.one k hk
 -- a kid's place
 have hkid:∀ m,m < q→1 < (ndAt ns k).1→0≤nx.getD m 0∧(nx.getD m 0).toNat < s.2.length∧Eqv q s.2 (nx.getD m 0).toNat ns ((ndAt ns k).2.getD m 0).toNat∧(ndAt ns ((ndAt ns k).2.getD m 0).toNat).1=(ndAt ns k).1 - 1∧0≤(ndAt ns k).2.getD m 0:=by
  intro m hm hl;obtain⟨e1,e2⟩:=hnx hl m hm;obtain⟨p1,p2,p3⟩:=hA.kids k hk hl _ (getD_mem (l:=(ndAt ns k).2) (s:=m) (by rw[hA.len k hk];exact hm));obtain⟨n1,n2⟩:=h.num _ p2 e2;rw[← e1] at n1 n2;exact⟨by omega,n1,n2,p3,p1⟩
 have hmem:∀ z ∈ nx,∃ m,m < q∧z=nx.getD m 0:=by
  intro z hz;obtain⟨m,hm,e⟩:=List.getElem_of_mem hz;exact⟨m,by omega,by rw[List.getD_eq_getElem?_getD,List.getElem?_eq_getElem hm,← e];rfl⟩
 have lev':Lev q (s.2 ++ [((ndAt ns k).1,nx)]) (· < (s.2 ++ [((ndAt ns k).1,nx)]).length):=by
  refine⟨fun i hi=>hi,fun i hi=>?_,fun i hi=>?_,fun i hi hl z hz=>?_⟩
  ·rw[hlk] at hi;rcases Nat.lt_or_ge i s.2.length with h1 | h1
   ·rw[ndAt_app_lt h1];exact h.lev.len i h1
   ·have:i=s.2.length:=by omega
    rw[this,ndAt_app_len];exact hlen
  ·rw[hlk] at hi;rcases Nat.lt_or_ge i s.2.length with h1 | h1
   ·rw[ndAt_app_lt h1];exact h.lev.one i h1
   ·have:i=s.2.length:=by omega
    rw[this,ndAt_app_len];exact ho
  ·rw[hlk] at hi;rcases Nat.lt_or_ge i s.2.length with h1 | h1
   ·rw[ndAt_app_lt h1] at hl hz ⊢;obtain⟨p1,p2,p3⟩:=h.lev.kids i h1 hl z hz;exact⟨p1,by rw[hlk];omega,by rw[ndAt_app_lt p2];exact p3⟩
   ·have:i=s.2.length:=by omega
    rw[this,ndAt_app_len] at hl hz ⊢;obtain⟨m,hm,rfl⟩:=hmem z hz;obtain⟨k1,k2,k3,k4,_⟩:=hkid m hm hl;exact⟨k1,by rw[hlk];omega,by rw[ndAt_app_lt k2,k3.1];exact k4⟩
 refine⟨(List.length_set ..).trans h.len,lev',fun i hi hl z hz=>?_,fun j=>?_,fun j pj hj=>?_,fun i hi=>?_,?_⟩
 ·rw[hlk] at hi;rcases Nat.lt_or_ge i s.2.length with h1 | h1
  ·rw[ndAt_app_lt h1] at hl hz;exact h.ordk i h1 hl z hz
  ·have:i=s.2.length:=by omega
   rw[this,ndAt_app_len] at hl hz;obtain⟨m,hm,rfl⟩:=hmem z hz;obtain⟨k1,k2,_⟩:=hkid m hm hl;omega
 ·rw[hge];have:=h.nn j
  split <;> omega
 ·rw[hge] at hj ⊢;by_cases e:j=k
  ·subst e;rw[if_pos rfl];have e1:((((s.2.length+1:Nat):Int)) - 1).toNat=s.2.length:=by omega
   rw[e1];refine⟨by rw[hlk];omega,by rw[ndAt_app_len],fun ins hl hs=>?_⟩;rw[ndAt_app_len] at hl;cases ins with
   | nil=>simp at hl;omega
   | cons t r=>
    have ht:t < q:=hs t (by simp);simp only[val,Int.toNat_natCast,ndAt_app_len];rcases Int.lt_or_le 1 (ndAt ns j).1 with hl1 | hl1
    ·obtain⟨k1,k2,k3,k4,k5⟩:=hkid t ht hl1;have hr:(r.length:Int)=(ndAt ns j).1 - 1:=by simp at hl;omega
     have a1:=(Eqv.app h.lev [((ndAt ns j).1,nx)] (ndAt s.2 (nx.getD t 0).toNat).1.toNat _ (by have:=h.lev.one _ k2;omega) k2).2 r (by rw[ndAt_app_lt k2,k3.1,k4];exact hr) (fun u hu=>hs u (by simp[hu]));have a2:=k3.2 r (by rw[k3.1,k4];exact hr) (fun u hu=>hs u (by simp[hu]));rw[toNat_cast k1] at a1 a2;rw[toNat_cast k5] at a2;rw[a1,a2]
    ·have:r=[]:=by cases r with
      | nil=>rfl
      | cons _ _=>simp at hl;omega
     subst this;rw[hn1 (by omega)];rfl
  ·rw[if_neg e] at hj ⊢;obtain⟨n1,n2⟩:=h.num j pj hj;exact⟨by rw[hlk];omega,(Eqv.app h.lev _ (ndAt s.2 (s.1.getD j 0 - 1).toNat).1.toNat _ (by have:=h.lev.one _ n1;omega) n1).trans n2⟩
 ·rw[hlk] at hi;rcases Nat.lt_or_ge i s.2.length with h1 | h1
  ·obtain⟨j,pj,ej⟩:=h.all i h1;exact⟨j,pj,by rw[hge,if_neg (by rintro rfl;omega)];exact ej⟩
  ·exact⟨k,hk,by rw[hge,if_pos rfl];omega⟩
 ·rw[hlk];show s.2.length+1=cntP (s.1.set k _);rw[cntP_set _ _ _ hkl h0 (by omega),h.cnt]
theorem Inv.le {s:St}(h:Inv q ns P s):s.2.length≤ns.length:=by rw[h.cnt,← h.len];exact cntP_le _
structure Gro (s t:St):Prop where
 num:∀ j,0 < s.1.getD j 0→t.1.getD j 0=s.1.getD j 0
 out:∃ ys,t.2=s.2 ++ ys
theorem Gro.rfl' (s:St):Gro s s:=⟨fun _ _=>rfl,[],by simp⟩
theorem Gro.trans {s t u:St}(h:Gro s t)(k:Gro t u):Gro s u:=by
 obtain⟨a,ea⟩:=h.out;obtain⟨b,eb⟩:=k.out;exact⟨fun j hj=>(k.num j (by rw[h.num j hj];exact hj)).trans (h.num j hj),a ++ b,by rw[eb,ea,List.append_assoc]⟩
def kidsOf (ns:List Nd)(f k:Nat)(s:St):St × List Int:=if 1 < (ndAt ns k).1 then (ndAt ns k).2.foldl (kidStep ns f) (s,[]) else (s,(ndAt ns k).2)
theorem dfs_new (ns:List Nd)(f k:Nat)(s:St)(h:¬ 0 < s.1.getD k 0):dfs ns (f+1) k s=((kidsOf ns f k s).1.1.set k ((kidsOf ns f k s).1.2.length+1:Nat),(kidsOf ns f k s).1.2 ++ [((ndAt ns k).1,(kidsOf ns f k s).2)]):=by
 rw[dfs_succ,if_neg h];rfl
theorem dfs_ok (hA:Lev q ns P):∀ (f k:Nat)(s:St),(ndAt ns k).1≤f→P k→Inv q ns P s→
  Inv q ns P (dfs ns f k s)∧Gro s (dfs ns f k s)∧0 < (dfs ns f k s).1.getD k 0∧(∀ j,(ndAt ns k).1 < (ndAt ns j).1→P j→(dfs ns f k s).1.getD j 0=s.1.getD j 0)∧
   (¬ 0 < s.1.getD k 0→(dfs ns f k s).1.getD k 0=(dfs ns f k s).2.length)
 | 0,k,s,hf,hk,h=>by have:=hA.one k hk;omega
 | f+1,k,s,hf,hk,h=>by
  by_cases h0:0 < s.1.getD k 0
  ·have e:dfs ns (f+1) k s=s:=by rw[dfs_succ,if_pos h0]
   rw[e];exact⟨h,Gro.rfl' s,h0,fun _ _ _=>rfl,fun h=>absurd h0 h⟩
  ·rw[dfs_new ns f k s h0];have ll:=hA.len k hk
   -- the fold over the kids
   have key:∀ m,m≤q→1 < (ndAt ns k).1→
     Inv q ns P (((ndAt ns k).2.take m).foldl (kidStep ns f) (s,[])).1∧Gro s (((ndAt ns k).2.take m).foldl (kidStep ns f) (s,[])).1∧
     (∀ j,(ndAt ns k).1≤(ndAt ns j).1→P j→(((ndAt ns k).2.take m).foldl (kidStep ns f) (s,[])).1.1.getD j 0=s.1.getD j 0)∧
     (((ndAt ns k).2.take m).foldl (kidStep ns f) (s,[])).2.length=m∧
     ∀ i,i < m→(((ndAt ns k).2.take m).foldl (kidStep ns f) (s,[])).2.getD i 0=(((ndAt ns k).2.take m).foldl (kidStep ns f) (s,[])).1.1.getD ((ndAt ns k).2.getD i 0).toNat 0 - 1∧
      0 < (((ndAt ns k).2.take m).foldl (kidStep ns f) (s,[])).1.1.getD ((ndAt ns k).2.getD i 0).toNat 0:=by
    intro m;induction m with
    | zero=>intro _ _;exact⟨h,Gro.rfl' s,fun _ _ _=>rfl,rfl,fun i hi=>absurd hi (by omega)⟩
    | succ m ih=>
     intro hm hl;obtain⟨i1,i2,i3,i4,i5⟩:=ih (by omega) hl;have hml:m < (ndAt ns k).2.length:=by omega
     have gm:(ndAt ns k).2.getD m 0=(ndAt ns k).2[m]:=by rw[List.getD_eq_getElem?_getD,List.getElem?_eq_getElem hml];rfl
     obtain⟨p1,p2,p3⟩:=hA.kids k hk hl _ (List.getElem_mem hml);have ee:((ndAt ns k).2.take (m+1)).foldl (kidStep ns f) (s,[])=kidStep ns f (((ndAt ns k).2.take m).foldl (kidStep ns f) (s,[])) (ndAt ns k).2[m]:=by
      rw[List.take_add_one,List.getElem?_eq_getElem hml];simp only[Option.toList_some,List.foldl_append,List.foldl_cons,List.foldl_nil]
     rw[ee];generalize ((ndAt ns k).2.take m).foldl (kidStep ns f) (s,[])=X at i1 i2 i3 i4 i5 ⊢;obtain⟨d1,d2,d3,d4,_⟩:=dfs_ok hA f _ X.1 (by rw[p3];omega) p2 i1;simp only[kidStep];refine⟨d1,i2.trans d2,fun j hj pj=>?_,by simp[i4],fun i hi=>?_⟩
     ·rw[d4 j (by rw[p3];omega) pj];exact i3 j hj pj
     ·rcases Nat.lt_or_ge i m with h1 | h1
      ·obtain⟨a1,a2⟩:=i5 i h1;rw[List.getD_eq_getElem?_getD,List.getElem?_append_left (by omega),← List.getD_eq_getElem?_getD,d2.num _ a2];exact⟨a1,a2⟩
      ·have:i=m:=by omega
       subst this;rw[List.getD_eq_getElem?_getD,List.getElem?_append_right (by omega),i4,Nat.sub_self,gm];exact⟨rfl,d3⟩
   have fin:Inv q ns P (kidsOf ns f k s).1∧Gro s (kidsOf ns f k s).1∧(∀ j,(ndAt ns k).1≤(ndAt ns j).1→P j→(kidsOf ns f k s).1.1.getD j 0=s.1.getD j 0)∧(kidsOf ns f k s).2.length=q∧
     (1 < (ndAt ns k).1→∀ m,m < q→(kidsOf ns f k s).2.getD m 0=(kidsOf ns f k s).1.1.getD ((ndAt ns k).2.getD m 0).toNat 0 - 1∧0 < (kidsOf ns f k s).1.1.getD ((ndAt ns k).2.getD m 0).toNat 0)∧
     (¬ 1 < (ndAt ns k).1→(kidsOf ns f k s).2=(ndAt ns k).2):=by
    unfold kidsOf;by_cases hl:1 < (ndAt ns k).1
    ·rw[if_pos hl];have:=key q (Nat.le_refl _) hl;rw[List.take_of_length_le (by omega)] at this;obtain⟨a1,a2,a3,a4,a5⟩:=this;exact⟨a1,a2,a3,a4,fun _=>a5,fun h=>absurd hl h⟩
    ·rw[if_neg hl];exact⟨h,Gro.rfl' s,fun _ _ _=>rfl,ll,fun h=>absurd h hl,fun _=>rfl⟩
   generalize kidsOf ns f k s=X at fin ⊢;obtain⟨a1,a2,a3,a4,a5,a6⟩:=fin;have hx0:¬ 0 < X.1.1.getD k 0:=by rw[a3 k (by omega) hk];exact h0
   have hkl:k < X.1.1.length:=by rw[a1.len];exact hA.lt k hk
   refine⟨a1.push hA hk hx0 X.2 a4 a5 a6,a2.trans ⟨fun j hj=>?_,_,rfl⟩,?_,fun j hj pj=>?_,fun _=>?_⟩
   ·show (X.1.1.set k _).getD j 0=_;rw[getD_set hkl,if_neg (by rintro rfl;exact hx0 hj)]
   ·show 0 < (X.1.1.set k _).getD k 0;rw[getD_set hkl,if_pos rfl];omega
   ·show (X.1.1.set k _).getD j 0=_;rw[getD_set hkl,if_neg (by rintro rfl;omega)];exact a3 j (by omega) pj
   ·show (X.1.1.set k _).getD k 0=((X.1.2 ++ [_]).length:Nat)
    rw[getD_set hkl,if_pos rfl];simp
end
section
variable {q : Nat} {ns : List Nd} {P : Nat → Prop}
theorem ord_ok (hA:Lev q ns P)(dA:Dis ns P){f root:Nat}(hf:(ndAt ns root).1≤f)(hr:P root) :
  Lev q (ord ns f root) (· < (ord ns f root).length)∧Dis (ord ns f root) (· < (ord ns f root).length)∧
  (∀ i,i < (ord ns f root).length→1 < (ndAt (ord ns f root) i).1→∀ k ∈ (ndAt (ord ns f root) i).2,k < (i:Int))∧
  0 < (ord ns f root).length∧Eqv q (ord ns f root) ((ord ns f root).length - 1) ns root∧
  ∀ i,i < (ord ns f root).length→∃ j,P j∧Eqv q (ord ns f root) i ns j:=by
 obtain⟨h1,h2,h3,h4,h5⟩:=dfs_ok hA f root _ hf hr (Inv.start q ns P);have hz:¬ 0 < (List.replicate ns.length (0:Int)).getD root 0:=by
  simp[List.getD_eq_getElem?_getD,List.getElem?_replicate];split <;> simp
 have hn:=h5 hz;obtain⟨n1,n2⟩:=h1.num root hr h3;have e:((dfs ns f root (List.replicate ns.length 0,[])).1.getD root 0 - 1).toNat=(ord ns f root).length - 1:=by
  rw[hn];unfold ord;omega
 rw[e] at n1 n2;refine⟨h1.lev,h1.dis hA dA,h1.ordk,by unfold ord at n1 ⊢;omega,n2,fun i hi=>?_⟩;obtain⟨j,pj,ej⟩:=h1.all i hi;refine⟨j,pj,?_⟩;have:=(h1.num j pj (by omega)).2;have t:((dfs ns f root (List.replicate ns.length 0,[])).1.getD j 0 - 1).toNat=i:=by omega
 rw[t] at this;exact this
end

def dvL (l:List UInt8):Nat:=l.foldl (fun a c=>10*a+(c.toNat - 48)) 0
theorem dec_small' {n:Nat}(h:n < 10):Lib.decDigits n=[UInt8.ofNat (48+n)]:=by rw[Lib.decDigits,dif_pos h]
theorem dec_dv (n:Nat):dvL (Lib.decDigits n)=n:=by
 induction n using Nat.strongRecOn with
 | ind n ih=>
  by_cases h:n < 10
  ·rw[dec_small' h];simp only[dvL,List.foldl_cons,List.foldl_nil,UInt8.toNat_ofNat'];omega
  ·rw[Lib.decDigits,dif_neg h];have:=ih (n / 10) (by omega);unfold dvL at this ⊢;rw[List.foldl_append,this];simp only[List.foldl_cons,List.foldl_nil,UInt8.toNat_ofNat'];omega
theorem dec_dig (n:Nat):∀ c ∈ Lib.decDigits n,48≤c.toNat∧c.toNat≤57:=by
 induction n using Nat.strongRecOn with
 | ind n ih=>
  by_cases h:n < 10
  ·rw[dec_small' h];intro c hc;rw[List.mem_singleton] at hc;subst hc;rw[UInt8.toNat_ofNat'];omega
  ·rw[Lib.decDigits,dif_neg h];intro c hc;rcases List.mem_append.1 hc with hc | hc
   ·exact ih (n / 10) (by omega) c hc
   ·rw[List.mem_singleton] at hc;subst hc;rw[UInt8.toNat_ofNat'];omega
theorem dec_inj {m n:Nat}(h:Lib.decDigits m=Lib.decDigits n):m=n:=by rw[← dec_dv m,h,dec_dv]
theorem itoa_no32 (n:Int):∀ c ∈ Lib.itoa n,c≠32:=by
 intro c hc;unfold Lib.itoa at hc;rintro rfl
 split at hc
 ·rcases List.mem_cons.1 hc with h | h
  ·exact absurd h (by decide)
  ·have:=(dec_dig _ _ h).1;simp at this
 ·have:=(dec_dig _ _ hc).1;simp at this
theorem itoa_inj {m n:Int}(h:Lib.itoa m=Lib.itoa n):m=n:=by
 unfold Lib.itoa at h;have no45:∀ (k:Nat) (l:List UInt8),Lib.decDigits k≠45 :: l:=by
  intro k l he;have:=(dec_dig k 45 (by rw[he];simp)).1;simp at this
 split at h <;> split at h
 ·injection h with _ h
  have:=dec_inj h;omega
 ·exact absurd h.symm (no45 _ _)
 ·exact absurd h (no45 _ _)
 ·have:=dec_inj h;omega
def tailB (zs:List Int):List UInt8:=zs.flatMap fun z=>32 :: Lib.itoa z
def keyB (x:Nd):List UInt8:=Lib.itoa x.1 ++ tailB x.2
theorem tail_head (zs:List Int):tailB zs=[]∨∃ r,tailB zs=32 :: r:=by
 cases zs with
 | nil=>exact .inl rfl
 | cons z r=>exact .inr ⟨_,rfl⟩
theorem app_split:∀ (a b r s:List UInt8),(∀ c ∈ a,c≠32)→(∀ c ∈ b,c≠32)→(r=[]∨∃ t,r=32 :: t)→(s=[]∨∃ t,s=32 :: t)→a ++ r=b ++ s→a=b∧r=s
 | [],[],r,s,_,_,_,_,h=>⟨rfl,h⟩
 | [],c :: b,r,s,_,hb,hr,_,h=>by
  rcases hr with rfl | ⟨t,rfl⟩
  ·simp at h
  ·simp at h;exact absurd h.1.symm (hb c (by simp))
 | c :: a,[],r,s,ha,_,_,hs,h=>by
  rcases hs with rfl | ⟨t,rfl⟩
  ·simp at h
  ·simp at h;exact absurd h.1 (ha c (by simp))
 | c :: a,d :: b,r,s,ha,hb,hr,hs,h=>by
  simp only[List.cons_append,List.cons.injEq] at h;obtain⟨e1,e2⟩:=app_split a b r s (fun x hx=>ha x (by simp[hx])) (fun x hx=>hb x (by simp[hx])) hr hs h.2;exact⟨by rw[h.1,e1],e2⟩
theorem tail_inj:∀ (zs ys:List Int),tailB zs=tailB ys→zs=ys
 | [],[],_=>rfl
 | [],y :: ys,h=>by simp[tailB] at h
 | z :: zs,[],h=>by simp[tailB] at h
 | z :: zs,y :: ys,h=>by
  have h':Lib.itoa z ++ tailB zs=Lib.itoa y ++ tailB ys:=by
   simp only[tailB,List.flatMap_cons,List.cons_append,List.cons.injEq,true_and] at h;exact h
  obtain⟨e1,e2⟩:=app_split _ _ _ _ (itoa_no32 z) (itoa_no32 y) (tail_head zs) (tail_head ys) h';rw[itoa_inj e1,tail_inj zs ys e2]
theorem key_inj {x y:Nd}(h:keyB x=keyB y):x=y:=by
 obtain⟨e1,e2⟩:=app_split _ _ _ _ (itoa_no32 x.1) (itoa_no32 y.1) (tail_head x.2) (tail_head y.2) h;exact Prod.ext (itoa_inj e1) (tail_inj _ _ e2)
theorem tail_snoc (zs:List Int)(z:Int):tailB (zs ++ [z])=tailB zs ++ 32 :: Lib.itoa z:=by simp[tailB]

def posOf:List Nd→Nd→Option Nat
 | [],_=>none
 | y :: r,x=>if y=x then some 0 else (posOf r x).map (· + 1)
theorem posOf_some:∀ {ns:List Nd}{x:Nd}{i:Nat},posOf ns x=some i→i < ns.length∧ndAt ns i=x
 | y :: r,x,i,h=>by
  unfold posOf at h
  split at h
  ·injection h with h;subst h
   rename_i e;exact⟨by simp,e⟩
  ·cases hp:posOf r x with
   | none=>rw[hp] at h;cases h
   | some j=>
    rw[hp] at h;simp at h;subst h;obtain⟨a,b⟩:=posOf_some hp;exact⟨by simp;omega,b⟩
theorem posOf_none:∀ {ns:List Nd}{x:Nd},posOf ns x=none→x ∉ ns
 | [],x,_=>by simp
 | y :: r,x,h=>by
  unfold posOf at h
  split at h
  ·cases h
  ·rename_i e;cases hp:posOf r x with
   | some j=>rw[hp] at h;cases h
   | none=>simp only[List.mem_cons,not_or];exact⟨fun he=>e he.symm,posOf_none hp⟩
theorem posOf_snoc:∀ (ns:List Nd)(x y:Nd),posOf (ns ++ [y]) x=(posOf ns x).or (if y=x then some ns.length else none)
 | [],x,y=>by simp[posOf]
 | z :: r,x,y=>by
  simp only[List.cons_append,posOf,posOf_snoc r x y]
  split
  ·rfl
  ·cases hp:posOf r x with
   | some j=>simp
   | none=>
    simp only[Option.none_or,Option.map_none]
    split <;> simp
def addN (ns:List Nd)(x:Nd):Nat × List Nd:=match posOf ns x with
 | some i=>(i,ns)
 | none=>(ns.length,ns ++ [x])
end Go.Proofs.YtlegfdllipkggaaGreatDoor
namespace Go.Proofs.YtlegfdllipkggaaGreatDoor
set_option linter.unusedSimpArgs false
open Go.RowKit Go.Maps
set_option maxRecDepth 100000
set_option linter.unusedVariables false

structure Kept (S:Nat→Prop)(w w':World):Prop where
 below:Below 0 w w'
 block:∀ g,g < w.heap.size→¬ S g→w'.heap[g]?=w.heap[g]?
section
variable {S S' : Nat → Prop} {w w' w'' : World}
theorem Kept.refl (S:Nat→Prop)(w:World):Kept S w w:=⟨Below.refl _ _,fun _ _ _=>rfl⟩
theorem Kept.trans (h:Kept S w w')(k:Kept S w' w''):Kept S w w'':=
 ⟨h.below.trans k.below,fun g hg hs=>(k.block g (Nat.lt_of_lt_of_le hg h.below.size) hs).trans (h.block g hg hs)⟩
theorem Kept.mono (h:Kept S w w')(hs:∀ g,g < w.heap.size→S g→S' g):Kept S' w w':=⟨h.below,fun g hg h'=>h.block g hg fun x=>h' (hs g hg x)⟩
theorem Kept.of_below {B:Nat}(h:Below B w w'):Kept (B≤·) w w':=⟨⟨h.os,h.tape,h.output,h.size,fun k hk=>absurd hk (by omega)⟩,fun g _ hs=>h.block g (by omega)⟩
theorem Kept.of_new (S:Nat→Prop)(h:Below w.heap.size w w'):Kept S w w':=(Kept.of_below h).mono fun g hg hs=>absurd hg (by omega)
theorem Kept.to_below {B:Nat}(h:Kept S w w')(hB:B≤w.heap.size)(hs:∀ g,g < B→¬ S g):Below B w w':=
 ⟨h.below.os,h.below.tape,h.below.output,h.below.size,fun k hk=>h.block k (by omega) (hs k hk)⟩
theorem Kept.drew (h:Kept S w w'):Kept S w w'.drew:=⟨h.below.drew,h.block⟩
theorem Kept.alloc (h:Kept S w w')(o:Obj):Kept S w (w'.alloc o):=
 ⟨h.below.alloc (Nat.zero_le _) o,fun g hg hs=>(Below.heap_alloc w' o g (Nat.lt_of_lt_of_le hg h.below.size)).trans (h.block g hg hs)⟩
theorem Kept.setCell (h:Kept S w w'){p:Addr}(hp:S p.block∨w.heap.size≤p.block)(u:Value):Kept S w (w'.setCell p u):=
 ⟨h.below.setCell (Nat.zero_le _) u,fun g hg hs=>(Below.heap_setCell w' p u g (by rintro rfl;rcases hp with hp | hp;exact hs hp;omega)).trans (h.block g hg hs)⟩
theorem Kept.grown (h:Kept S w w'){row:Option Nat}(hg:w'.grownBy w'' row)(hr:∀ g,row=some g→S g∨w.heap.size≤g):Kept S w w'':=
 ⟨⟨hg.os.trans h.below.os,hg.tape.trans h.below.tape,hg.output.trans h.below.output,Nat.le_trans h.below.size hg.size,fun k hk=>absurd hk (by omega)⟩,
  fun g hl hs=>(hg.block g (Nat.lt_of_lt_of_le hl h.below.size) (fun e=>by rcases hr g e.symm with h1 | h1;exact hs h1;omega)).trans (h.block g hl hs)⟩
theorem Kept.cell (h:Kept S w w'){p:Addr}(hl:p.block < w.heap.size)(hs:¬ S p.block):w'.cell? p=w.cell? p:=World.cell?_of_block (h.block _ hl hs)
theorem Kept.blk (h:Kept S w w'){g:Nat}{t:TypeId}{cs:Array Value}(hb:Blk w g t cs)(hs:¬ S g):Blk w' g t cs:=(h.block g hb.lt hs).trans hb
theorem Kept.own (h:Kept S w w'){base size n:Nat}{e:TypeId}{u:Value}{xs:List Value}(ho:w.ownsRow base e size u n xs)(hs:∀ g,u.ownBlock=some g→¬ S g):w'.ownsRow base e size u n xs:=by
 obtain⟨h1,h2⟩:=ho;refine⟨h1,?_⟩;rcases h2 with h2 | ⟨g,cap,cur,rfl,h4,h5,h6⟩
 ·exact .inl h2
 ·have hl:g < w.heap.size:=by
   rcases Nat.lt_or_ge g w.heap.size with hlt | hge
   ·exact hlt
   ·rw[Array.getElem?_eq_none hge] at h5;cases h5
  exact .inr ⟨g,cap,cur,rfl,h4,by rw[h.block g hl (hs g rfl)];exact h5,h6⟩
theorem own_lt' {base size n:Nat}{e:TypeId}{u:Value}{xs:List Value}(h:w.ownsRow base e size u n xs){g:Nat}(hg:u.ownBlock=some g):g < w.heap.size∧base≤g:=by
 rcases h.2 with ⟨rfl,_⟩ | ⟨g',cap,cur,rfl,h4,h5,_⟩
 ·simp[Value.ownBlock] at hg
 ·simp[Value.ownBlock] at hg;subst hg;refine⟨?_,h4⟩;rcases Nat.lt_or_ge g' w.heap.size with hlt | hge
  ·exact hlt
  ·rw[Array.getElem?_eq_none hge] at h5;cases h5
theorem own_ne {base base' size size' n n':Nat}{e e':TypeId}{u v:Value}{xs ys:List Value}(h:w.ownsRow base e size u n xs)(k:w.ownsRow base' e' size' v n' ys)(hne:e≠e'){g:Nat}(hg:u.ownBlock=some g):v.ownBlock≠some g:=by
 intro hv;rcases h.2 with ⟨rfl,_⟩ | ⟨g1,_,c1,rfl,_,h5,_⟩
 ·simp[Value.ownBlock] at hg
 ·rcases k.2 with ⟨rfl,_⟩ | ⟨g2,_,c2,rfl,_,k5,_⟩
  ·simp[Value.ownBlock] at hv
  ·simp[Value.ownBlock] at hg hv;subst hg hv;rw[h5] at k5;injection k5 with k5
   injection k5 with _ k5
   exact hne k5
theorem own_map_ne {base size n:Nat}{e:TypeId}{u:Value}{xs:List Value}{P:Program}{k:TypeId}{R:Value→Option (DataW Unit × List MemPlace)}{b m:Nat}{D:DataW Unit}
  (h:w.ownsRow base e size u n xs) (hm:w.ownsMap P k R b m D):u.ownBlock≠some b:=by
 intro hv;rcases h.2 with ⟨rfl,_⟩ | ⟨g1,_,c1,rfl,_,h5,_⟩
 ·simp[Value.ownBlock] at hv
 ·simp[Value.ownBlock] at hv;subst hv;obtain⟨es,clock,hb,_⟩:=hm;rw[h5] at hb;injection hb with hb
  cases hb
theorem blk_map_ne {g:Nat}{t:TypeId}{cs:Array Value}{P:Program}{k:TypeId}{R:Value→Option (DataW Unit × List MemPlace)}{b m:Nat}{D:DataW Unit}(h:Blk w g t cs)(hm:w.ownsMap P k R b m D):g≠b:=by
 rintro rfl;obtain⟨es,clock,hb,_⟩:=hm;unfold Blk at h;rw[h] at hb;injection hb with hb
 cases hb
theorem own_blk_ne' {base size n:Nat}{e:TypeId}{u:Value}{xs:List Value}{g:Nat}{t:TypeId}{cs:Array Value}(h:w.ownsRow base e size u n xs)(hb:Blk w g t cs)(hne:e≠t):u.ownBlock≠some g:=by
 intro hv;rcases h.2 with ⟨rfl,_⟩ | ⟨g1,_,c1,rfl,_,h5,_⟩
 ·simp[Value.ownBlock] at hv
 ·simp[Value.ownBlock] at hv;subst hv;unfold Blk at hb;rw[h5] at hb;injection hb with hb
  injection hb with _ hb
  exact hne hb
theorem Kept.map (h:Kept S w w'){P:Program}{k:TypeId}{R:Value→Option (DataW Unit × List MemPlace)}{b n:Nat}{D:DataW Unit}(hm:w.ownsMap P k R b n D)(hs:¬ S b):w'.ownsMap P k R b n D:=by
 have hl:=hm.lt;obtain⟨es,clock,hb,r⟩:=hm;exact⟨es,clock,(h.block b hl hs).trans hb,r⟩
end

theorem below_new (w:World)(o:Obj):Below w.heap.size w (w.alloc o):=(Below.refl _ _).alloc (Nat.le_refl _) _
structure Hd where
 lv:Int
 A:Option Addr
 c:Nat
 zs:List Int
def Hd.val (h:Hd):Value:=.slice h.A h.zs.length h.c
def Hd.cells (h:Hd):List Value:=[.int .i64 h.lv,.slice h.A h.zs.length h.c]
def Hd.nd (h:Hd):Nd:=(h.lv,h.zs)
theorem hd2:∀ (hs:List Hd)(k:Nat)(hk:k < hs.length),(hs.flatMap Hd.cells)[2*k]?=some (.int .i64 hs[k].lv)∧(hs.flatMap Hd.cells)[2*k+1]?=some (.slice hs[k].A hs[k].zs.length hs[k].c)
 | p :: ps,0,_=>by simp[Hd.cells]
 | p :: ps,k+1,hk=>by
  have h:=hd2 ps k (by simpa using hk);have e1:2*(k+1)=(2*k)+1+1:=by omega
  have e2:2*(k+1)+1=(2*k+1)+1+1:=by omega
  simp only[List.flatMap_cons,Hd.cells,List.cons_append,List.nil_append,e1,List.getElem?_cons_succ,List.getElem_cons_succ];exact h
def Nds (w:World)(A:Option Addr)(hs:List Hd):Prop:=Reads w w.heap.size 2 A hs.length (hs.flatMap Hd.cells)∧hs.length≤9223372036854775807∧∀ h ∈ hs,Ints w h.A h.zs
section
variable {w w' : World} {A : Option Addr} {hs : List Hd}
theorem Nds.at_ {k:Nat}(h:Nds w A hs)(hk:k < hs.length):∃ b o,A=some ⟨b,o,none⟩∧b < w.heap.size∧w.cell? ⟨b,o+k*2,none⟩=some (.int .i64 hs[k].lv)∧w.cell? ⟨b,o+k*2+1,none⟩=some (.slice hs[k].A hs[k].zs.length hs[k].c)∧Ints w hs[k].A hs[k].zs:=by
 obtain⟨ad,e,hb,hc⟩:=h.1.2 (by omega);obtain⟨f1,f2⟩:=hd2 hs k hk;obtain⟨f0,_⟩:=hd2 hs 0 (by omega);have h0:=hc _ _ f0;obtain⟨b,o,sp⟩:=ad;obtain rfl:=spot_none h0;refine⟨b,o,e,hb,?_,?_,h.2.2 _ (List.getElem_mem hk)⟩
 ·rw[Nat.mul_comm];have:=hc _ _ f1;rwa [addr_add] at this
 ·rw[Nat.mul_comm];have:=hc _ _ f2;rwa [addr_add] at this
theorem Nds.le (h:Nds w A hs):hs.length≤9223372036854775807:=h.2.1
theorem Nds.ext (h:Nds w A hs)(hb:Below w.heap.size w w'):Nds w' A hs:=⟨(Reads.below h.1 hb).more hb.size,h.2.1,fun x hx=>(h.2.2 x hx).ext hb⟩
theorem Nds.nil:Nds w A []:=⟨Reads.none_,by simp,fun _ h=>absurd h (by simp)⟩
end
theorem own_down {w:World}{base base' size n:Nat}{e:TypeId}{u:Value}{xs:List Value}(h:w.ownsRow base e size u n xs)(hB:base'≤base):w.ownsRow base' e size u n xs:=by
 obtain⟨h1,h2⟩:=h;refine⟨h1,?_⟩;rcases h2 with h2 | ⟨g,cap,cur,h3,h4,h5⟩
 ·exact .inl h2
 ·exact .inr ⟨g,cap,cur,h3,Nat.le_trans hB h4,h5⟩
theorem OwnI.down {I:TypeId}{w:World}{base base':Nat}{v:Value}{zs:List Int}(h:OwnI I w base v zs)(hB:base'≤base):OwnI I w base' v zs:=own_down h hB
theorem OwnP.down {I:TypeId}{w:World}{base base':Nat}{v:Value}{zs:List (Int × Int)}(h:OwnP I w base v zs)(hB:base'≤base):OwnP I w base' v zs:=own_down h hB
def OwnN (T I:TypeId)(w:World)(base:Nat)(v:Value)(hs:List Hd):Prop:=w.ownsRow base T 2 v hs.length (hs.flatMap Hd.cells)∧∀ h ∈ hs,OwnI I w base h.val h.zs
section
variable {T I : TypeId} {w w' : World} {base : Nat} {v : Value} {hs : List Hd}
theorem OwnN.nil (T I:TypeId)(w:World)(base:Nat):OwnN T I w base (.slice none 0 0) []:=⟨World.ownsRow_nil _ _ _ _,fun _ h=>absurd h (by simp)⟩
theorem OwnI.reads {A:Option Addr}{n c:Nat}{zs:List Int}(h:OwnI I w base (.slice A n c) zs):Ints w A zs:=by
 obtain⟨A',c',e,hi,_⟩:=h.ints;injection e with e1 e2 e3
 subst e1;exact hi
theorem OwnN.nds (h:OwnN T I w base v hs):∃ A c,v=.slice A hs.length c∧Nds w A hs∧NewA base A:=by
 obtain⟨A,c,e,h1,h2⟩:=own_form h.1;exact⟨A,c,e,⟨h1.1,h1.2,fun x hx=>OwnI.reads (h.2 x hx)⟩,h2⟩
theorem OwnN.ext (h:OwnN T I w base v hs)(hb:Below w.heap.size w w'):OwnN T I w' base v hs:=⟨own_below h.1 hb,fun x hx=>(h.2 x hx).ext hb⟩
theorem OwnN.kept (h:OwnN T I w base v hs){S:Nat→Prop}(hk:Kept S w w')(hv:∀ g,v.ownBlock=some g→¬ S g)(hz:∀ x ∈ hs,∀ g,x.val.ownBlock=some g→¬ S g):OwnN T I w' base v hs:=
 ⟨hk.own h.1 hv,fun x hx=>hk.own (h.2 x hx) (hz x hx)⟩
end

def Known (D:DataW Unit)(ns:List Nd):Prop:=IsMap D∧∀ x:Nd,Maps.has D (.string (keyB x))=(posOf ns x).isSome∧∀ i,posOf ns x=some i→D.atKey (.string (keyB x)) (.lit (.int .i64 0))=.lit (.int .i64 i)
theorem Known.nil:Known (.map []) []:=⟨isMap_empty,fun x=>⟨rfl,fun i h=>by cases h⟩⟩
theorem Known.push {D:DataW Unit}{ns:List Nd}(h:Known D ns){x:Nd}(hx:posOf ns x=none):Known (D.put (.string (keyB x)) (.lit (.int .i64 ns.length))) (ns ++ [x]):=by
 have hk:WideAt.IsKeyLit (.string (keyB x)):=trivial;refine⟨h.1.put _ _,fun y=>?_⟩;rw[posOf_snoc];by_cases e:x=y
 ·subst e;rw[hx,if_pos rfl];refine⟨has_put_same h.1 hk _,fun i hi=>?_⟩;simp at hi;subst hi;exact atKey_put_same h.1 hk _ _
 ·have hne:(Lit.string (keyB y))≠.string (keyB x):=by
   intro he;injection he with he
   exact e (key_inj he).symm
  rw[if_neg e,Option.or_none,has_put_other hne];refine⟨(h.2 y).1,fun i hi=>?_⟩;rw[atKey_put_other hne];exact (h.2 y).2 i hi

theorem Tryz.law:Keyed Tryz.prog 9:=string_keyed Tryz.underlying9
theorem Tryz.zeroInt (w:World):(zeroValue 3).run Tryz.prog w=.ok (.int .i64 0) w:=by kernel_rfl
theorem Tryz.infoNode:(Tryz.prog.info? 58).map (fun i=>(i.zero,i.size,i.bytes))=some (some (.agg #[.int .i64 0,.slice none 0 0]),2,32):=by kernel_rfl
theorem Tryz.infoInt:(Tryz.prog.info? 3).map (fun i=>(i.zero,i.size,i.bytes))=some (some (.int .i64 0),1,8):=by kernel_rfl
theorem Tryz.infoPt:(Tryz.prog.info? 56).map (fun i=>(i.zero,i.size,i.bytes))=some (some (.agg #[.int .i64 0,.int .i64 0]),2,16):=by kernel_rfl
theorem Tryz.infoByte:(Tryz.prog.info? 5).map (fun i=>(i.zero,i.size,i.bytes))=some (some (.int .u8 0),1,1):=by kernel_rfl
abbrev MapA (w:World)(M n:Nat)(D:DataW Unit):Prop:=w.ownsMap Tryz.prog 9 (plainElem Tryz.prog 3) M n D
abbrev OwnIA (w:World)(base:Nat)(v:Value)(zs:List Int):Prop:=OwnI 3 w base v zs
abbrev OwnNA (w:World)(base:Nat)(v:Value)(hs:List Hd):Prop:=OwnN 58 3 w base v hs
structure Bld (B p M:Nat)(T:TypeId)(cs:Array Value)(nv:Value)(hs:List Hd)(D:DataW Unit)(w:World):Prop where
 blk:Blk w p T cs
 c0:cs[0]?=some nv
 c1:cs[1]?=some (.map (some M))
 own:OwnNA w B nv hs
 map:MapA w M hs.length D
 known:Known D (hs.map Hd.nd)
 bp:B≤p
 bm:B≤M
def BldS (p M:Nat)(nv:Value):Nat→Prop:=fun g=>g=p∨g=M∨nv.ownBlock=some g
theorem Bld.kept {B p M:Nat}{T:TypeId}{cs:Array Value}{nv:Value}{hs:List Hd}{D:DataW Unit}{w w':World}{S:Nat→Prop}(h:Bld B p M T cs nv hs D w)(hk:Kept S w w')
  (h1:¬ S p) (h2:¬ S M) (h3:∀ g,nv.ownBlock=some g→¬ S g) (h4:∀ x ∈ hs,∀ g,x.val.ownBlock=some g→¬ S g):Bld B p M T cs nv hs D w':=
 ⟨hk.blk h.blk h1,h.c0,h.c1,h.own.kept hk h3 h4,hk.map h.map h2,h.known,h.bp,h.bm⟩
theorem Bld.ext {B p M:Nat}{T:TypeId}{cs:Array Value}{nv:Value}{hs:List Hd}{D:DataW Unit}{w w':World}(h:Bld B p M T cs nv hs D w)(hb:Below w.heap.size w w'):Bld B p M T cs nv hs D w':=
 h.kept (Kept.of_new (fun _=>False) hb) (fun h=>h) (fun h=>h) (fun _ _ h=>h) (fun _ _ _ _ h=>h)
theorem wpList_pushN {P:Program}{wr:World}{ops:Array Oper}{rest:List Oper}{o:Oper}{a:Act}{Q:Exit→Act→World→Prop}(hgd:o.guard=none)(s x:Operand)(t:TypeId)
  (ho:o.op=.call { callee:=.builtin .append,args:=#[s,x],argTypes:=#[t,t] })
  (base:Nat) (T I:TypeId) (hTI:I≠T) (ht:P.underlying t=some (.slice T)) (hi:(P.info? T).map (fun i=>(i.zero,i.size,i.bytes))=some (some (.agg #[.int .i64 0,.slice none 0 0]),2,32))
  (v:Value) (hs:List Hd) (hse:a.eval s=v) (hown:OwnN T I wr base v hs)
  (lv:Int) (A:Option Addr) (c:Nat) (zs:List Int) (hI:OwnI I wr base (.slice A zs.length c) zs) (hx:a.eval x=.slice (some ⟨wr.heap.size,0,none⟩) 1 1)
  (hn:hs.length < 1000000000000) (hbase:base≤wr.heap.size)
  (h:∀ v' w',OwnN T I w' base v' (hs ++ [⟨lv,A,c,zs⟩])→Kept (fun g=>v.ownBlock=some g) wr w'→(v'.ownBlock=v.ownBlock∨∃ g,v'.ownBlock=some g∧wr.heap.size≤g)→wpList P ops Q rest (a.put o.dst v') w') :
  wpList P ops Q (o :: rest) a (wr.alloc (.cells #[.int .i64 lv,.slice A zs.length c] T)):=by
 obtain⟨i0,hi0,hz0,hz1,hz2⟩:=info_parts hi;refine wpList_append_own_at _ hgd s x t ho base T i0 _ 2 32 ht hi0 hz0 hz1 hz2 rfl (by decide) v hs.length _ hse (hown.1.alloc _) ⟨wr.heap.size,0,none⟩ 1 1 [.int .i64 lv,.slice A zs.length c] hx (by simp) ?_ (by simp[Value.oneCell']) (by unfold maxLen;omega) (by omega) (by simp;omega) ?_
 ·intro j u hu;rw[addr_add];have:(wr.alloc (.cells #[.int .i64 lv,.slice A zs.length c] T)).cell? ⟨wr.heap.size,0+j,none⟩=#[Value.int .i64 lv,.slice A zs.length c][0+j]?:=cell_of_row _ _ _ _ _ _ (heap_alloc_new wr _);rw[this];simpa using hu
 ·intro v' w' hown' hg _ hat;have hk:Kept (fun g=>v.ownBlock=some g) wr w':=((Kept.refl _ wr).alloc _).grown hg fun g hg=>Or.inl hg;refine h v' w' ⟨?_,fun y hy=>?_⟩ hk ?_
  ·rw[List.length_append,List.flatMap_append];exact hown'
  ·have hy1:OwnI I wr base y.val y.zs:=by
    rcases List.mem_append.1 hy with hy | hy
    ·exact hown.2 y hy
    ·rw[List.mem_singleton] at hy;subst hy;exact hI
   exact hk.own hy1 fun g hg hv=>own_ne hy1 hown.1 hTI hg hv
  ·rcases hat with hat | hat
   ·exact .inl hat
   ·exact .inr ⟨_,hat,by simp⟩
theorem wpList_pushNn {P:Program}{wr:World}{ops:Array Oper}{rest:List Oper}{o:Oper}{a:Act}{Q:Exit→Act→World→Prop}(hgd:o.guard=none)(s x:Operand)(t:TypeId)
  (ho:o.op=.call { callee:=.builtin .append,args:=#[s,x],argTypes:=#[t,t] })
  (base:Nat) (T I:TypeId) (hTI:I≠T) (ht:P.underlying t=some (.slice T)) (hi:(P.info? T).map (fun i=>(i.zero,i.size,i.bytes))=some (some (.agg #[.int .i64 0,.slice none 0 0]),2,32))
  (v:Value) (hs:List Hd) (hse:a.eval s=v) (hown:OwnN T I wr base v hs)
  (lv:Int) (A:Option Addr) (n c:Nat) (zs:List Int) (hnz:Hid (n=zs.length)) (hI:OwnI I wr base (.slice A n c) zs) (hx:a.eval x=.slice (some ⟨wr.heap.size,0,none⟩) 1 1)
  (hn:hs.length < 1000000000000) (hbase:base≤wr.heap.size)
  (h:∀ v' w',OwnN T I w' base v' (hs ++ [⟨lv,A,c,zs⟩])→Kept (fun g=>v.ownBlock=some g) wr w'→(v'.ownBlock=v.ownBlock∨∃ g,v'.ownBlock=some g∧wr.heap.size≤g)→wpList P ops Q rest (a.put o.dst v') w') :
  wpList P ops Q (o :: rest) a (wr.alloc (.cells #[.int .i64 lv,.slice A n c] T)):=by
 have:=hnz.out;subst this;exact wpList_pushN hgd s x t ho base T I hTI ht hi v hs hse hown lv A c zs hI hx hn hbase h
theorem wpList_pushIk {P:Program}{wr:World}{ops:Array Oper}{rest:List Oper}{o:Oper}{a:Act}{Q:Exit→Act→World→Prop}(hgd:o.guard=none)(s x:Operand)(t:TypeId)
  (ho:o.op=.call { callee:=.builtin .append,args:=#[s,x],argTypes:=#[t,t] })
  (base:Nat) (e:TypeId) (ht:P.underlying t=some (.slice e)) (hi:(P.info? e).map (fun i=>(i.zero,i.size,i.bytes))=some (some (.int .i64 0),1,8))
  (v:Value) (zs:List Int) (hs:a.eval s=v) (hown:OwnI e wr base v zs)
  (z:Int) (hx:a.eval x=.slice (some ⟨wr.heap.size,0,none⟩) 1 1)
  (hn:zs.length < 1000000000000) (hbase:base≤wr.heap.size)
  (h:∀ v' w',OwnI e w' base v' (zs ++ [z])→Kept (fun g=>v.ownBlock=some g) wr w'→(v'.ownBlock=v.ownBlock∨∃ g,v'.ownBlock=some g∧wr.heap.size≤g)→wpList P ops Q rest (a.put o.dst v') w') :
  wpList P ops Q (o :: rest) a (wr.alloc (.cells #[.int .i64 z] e)):=by
 obtain⟨i0,hi0,hz0,hz1,hz2⟩:=info_parts hi;have hown0:wr.ownsRow base e 1 v zs.length (zs.map (Value.int .i64)):=hown;refine wpList_append_own_at _ hgd s x t ho base e i0 (.int .i64 0) 1 8 ht hi0 hz0 hz1 hz2 rfl (by decide) v zs.length _ hs (hown0.alloc _) ⟨wr.heap.size,0,none⟩ 1 1 [.int .i64 z] hx (by simp) ?_ (by simp[Value.oneCell']) (by unfold maxLen;omega) (by omega) (by simp;omega) ?_
 ·intro j u hu;rw[addr_add];have:(wr.alloc (.cells #[.int .i64 z] e)).cell? ⟨wr.heap.size,0+j,none⟩=#[Value.int .i64 z][0+j]?:=cell_of_row _ _ _ _ _ _ (heap_alloc_new wr _);rw[this];cases j with
  | zero=>simpa using hu
  | succ j=>simp at hu
 ·intro v' w' hown' hg _ hat;refine h v' w' ?_ (((Kept.refl _ wr).alloc _).grown hg fun g hg=>Or.inl hg) ?_
  ·unfold OwnI;rw[List.length_append,List.map_append];exact hown'
  ·rcases hat with hat | hat
   ·exact .inl hat
   ·exact .inr ⟨_,hat,by simp⟩
end Go.Proofs.YtlegfdllipkggaaGreatDoor
