/-
  texts NumR9 Cnt9 ParseR9 Split9: parts of the proof; conditions stand with each theorem.
-/
import Derived.Test.YtcfelnhmifkelaaGreatDoorWG9
namespace Go.Proofs.YtcfelnhmifkelaaGreatDoor
open Go.RowKit
set_option maxRecDepth 100000
set_option linter.unusedVariables false
set_option linter.unusedSimpArgs false

def numStep (n:Int)(c:UInt8):Int:=min 10000 (10*n+digOf9 c)
def numV (l:List UInt8):Int:=l.foldl numStep 0


def RetTot9 (r:TotL × Int)(w:World)(e:Ending)(w':World):Prop:=
 ∃ A a B b C c,e=.returned (.tuple #[totV A a B b C c r.1,.int .i64 r.2])∧TotR w' A B C r.1∧Below w.heap.size w w'
theorem TotR.set49 {w:World}{A B C:Option Addr}{t:TotL}{b:Nat}(h:TotR w A B C t)(ha:NewA (b+1) A) (hb:NewA (b+1) B) (hc:NewA (b+1) C) (v0 v1 v2 v3:Value) :
  TotR ((((w.setCell ⟨b,0,none⟩ v0).setCell ⟨b,1,none⟩ v1).setCell ⟨b,2,none⟩ v2).setCell ⟨b,3,none⟩ v3) A B C t:=
 ⟨(((h.hood.set_new ha (by simp) _).set_new ha (by simp) _).set_new ha (by simp) _).set_new ha (by simp) _,
  (((h.birth.set_new hb (by simp) _).set_new hb (by simp) _).set_new hb (by simp) _).set_new hb (by simp) _,
  (((h.survive.set_new hc (by simp) _).set_new hc (by simp) _).set_new hc (by simp) _).set_new hc (by simp) _⟩

theorem index_app {a r:List UInt8}(h:(47:UInt8) ∉ a):Lib.index (a ++ 47 :: r) [47]=a.length:=by
 refine Lib.index_first (by simp) (by simp[Lib.occAt]) (fun j hj=>?_);unfold Lib.occAt;rw[List.drop_append_of_le_length (by omega),List.drop_eq_getElem_cons hj];have hne:a[j]≠47:=fun he=>h (he ▸ List.getElem_mem hj);simp only[List.cons_append,List.isPrefixOf,Bool.and_true];simpa using Ne.symm hne
theorem splitK_app {a r:List UInt8}(h:(47:UInt8) ∉ a) (k:Nat):Lib.splitK [47] 0 (k+1) (a ++ 47 :: r)=a :: Lib.splitK [47] 0 k r:=by
 rw[Lib.splitK,index_app h];have:¬ (((a.length:Nat):Int) == -1)=true:=by rw[beq_iff_eq];omega
 rw[if_neg this]
 simp
theorem count_app {a r:List UInt8}(h:(47:UInt8) ∉ a):(a ++ 47 :: r).count 47=r.count 47+1:=by
 simp[List.count_append,List.count_eq_zero.2 h]
theorem one_cut:∀ (l:List UInt8)(n:Nat),l.count 47=n+1→∃ a r,l=a ++ 47 :: r∧(47:UInt8) ∉ a∧r.count 47=n
 | [],n,h=>by simp at h
 | c :: l,n,h=>by
  by_cases hc:c=47
  ·subst hc;exact⟨[],l,rfl,by simp,by simpa using h⟩
  ·rw[List.count_cons,if_neg (by simpa using hc)] at h;obtain⟨a,r,h1,h2,h3⟩:=one_cut l n h;refine⟨c :: a,r,by simp[h1],?_,h3⟩;intro hm;rcases List.mem_cons.1 hm with hm | hm
   ·exact hc hm.symm
   ·exact h2 hm
theorem three_of {l:List UInt8}(h:l.count 47=2):∃ a b c,l=a ++ 47 :: (b ++ 47 :: c)∧(47:UInt8) ∉ a∧(47:UInt8) ∉ b∧(47:UInt8) ∉ c:=by
 obtain⟨a,r,h1,h2,h3⟩:=one_cut l 1 h;obtain⟨b,c,h4,h5,h6⟩:=one_cut r 0 h3;exact⟨a,b,c,by rw[h1,h4],h2,h5,List.count_eq_zero.1 h6⟩
theorem splitK_three {a b c:List UInt8}(ha:(47:UInt8) ∉ a) (hb:(47:UInt8) ∉ b):Lib.splitK [47] 0 2 (a ++ 47 :: (b ++ 47 :: c))=[a,b,c]:=by
 rw[splitK_app ha,splitK_app hb];rfl
theorem count_three {a b c:List UInt8}(ha:(47:UInt8) ∉ a) (hb:(47:UInt8) ∉ b) (hc:(47:UInt8) ∉ c):(a ++ 47 :: (b ++ 47 :: c)).count 47=2:=by
 rw[count_app ha,count_app hb,List.count_eq_zero.2 hc]

def tailV9 (l:List UInt8):Bool:=Lib.hasSuffix l [86]
def tailH9 (l:List UInt8):Bool:=Lib.hasSuffix l [72]
def cutV9 (l:List UInt8):List UInt8:=Lib.trimSuffix l [86]
def cutH9 (l:List UInt8):List UInt8:=Lib.trimSuffix l [72]
def hoodP9 (l:List UInt8):List UInt8 × List (Int × Int):=if tailV9 l then (cutV9 l,neumL 1) else if tailH9 l then (cutH9 l,hexL) else (l,mooreL 1)
def startB9 (l:List UInt8):Bool:=Lib.hasPrefix l [66]
def restB9 (l:List UInt8):List UInt8:=Lib.trimPrefix l [66]
def startS (l:List UInt8):Bool:=Lib.hasPrefix l [83]
def restS (l:List UInt8):List UInt8:=Lib.trimPrefix l [83]
def startC (l:List UInt8):Bool:=Lib.hasPrefix l [67]
def restC (l:List UInt8):List UInt8:=Lib.trimPrefix l [67]
def form3 (s a b c:List UInt8):Option (List UInt8 × List UInt8 × List UInt8):=
 if startB9 s then if startS b then if startC c then some (a.drop 1,restS b,restC c) else none else none else some (b,a,c)
def partsG (l:List UInt8):Option (List UInt8 × List UInt8 × List UInt8):=
 match Lib.splitK [47] 0 2 l with
 | [a,b,c]=>if l.count 47=2 then form3 l a b c else none
 | _=>none
def endG (b s:List Int × Bool)(n:List UInt8)(h:List (Int × Int)):TotL × Int:=
 if b.2 then if s.2 then if numG n then
  if 3≤numV n∧numV n≤8∧rightT ⟨h,numV n,b.1,s.1⟩=true then (⟨h,numV n,b.1,s.1⟩,0) else (zeroT,5)
 else (zeroT,15) else (zeroT,15) else (zeroT,15)
def partG (p:Option (List UInt8 × List UInt8 × List UInt8)) (h:List (Int × Int)):TotL × Int:=
 match p with
 | none=>(zeroT,15)
 | some (b,s,n)=>endG (digG b) (digG s) n h
def parseG (l:List UInt8):TotL × Int:=partG (partsG (hoodP9 l).1) (hoodP9 l).2
theorem parts_none {l:List UInt8}(h:¬ l.count 47=2):partsG l=none:=by
 unfold partsG
 split
 ·rw[if_neg h]
 ·rfl
theorem parts_three {a b c:List UInt8}(ha:(47:UInt8) ∉ a) (hb:(47:UInt8) ∉ b) (hc:(47:UInt8) ∉ c):partsG (a ++ 47 :: (b ++ 47 :: c))=form3 (a ++ 47 :: (b ++ 47 :: c)) a b c:=by
 unfold partsG;rw[splitK_three ha hb];show (if (a ++ 47 :: (b ++ 47 :: c)).count 47=2 then _ else none)=_;rw[if_pos (count_three ha hb hc)]
theorem startB_cons {a r:List UInt8}(h:startB9 (a ++ 47 :: r)=true):∃ a',a=66 :: a'∧restB9 (a ++ 47 :: r)=a' ++ 47 :: r:=by
 unfold restB9 Lib.trimPrefix;unfold startB9 at h;rw[if_pos h];cases a with
 | nil=>simp[Lib.hasPrefix] at h
 | cons x a'=>
  have hx:x=66:=by
   simp[Lib.hasPrefix] at h;exact h.symm
  subst hx;exact⟨a',rfl,by simp⟩
theorem trimPrefix_len9 (l p:List UInt8):(Lib.trimPrefix l p).length≤l.length:=by
 unfold Lib.trimPrefix;split <;> simp
theorem trimSuffix_len9 (l p:List UInt8):(Lib.trimSuffix l p).length≤l.length:=by
 unfold Lib.trimSuffix;split <;> simp <;> omega
theorem splitB_three {a b c:List UInt8}(ha:(47:UInt8) ∉ a) (hb:(47:UInt8) ∉ b):Lib.splitB ⟨#[47]⟩ 0 2 ⟨(a ++ 47 :: (b ++ 47 :: c)).toArray⟩=[⟨a.toArray⟩,⟨b.toArray⟩,⟨c.toArray⟩]:=by
 have h:=Lib.splitB_data ⟨#[47]⟩ 0 2 ⟨(a ++ 47 :: (b ++ 47 :: c)).toArray⟩;have h2:(Lib.splitB ⟨#[47]⟩ 0 2 ⟨(a ++ 47 :: (b ++ 47 :: c)).toArray⟩).map (·.data.toList)=[a,b,c]:=h.trans (by
  have:=splitK_three (c:=c) ha hb;simpa using this)
 generalize Lib.splitB ⟨#[47]⟩ 0 2 ⟨(a ++ 47 :: (b ++ 47 :: c)).toArray⟩=L at h2;have key:∀ (x:ByteArray) (l:List UInt8),x.data.toList=l→x=⟨l.toArray⟩:=by
  intro x l hx;subst hx;rfl
 match L,h2 with
 | [x,y,z],h2=>
  simp only[List.map_cons,List.map_nil,List.cons.injEq,and_true] at h2;rw[key x a h2.1,key y b h2.2.1,key z c h2.2.2]
theorem atoi_num {n:List UInt8}(h:numG n=true):Lib.atoi n=some (numV n):=by
 unfold numG at h;simp only[Bool.and_eq_true,decide_eq_true_eq] at h;obtain⟨⟨⟨h1,h2⟩,h3⟩,h4⟩:=h;have dv:∀ c:UInt8,isDig9 c=true→Lib.digitVal c=some (c.toNat - 48)∧(48≤c.toNat∧c.toNat≤57):=by
  intro c hc;unfold isDig9 at hc;simp only[Bool.and_eq_true,decide_eq_true_eq] at hc;have g:48≤c.toNat∧c.toNat≤57:=by omega
  exact⟨by unfold Lib.digitVal;rw[if_pos g],g⟩
 have ne:∀ (c d:UInt8),c.toNat≠d.toNat→(c == d)=false:=by
  intro c d hcd;rw[beq_eq_false_iff_ne];intro e;exact hcd (by rw[e])
 match n,h1,h2,h3 with
 | [a],h1,_,_=>
  simp only[List.all_cons,List.all_nil,Bool.and_true] at h1;obtain⟨ea,ga⟩:=dv a h1;have e1:=ne a 45 (by show a.toNat≠45;omega);have e2:=ne a 43 (by show a.toNat≠43;omega);simp only[Lib.atoi,e1,e2,Bool.false_eq_true,if_false,Lib.decNat,List.isEmpty_cons,Lib.decFrom,ea,Option.map_some,numV,List.foldl_cons,List.foldl_nil,numStep,digOf9]
  congr 1
  omega
 | [a,b],h1,_,_=>
  simp only[List.all_cons,List.all_nil,Bool.and_true,Bool.and_eq_true] at h1;obtain⟨ea,ga⟩:=dv a h1.1;obtain⟨eb,gb⟩:=dv b h1.2;have e1:=ne a 45 (by show a.toNat≠45;omega);have e2:=ne a 43 (by show a.toNat≠43;omega);simp only[Lib.atoi,e1,e2,Bool.false_eq_true,if_false,Lib.decNat,List.isEmpty_cons,Lib.decFrom,ea,eb,Option.map_some,numV,List.foldl_cons,List.foldl_nil,numStep,digOf9]
  congr 1
  omega
 | [a,b,c],h1,_,_=>
  simp only[List.all_cons,List.all_nil,Bool.and_true,Bool.and_eq_true] at h1;obtain⟨ea,ga⟩:=dv a h1.1;obtain⟨eb,gb⟩:=dv b h1.2.1;obtain⟨ec,gc⟩:=dv c h1.2.2;have e1:=ne a 45 (by show a.toNat≠45;omega);have e2:=ne a 43 (by show a.toNat≠43;omega);simp only[Lib.atoi,e1,e2,Bool.false_eq_true,if_false,Lib.decNat,List.isEmpty_cons,Lib.decFrom,ea,eb,ec,Option.map_some,numV,List.foldl_cons,List.foldl_nil,numStep,digOf9]
  congr 1
  omega
end Go.Proofs.YtcfelnhmifkelaaGreatDoor
