/-
  texts Rcmd56 Tsp56: parts of the proof; conditions stand with each theorem.
-/
import Derived.Test.YtcfelnhmifkelaaGreatDoorUG22
import Derived.Test.YtcfelnhmifkelaaGreatDoorUG18
import Derived.Test.YtcfelnhmifkelaaGreatDoorUG16
import Derived.Test.YtcfelnhmifkelaaGreatDoorUG20
import Derived.Test.YtcfelnhmifkelaaGreatDoorUG14
import Derived.BigRegion
import Derived.Test.YtcfelnhmifkelaaGreatDoorUG21
import Derived.Test.YtcfelnhmifkelaaGreatDoorUHdr
import Derived.Test.YtcfelnhmifkelaaGreatDoorUG19
import Derived.Lib.Split
import Derived.Lib.SplitLaws
import Derived.Lib.CountLaws
import Derived.Lib.IndexMore
namespace Go.Proofs.YtcfelnhmifkelaaGreatDoor
open Go.RowKit
set_option maxRecDepth 100000
set_option linter.unusedVariables false
set_option linter.unusedSimpArgs false
theorem few_words {k:Int}(h:k ∈ kinds12):(formR k).length≤9:=by
 have:∀ k ∈ kinds12,(formR k).length≤9:=by decide
 exact this k h
theorem index_nlS {a r:List UInt8}(h:(10:UInt8) ∉ a):Lib.index (a ++ 10 :: r) [10]=a.length:=by
 refine Lib.index_first (by simp) (by simp[Lib.occAt]) (fun j hj=>?_);unfold Lib.occAt;rw[List.drop_append_of_le_length (by omega),List.drop_eq_getElem_cons hj];have hne:a[j]≠10:=fun he=>h (he ▸ List.getElem_mem hj);simp only[List.cons_append,List.isPrefixOf,Bool.and_true];simpa using Ne.symm hne
theorem splitK_nlS {a r:List UInt8}(h:(10:UInt8) ∉ a) (k:Nat):Lib.splitK [10] 0 (k+1) (a ++ 10 :: r)=a :: Lib.splitK [10] 0 k r:=by
 rw[Lib.splitK,index_nlS h];have:¬ (((a.length:Nat):Int) == -1)=true:=by rw[beq_iff_eq];omega
 rw[if_neg this]
 simp
theorem cut_nlS:∀ (l:List UInt8)(n:Nat),l.count 10=n+1→∃ a r,l=a ++ 10 :: r∧(10:UInt8) ∉ a∧r.count 10=n
 | [],n,h=>by simp at h
 | c :: l,n,h=>by
  by_cases hc:c=10
  ·subst hc;exact⟨[],l,rfl,by simp,by simpa using h⟩
  ·rw[List.count_cons,if_neg (by simpa using hc)] at h;obtain⟨a,r,h1,h2,h3⟩:=cut_nlS l n h;refine⟨c :: a,r,by simp[h1],?_,h3⟩;intro hm;rcases List.mem_cons.1 hm with hm | hm
   ·exact hc hm.symm
   ·exact h2 hm
theorem split_linesS:∀ (k:Nat)(l:List UInt8),l.count 10=k→Lib.splitK [10] 0 k l=splitC 10 l
 | 0,l,h=>by
  rw[splitC_oneS 10 (List.count_eq_zero.1 h)];rfl
 | k+1,l,h=>by
  obtain⟨a,r,rfl,h2,h3⟩:=cut_nlS l k h;rw[splitK_nlS h2,splitC_feed,splitC_oneS 10 h2,split_linesS k r h3];rfl
theorem split_allS (s:ByteArray):wdL (Lib.splitB ⟨#[10]⟩ 0 (Lib.countB s ⟨#[10]⟩) s)=splitC 10 s.data.toList:=by
 unfold wdL;rw[Lib.splitB_data];exact split_linesS _ _ (Lib.count_one 10 s.data.toList).symm
theorem trim_lines {l:List UInt8}(h:l≠[]):splitC 10 (Lib.trimSuffix l [10])=linesP l:=by
 rcases List.eq_nil_or_concat l with rfl | ⟨t,a,rfl⟩
 ·exact absurd rfl h
 ·rw[List.concat_eq_append];unfold Lib.trimSuffix Lib.hasSuffix;by_cases ha:a=10
  ·subst ha;rw[linesP_front]
   simp
  ·rw[linesP_no ha];simp[Ne.symm ha,ha]
theorem split_any_lines (s:ByteArray)(w:World)(hg:GCell w)(hs:s.size≤2147483648) :
  Calls Tryz.prog 23 #[.string s,.string ⟨#[10]⟩] w fun e w'=>∃ A ls,e=.returned (.slice A ls.length ls.length)∧Sts w' A ls∧wdL ls=splitC 10 s.data.toList∧Below w.heap.size w w':=by
 obtain⟨m,hm⟩:=hg;refine (Tryz.strings_Split s ⟨#[10]⟩ m w (by omega) hm (by decide)).mono ?_;rintro e w' ⟨rfl,rfl⟩;have hl:(Lib.splitB ⟨#[10]⟩ 0 (Lib.countB s ⟨#[10]⟩) s).length=Lib.countB s ⟨#[10]⟩+1:=by
  have h1:=congrArg List.length (split_allS s);unfold wdL at h1;rw[List.length_map,split_feeds] at h1;rw[h1];have:Lib.countB s ⟨#[10]⟩=feeds s.data.toList:=by
   unfold feeds;have:=Lib.count_one 10 s.data.toList;unfold Lib.countB;rw[List.count] at this;exact this
  rw[this]
 refine⟨some ⟨w.heap.size,0,none⟩,Lib.splitB ⟨#[10]⟩ 0 (Lib.countB s ⟨#[10]⟩) s,by rw[hl],?_,split_allS s,below_new _ _⟩;refine sts_lit56 w _ ?_;have h1:=congrArg List.length (split_allS s);unfold wdL at h1;rw[List.length_map,split_feeds] at h1;rw[h1];have:feeds s.data.toList≤s.data.toList.length:=List.countP_le_length;have h2:s.data.toList.length=s.size:=Array.length_toList;unfold maxLen;omega
theorem trim_any (s:ByteArray)(w:World)(hs:s.size≤2147483648) :
  Calls Tryz.prog 24 #[.string s,.string ⟨#[10]⟩] w fun e w'=>e=.returned (.string ⟨(Lib.trimSuffix s.data.toList [10]).toArray⟩)∧w'=w:=
 Tryz.strings_TrimSuffix s ⟨#[10]⟩ w (by omega)
end Go.Proofs.YtcfelnhmifkelaaGreatDoor
