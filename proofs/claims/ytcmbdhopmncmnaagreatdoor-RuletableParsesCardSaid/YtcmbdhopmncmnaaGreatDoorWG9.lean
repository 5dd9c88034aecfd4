/-
  texts Ln11 Awk11P Nm11 Seq11 Sts11 PushR1 Mem11 NumP11 Named11 Num11: parts of the proof; conditions stand with each theorem.
-/
import Derived.Test.YtcmbdhopmncmnaaGreatDoorWG8
import Derived.Lib.Split
import Derived.Lib.SplitLaws
import Derived.Lib.CountLaws
import Derived.Lib.IndexMore
import Derived.Test.YtcmbdhopmncmnaaGreatDoorWG4
import Derived.Test.YtcmbdhopmncmnaaGreatDoorWG0
import Derived.RangeFuncNested
import Derived.RangeFuncBox
import Derived.Laws.Rows
import Derived.Test.YtcmbdhopmncmnaaGreatDoorWG1
import Derived.DeepKeys5
import Derived.Laws.EntriesVeiled
namespace Go.Proofs.YtcmbdhopmncmnaaGreatDoor
open Go.RowKit
set_option linter.unusedVariables false
set_option linter.unusedSimpArgs false
theorem index_nl {a r:List UInt8}(h:(10:UInt8) ∉ a):Lib.index (a ++ 10 :: r) [10]=a.length:=by
 refine Lib.index_first (by simp) (by simp[Lib.occAt]) (fun j hj=>?_);unfold Lib.occAt;rw[List.drop_append_of_le_length (by omega),List.drop_eq_getElem_cons hj];have hne:a[j]≠10:=fun he=>h (he ▸ List.getElem_mem hj);simp only[List.cons_append,List.isPrefixOf,Bool.and_true];simpa using Ne.symm hne
theorem splitK_nl {a r:List UInt8}(h:(10:UInt8) ∉ a)(k:Nat):Lib.splitK [10] 0 (k+1) (a ++ 10 :: r)=a :: Lib.splitK [10] 0 k r:=by
 rw[Lib.splitK,index_nl h];have:¬ (((a.length:Nat):Int) == -1)=true:=by rw[beq_iff_eq];omega
 rw[if_neg this]
 simp
theorem cut_nl:∀ (l:List UInt8)(n:Nat),l.count 10=n+1→∃ a r,l=a ++ 10 :: r∧(10:UInt8) ∉ a∧r.count 10=n
 | [],n,h=>by simp at h
 | c :: l,n,h=>by
  by_cases hc:c=10
  ·subst hc;exact⟨[],l,rfl,by simp,by simpa using h⟩
  ·rw[List.count_cons,if_neg (by simpa using hc)] at h;obtain⟨a,r,h1,h2,h3⟩:=cut_nl l n h;refine⟨c :: a,r,by simp[h1],?_,h3⟩;intro hm;rcases List.mem_cons.1 hm with hm | hm
   ·exact hc hm.symm
   ·exact h2 hm
theorem lines_one:∀ {l:List UInt8},(10:UInt8) ∉ l→lines11 l=[l]
 | [],_=>rfl
 | c :: l,h=>by
  show (if c=10 then _ else _)=_;rw[if_neg (fun e=>h (by rw[e];simp)),lines_one (fun h2=>h (by simp[h2]))]
theorem split_lines:∀ (k:Nat)(l:List UInt8),l.count 10=k→Lib.splitK [10] 0 k l=lines11 l
 | 0,l,h=>by
  rw[lines_one (List.count_eq_zero.1 h)];rfl
 | k+1,l,h=>by
  obtain⟨a,r,rfl,h2,h3⟩:=cut_nl l k h;rw[splitK_nl h2,lines_app a r (fun c hc e=>h2 (e ▸ hc)),split_lines k r h3]
theorem split_all (s:ByteArray):(Lib.splitB ⟨#[10]⟩ 0 (Lib.countB s ⟨#[10]⟩) s).map (fun x=>x.data.toList)=lines11 s.data.toList:=by
 rw[Lib.splitB_data];exact split_lines _ _ (Lib.count_one 10 s.data.toList).symm
def rwordsL (acc:List Wd)(cur:Wd):List UInt8→List Wd
 | []=>acc ++ (if cur=[] then [] else [cur])
 | c :: r=>if c=35 then acc ++ (if cur=[] then [] else [cur]) else if sepB c=true then rwordsL (acc ++ (if cur=[] then [] else [cur])) [] r else rwordsL acc (cur ++ [c]) r
theorem rwords_eq:∀ (l:List UInt8)(acc:List Wd)(cur:Wd),rwordsL acc cur l=acc ++ fieldsB cur (uncom l)
 | [],acc,cur=>rfl
 | c :: l,acc,cur=>by
  show (if c=35 then _ else _)=_;by_cases h:c=35
  ·subst h;rw[if_pos rfl];rfl
  ·have hu:uncom (c :: l)=c :: uncom l:=by
    unfold uncom;rw[List.takeWhile_cons,if_pos (by rw[bne_iff_ne];exact h)]
   rw[if_neg h,hu];show _=acc ++ (if sepB c=true then (if cur=[] then fieldsB [] (uncom l) else cur :: fieldsB [] (uncom l)) else fieldsB (cur ++ [c]) (uncom l))
   by_cases hs:sepB c=true
   ·rw[if_pos hs,if_pos hs,rwords_eq l _ []];by_cases hc:cur=[]
    ·rw[if_pos hc,if_pos hc,List.append_nil]
    ·rw[if_neg hc,if_neg hc,List.append_assoc];rfl
   ·rw[if_neg hs,if_neg hs,rwords_eq l acc _]
theorem rwords_all (l:List UInt8):rwordsL [] [] l=wordsL l:=by rw[rwords_eq];rfl
def linesX:List (List UInt8)→Nat→List (Nat × List Wd)
 | [],_=>[]
 | l :: r,i=>if wordsL l=[] then linesX r (i+1) else (i+1,wordsL l) :: linesX r (i+1)
def foldW (s:PSt):List (Nat × List Wd)→TabL × Int × Int
 | []=>if s.head < 3 then (zero11,0,4) else (s.t,0,0)
 | x :: r=>if (stepW s x.2).2≠0 then (zero11,(x.1:Int),(stepW s x.2).2) else foldW (stepW s x.2).1 r
theorem read_fold:∀ (ls:List (List UInt8))(s:PSt)(i:Nat),readW s i ls=foldW s (linesX ls i)
 | [],s,i=>rfl
 | l :: r,s,i=>by
  show (if wordsL l=[] then readW s (i+1) r else if (stepW s (wordsL l)).2≠0 then (zero11,(i:Int)+1,(stepW s (wordsL l)).2) else readW (stepW s (wordsL l)).1 (i+1) r)=foldW s (if wordsL l=[] then linesX r (i+1) else (i+1,wordsL l) :: linesX r (i+1));by_cases h:wordsL l=[]
  ·rw[if_pos h,if_pos h,read_fold r s (i+1)]
  ·rw[if_neg h,if_neg h];show _=(if (stepW s (wordsL l)).2≠0 then (zero11,((i+1:Nat):Int),(stepW s (wordsL l)).2) else foldW (stepW s (wordsL l)).1 (linesX r (i+1)))
   by_cases h2:(stepW s (wordsL l)).2≠0
   ·rw[if_pos h2,if_pos h2,Int.natCast_add];rfl
   ·rw[if_neg h2,if_neg h2,read_fold r _ (i+1)]
def runX (s:PSt):List (Nat × List Wd)→Option PSt
 | []=>some s
 | x :: r=>if (stepW s x.2).2≠0 then none else runX (stepW s x.2).1 r
theorem runX_snoc:∀ (a:List (Nat × List Wd))(s s':PSt)(x:Nat × List Wd),runX s a=some s'→runX s (a ++ [x])=if (stepW s' x.2).2≠0 then none else some (stepW s' x.2).1
 | [],s,s',x,h=>by
  injection h with h
  subst h;show (if (stepW s x.2).2≠0 then none else some (stepW s x.2).1)=_;rfl
 | y :: a,s,s',x,h=>by
  have h':(if (stepW s y.2).2≠0 then none else runX (stepW s y.2).1 a)=some s':=h;show (if (stepW s y.2).2≠0 then none else runX (stepW s y.2).1 (a ++ [x]))=_;by_cases h2:(stepW s y.2).2≠0
  ·rw[if_pos h2] at h';cases h'
  ·rw[if_neg h2] at h' ⊢;exact runX_snoc a _ s' x h'
theorem foldW_run:∀ (a b:List (Nat × List Wd))(s s':PSt),runX s a=some s'→foldW s (a ++ b)=foldW s' b
 | [],b,s,s',h=>by
  injection h with h
  subst h;rfl
 | y :: a,b,s,s',h=>by
  have h':(if (stepW s y.2).2≠0 then none else runX (stepW s y.2).1 a)=some s':=h;show (if (stepW s y.2).2≠0 then _ else foldW (stepW s y.2).1 (a ++ b))=_;by_cases h2:(stepW s y.2).2≠0
  ·rw[if_pos h2] at h';cases h'
  ·rw[if_neg h2] at h' ⊢;exact foldW_run a b _ s' h'
theorem linesX_mem:∀ (ls:List (List UInt8))(i:Nat)(x:Nat × List Wd),x ∈ linesX ls i→i < x.1∧x.1≤i+ls.length∧x.2≠[]∧∃ l ∈ ls,x.2=wordsL l
 | [],i,x,h=>absurd h (by simp[linesX])
 | l :: r,i,x,h=>by
  have h':x ∈ (if wordsL l=[] then linesX r (i+1) else (i+1,wordsL l) :: linesX r (i+1)):=h;have key:x ∈ linesX r (i+1)→i < x.1∧x.1≤i+(l :: r).length∧x.2≠[]∧∃ l' ∈ l :: r,x.2=wordsL l':=fun h2=>by
   obtain⟨h3,h4,h5,l',h6,h7⟩:=linesX_mem r (i+1) x h2;exact⟨by omega,by rw[List.length_cons];omega,h5,l',by simp[h6],h7⟩
  by_cases hw:wordsL l=[]
  ·rw[if_pos hw] at h';exact key h'
  ·rw[if_neg hw] at h';rcases List.mem_cons.1 h' with rfl | h2
   ·exact⟨by dsimp only;omega,by rw[List.length_cons];dsimp only;omega,hw,l,by simp,rfl⟩
   ·exact key h2
theorem lines_len:∀ l:List UInt8,(lines11 l).length≤l.length+1∧∀ x ∈ lines11 l,x.length≤l.length
 | []=>⟨by simp[lines11],fun x h=>by
  rw[List.mem_singleton.1 (show x ∈ [[]] from h)];exact Nat.le_refl _⟩
 | c :: r=>by
  obtain⟨h1,h2⟩:=lines_len r;have e:lines11 (c :: r)=(if c=10 then [] :: lines11 r else match lines11 r with | x :: l=>(c :: x) :: l | []=>[[c]]):=rfl;rw[e];by_cases hc:c=10
  ·rw[if_pos hc];refine⟨by simp;omega,fun x hx=>?_⟩;rcases List.mem_cons.1 hx with rfl | hx
   ·simp
   ·have:=h2 x hx
    simp
    omega
  ·rw[if_neg hc];cases hl:lines11 r with
   | nil=>
    refine⟨by simp,fun x hx=>?_⟩;rw[List.mem_singleton.1 hx]
    simp
   | cons y l=>
    rw[hl] at h1 h2;dsimp only;refine⟨by simp at h1 ⊢;omega,fun x hx=>?_⟩;rcases List.mem_cons.1 hx with rfl | hx
    ·have:=h2 y (by simp)
     simp
     omega
    ·have:=h2 x (by simp[hx])
     simp
     omega
theorem fields_len:∀ (l:List UInt8)(cur:Wd),(fieldsB cur l).length≤l.length+1∧∀ w ∈ fieldsB cur l,w.length≤cur.length+l.length
 | [],cur=>by
  show (if cur=[] then [] else [cur]).length≤_∧∀ w ∈ (if cur=[] then [] else [cur]),_;by_cases h:cur=[]
  ·rw[if_pos h];exact⟨by simp,fun w hw=>absurd hw (by simp)⟩
  ·rw[if_neg h];exact⟨by simp,fun w hw=>by rw[List.mem_singleton.1 hw];simp⟩
 | c :: r,cur=>by
  show (if sepB c=true then (if cur=[] then fieldsB [] r else cur :: fieldsB [] r) else fieldsB (cur ++ [c]) r).length≤_∧∀ w ∈ (if sepB c=true then (if cur=[] then fieldsB [] r else cur :: fieldsB [] r) else fieldsB (cur ++ [c]) r),_;by_cases hs:sepB c=true
  ·rw[if_pos hs];obtain⟨h1,h2⟩:=fields_len r [];by_cases h:cur=[]
   ·rw[if_pos h];refine⟨by simp;omega,fun w hw=>?_⟩;have:=h2 w hw;simp at this ⊢;omega
   ·rw[if_neg h];refine⟨by simp;omega,fun w hw=>?_⟩;rcases List.mem_cons.1 hw with rfl | hw
    ·simp
    ·have:=h2 w hw;simp at this ⊢;omega
  ·rw[if_neg hs];obtain⟨h1,h2⟩:=fields_len r (cur ++ [c]);refine⟨by simp;omega,fun w hw=>?_⟩;have:=h2 w hw;simp at this ⊢;omega
theorem words_bound (l:List UInt8):(wordsL l).length≤l.length+1∧∀ w ∈ wordsL l,w.length≤l.length:=by
 have hu:(uncom l).length≤l.length:=by unfold uncom;exact (List.takeWhile_sublist _).length_le
 obtain⟨h1,h2⟩:=fields_len (uncom l) [];exact⟨by unfold wordsL;omega,fun w hw=>by have:=h2 w hw;simp at this;omega⟩
end Go.Proofs.YtcmbdhopmncmnaaGreatDoor
namespace Go.Proofs.YtcmbdhopmncmnaaGreatDoor
set_option linter.unusedSimpArgs false
set_option linter.unusedVariables false
set_option maxRecDepth 100000
def exA:List UInt8:=[115,116,97,116,101,115,32,50,10,104,111,111,100,32,108,105,110,101,10,115,121,109,109,101,116,114,121,32,110,111,110,101,10,118,97,114,32,97,32,48,32,49,10,49,32,97,32,48,32,45,62,32,49,10,97,32,49,32,97,32,45,62,32,48,10]
def exB:List UInt8:=[115,116,97,116,101,115,32,50,10,104,111,111,100,32,104,101,120,10,115,121,109,109,101,116,114,121,32,114,111,116,97,116,101]
def exC:List UInt8:=[115,116,97,116,101,115,32,50,10,104,111,111,100,32,110,101,117,109,97,110,110,10,115,121,109,109,101,116,114,121,32,114,111,116,97,116,101,10,49,32,48,32,48,32,48,32,48,32,45,62,32,49,10]
def tabA:TabL:=⟨2,0,line11,[[0,1]],[([1,-1,0],1),([-1,1,-1],0)]⟩
def tabU:TabL:=⟨2,1,neumP,[],[([1,0,0,0,0],1)]⟩
theorem exA_parse:parse11 exA=(tabA,0,0):=by rfl
theorem exB_parse:parse11 exB=(zero11,3,2):=by rfl
theorem exE_parse:parse11 []=(zero11,0,4):=by rfl
theorem exA_next1:nextT tabA [1,0,0]=(1,0):=by decide
theorem exA_next2:nextT tabA [1,1,1]=(0,0):=by decide
theorem exA_next3:nextT tabA [0,0,1]=(0,0):=by decide
theorem exA_next4:nextT tabA [0,1,1]=(1,0):=by decide
theorem exA_match:matchT tabA 1 [0,1,0]=(0,true):=by decide
theorem exU_next:nextT tabU [0,0,0,1,0]=(1,0):=by decide
theorem exU_right:rightTab tabU=true:=by decide
theorem exZ_right:rightTab zero11=false:=by decide
theorem exU_text:text11 tabU=exC:=by
 have h2:Lib.decDigits 2=[50]:=d11_small (by decide);have h1:Lib.decDigits 1=[49]:=d11_small (by decide);have h0:Lib.decDigits 0=[48]:=d11_small (by decide);have e1:elT 1=[49]:=h1;have e0:elT 0=[48]:=h0;unfold text11;rw[if_neg (by rw[exU_right];decide),show placeH tabU.hood 0 hoodsP=some 1 by decide];dsimp only;unfold head11;rw[show tabU.st.toNat=2 from rfl,h2];show _ ++ [] ++ (([1,0,0,0,0].flatMap fun e=>elT e ++ [32]) ++ ([45,62,32] ++ elT 1) ++ [10] ++ [])=exC;simp only[List.flatMap_cons,List.flatMap_nil,e1,e0];rfl
end Go.Proofs.YtcmbdhopmncmnaaGreatDoor
namespace Go.Proofs.YtcmbdhopmncmnaaGreatDoor
set_option linter.unusedSimpArgs false
open Go.RowKit Go.Maps
set_option linter.unusedVariables false
theorem placeW_snoc (w x:Wd):∀ (l:List Wd)(k:Nat),placeW w k (l ++ [x])=(placeW w k l).or (if x=w then some (k+l.length) else none)
 | [],k=>by
  show (if x=w then some k else none)=_;by_cases h:x=w
  ·rw[if_pos h,if_pos h];rfl
  ·rw[if_neg h,if_neg h];rfl
 | y :: l,k=>by
  show (if y=w then some k else placeW w (k+1) (l ++ [x]))=Option.or (if y=w then some k else placeW w (k+1) l) _;by_cases h:y=w
  ·rw[if_pos h,if_pos h];rfl
  ·rw[if_neg h,if_neg h,placeW_snoc w x l (k+1),List.length_cons,show k+1+l.length=k+(l.length+1) by omega]
theorem placeW_lt (w:Wd):∀ (l:List Wd)(k i:Nat),placeW w k l=some i→i < k+l.length
 | [],k,i,h=>by cases h
 | y :: l,k,i,h=>by
  have h':(if y=w then some k else placeW w (k+1) l)=some i:=h;by_cases e:y=w
  ·rw[if_pos e] at h';injection h' with h'
   rw[List.length_cons];omega
  ·rw[if_neg e] at h';have:=placeW_lt w l (k+1) i h';rw[List.length_cons];omega
def KnownW (D:DataW Unit)(names:List Wd):Prop:=IsMap D∧∀ b:Wd,Maps.has D (.string b)=(placeW b 0 names).isSome∧∀ i,placeW b 0 names=some i→D.atKey (.string b) (.lit (.int .i64 0))=.lit (.int .i64 i)
theorem KnownW.nil:KnownW (.map []) []:=⟨isMap_empty,fun b=>⟨rfl,fun i h=>by cases h⟩⟩
theorem KnownW.push {D:DataW Unit}{names:List Wd}(h:KnownW D names){x:Wd}(hx:placeW x 0 names=none):KnownW (D.put (.string x) (.lit (.int .i64 names.length))) (names ++ [x]):=by
 have hk:WideAt.IsKeyLit (.string x):=trivial;refine⟨h.1.put _ _,fun y=>?_⟩;rw[placeW_snoc];by_cases e:x=y
 ·subst e;rw[hx,if_pos rfl];refine⟨has_put_same h.1 hk _,fun i hi=>?_⟩;simp at hi;subst hi;exact atKey_put_same h.1 hk _ _
 ·have hne:(Lit.string y)≠.string x:=by
   intro he;injection he with he
   exact e he.symm
  rw[if_neg e,Option.or_none,has_put_other hne];refine⟨(h.2 y).1,fun i hi=>?_⟩;rw[atKey_put_other hne];exact (h.2 y).2 i hi
end Go.Proofs.YtcmbdhopmncmnaaGreatDoor
namespace Go.Proofs.YtcmbdhopmncmnaaGreatDoor
set_option linter.unusedSimpArgs false
open Go.RowKit
set_option linter.unusedVariables false
abbrev Blks:=Nat→Prop
theorem wideO_call {n:Nat}{f:FuncId}{C:Prop}(h:C):Fence.wide.fn f∧(Fence.wide.depth.isSome=true→1≤n)∧C:=⟨trivial,(fun hd=>by cases hd),h⟩
theorem wideO_round {n:Nat}{C:Prop}(h:C):(Fence.wide.depth.isSome=true→1≤n)∧C:=⟨(fun hd=>by cases hd),h⟩
def LocalO {X:Type}(J:List X→Blks→World→Prop):Prop:=∀ xs O W W',J xs O W→Kept (fun k=>¬ O k) W W'→J xs O W'
def InO (O:Blks)(W:World):Prop:=∀ k,O k→k < W.heap.size
def NewO (O O':Blks)(W:World):Prop:=∀ k,O' k→O k∨W.heap.size≤k
theorem Kept.putObjO {S:Nat→Prop}{w w':World}(h:Kept S w w'){l:Nat}(hl:S l∨w.heap.size≤l)(o:Obj):Kept S w (w'.putObj l o):=
 ⟨⟨h.below.os,h.below.tape,h.below.output,Nat.le_trans h.below.size (by simp),fun k hk=>absurd hk (Nat.not_lt_zero k)⟩,fun k hk hs=>(World.putObj_heap_other (fun e=>by
  subst e;rcases hl with hl | hl
  ·exact hs hl
  ·omega)).trans (h.block k hk hs)⟩
theorem LocalO.putObj {X:Type}{J:List X→Blks→World→Prop}(h:LocalO J){xs:List X}{O:Blks}{W:World}(hj:J xs O W){l:Nat}(hl:¬ O l)(o:Obj):J xs O (W.putObj l o):=
 h xs O W _ hj ((Kept.refl _ W).putObjO (.inl hl) o)
def SeqO (P:Program)(g:Nat)(lb:Array Value){X:Type}(Ok:List X→X→Array Value→Blks→World→Prop)(S:List X→Prop)(lo:Nat)(w:World):Prop:=
 ∀ (n l:Nat) (J:List X→Blks→World→Prop) (Jx:List X→World→Prop) (W:World),Below w.heap.size w W→LocalO J→(∀ xs O W,J xs O W→InO O W)→
  (∀ pre x vs O W1,J pre O W1→Ok pre x vs O W1→YieldAt Fence.wide (n - 1) P l vs W1 fun e W'=>(e=.returned (.bool true)∧∃ O',J (pre ++ [x]) O' W'∧Kept (fun k=>O k∧lo≤k) W1 W'∧NewO O O' W1)∨(e=.returned (.bool false)∧Jx (pre ++ [x]) W'))→
  ∀ O,J [] O W→CallsIn Fence.wide n P g (#[.func (.yield l) #[] #[]] ++ lb) W fun e W'=>(∃ v,e=.returned v)∧((∃ xs O',S xs∧J xs O' W')∨∃ pre rest,S (pre ++ rest)∧Jx pre W')
def EndsO {X:Type}(lo:Nat)(I Ix:List X→Blks→World→Prop)(O:Blks)(xs:List X)(W:World):Exit→Act→World→Prop
 | .normal,_,W'=>∃ O',Kept (fun k=>O k∧lo≤k) W W'∧I xs O' W'∧NewO O O' W
 | .ret,_,W'=>∃ O',Kept (fun k=>O k∧lo≤k) W W'∧Ix xs O' W'∧NewO O O' W
 | _,_,_=>False
theorem wpIn_rangeO {n:Nat}{P:Program}{g:Operand}{ps:Array Tmp}{assign body:Code}{Q:Exit→Act→World→Prop}{a:Act}{w w0:World}
  {gf:Nat} {lb:Array Value} {X:Type} {Ok:List X→X→Array Value→Blks→World→Prop} {S:List X→Prop} {lo:Nat}
  (hg:a.eval g=.func (.func gf) #[] lb) (eg:∀ args w,(callFunc gf args).run P w=.ok (.enter gf args) w) (hseq:SeqO P gf lb Ok S lo w0) (hlw:lo≤w.heap.size) (hb0:Below w0.heap.size w0 w)
  (hps:∀ pre x vs O W,Ok pre x vs O W→vs.size=ps.size)
  (hOk:∀ pre x vs O O1 W l o o',Ok pre x vs O W→(∀ k,O1 k→O k)→W.heap[l]?=some o→o.isCells=false→Ok pre x vs O1 (W.putObj l o'))
  (I Ix:List X→Blks→World→Prop) (hI:LocalO I) (hIx:LocalO Ix) (hIn:∀ xs O W,I xs O W→InO O W) (O0:Blks) (h0:I [] O0 w) (a₁:Array Value→Act)
  (hassign:∀ (l:Nat) (pre:List X) (x:X) (vs:Array Value) (O:Blks) (W:World) (K:Act→World→Prop),Ok pre x vs O W→K (a₁ vs) W→
   assign.wpIn (Fence.wide.inRound l) (n - 1 - 1) P (Exit.then K (fun _ _ _=>False)) { tmps:=(ps.zip vs).foldl (fun t (p,v)=>t.setIfInBounds p v) a.tmps,defers:=[] } W)
  (hbody:∀ (l:Nat) (pre:List X) (x:X) (vs:Array Value) (O:Blks) (W:World),w.heap.size≤W.heap.size→I pre O W→Ok pre x vs O W→body.wpIn (Fence.wide.inRound l) (n - 1 - 1) P (EndsO lo I Ix O (pre ++ [x]) W) (a₁ vs) W)
  (hdone:∀ (D:Nat) (xs:List X) (O:Blks) (W:World),w.heap.size≤D→S xs→I xs O W→¬ O D→W.heap[D]?=some (.deferred (some []))→Q .normal { a with defers:={ target:=.collected D,args:=#[] } :: a.defers } W)
  (hstop:∀ (D:Nat) (pre rest:List X) (O:Blks) (W:World),w.heap.size≤D→S (pre ++ rest)→Ix pre O W→¬ O D→W.heap[D]?=some (.deferred (some []))→Code.ret.wpIn Fence.wide n P Q { a with defers:={ target:=.collected D,args:=#[] } :: a.defers } W) :
  (Code.rangeFunc g ps assign body).wpIn Fence.wide n P Q a w:=by
 refine wpIn_rangeFunc fun fn hfn=>?_;obtain⟨mk,hmk⟩:∃ mk:LoopState→Option Code→Obj,mk=fun st pe=>.loop { state:=st,pending:=pe,fn,tmps:=a.tmps,params:=ps,assign,body,defers:=w.heap.size }:=⟨_,rfl⟩
 obtain⟨W1,hW1⟩:∃ W1,W1=(w.alloc (.deferred (some []))).alloc (mk .ready none):=⟨_,rfl⟩
 have hsz:W1.heap.size=w.heap.size+1+1:=by rw[hW1];simp
 have hL1:W1.heap[w.heap.size+1]?=some (mk .ready none):=by
  rw[hW1];have h:=World.alloc_heap_new (w.alloc (.deferred (some []))) (mk .ready none);rwa [World.size_alloc] at h
 have hD1:W1.heap[w.heap.size]?=some (.deferred (some [])):=by
  rw[hW1];exact (Below.heap_alloc _ _ _ (by simp)).trans (World.alloc_heap_new w _)
 have hcells:∀ st pe,(mk st pe).isCells=false:=fun st pe=>by rw[hmk];rfl
 refine⟨w.heap.size+1,[{ target:=.collected w.heap.size,args:=#[] }],W1,{ target:=.fn (.func gf) lb,args:=#[.func (.yield (w.heap.size+1)) #[] #[]] },W1,gf,
  #[.func (.yield (w.heap.size + 1)) #[] #[]] ++ lb, W1, ?_, ?_, fun _ _ => trivial, ?_, fun h => by simp [Fence.wide] at h, ?_⟩
 ·rw[hW1,hmk];exact run_enterLoop_outer _ _ _ _ _
 ·simp only[resolve,hg];simp[go_sem]
 ·simp[invoke,go_sem,eg]
 have hbw:Below w.heap.size w W1:=by
  rw[hW1];exact ((Below.refl _ w).alloc (Nat.le_refl _) _).alloc (by simp) _
 have hb1:Below w0.heap.size w0 W1:=hb0.trans (hbw.mono hb0.size);have hI1:I [] O0 W1:=hI _ _ _ _ h0 (Kept.of_new _ hbw);have hN1:∀ k,O0 k→k≠w.heap.size∧k≠w.heap.size+1:=fun k hk=>by have:=hIn _ _ _ h0 k hk;omega
 refine (hseq (n - 1) (w.heap.size+1)
  (fun pre O W=>∃ O0,(∀ k,O k ↔ O0 k∨k=w.heap.size∨k=w.heap.size+1)∧I pre O0 W∧(∀ k,O0 k→k≠w.heap.size∧k≠w.heap.size+1)∧W.heap[w.heap.size+1]?=some (mk .ready none)∧W.heap[w.heap.size]?=some (.deferred (some [])))
  (fun pre W=>∃ O0,Ix pre O0 W∧(∀ k,O0 k→k≠w.heap.size∧k≠w.heap.size+1)∧W.heap[w.heap.size+1]?=some (mk .done (some .ret))∧W.heap[w.heap.size]?=some (.deferred (some [])))
  W1 hb1 ?loc ?inn ?rounds (fun k=>O0 k∨k=w.heap.size∨k=w.heap.size+1) ⟨O0,fun k=>Iff.rfl,hI1,hN1,hL1,hD1⟩).mono ?behind
 case loc=>
  rintro xs O W W' ⟨O1,hO,h1,h2,h3,h4⟩ hk;exact⟨O1,hO,hI _ _ _ _ h1 (hk.mono fun k _ h h2=>h ((hO k).2 (.inl h2))),h2,(hk.block _ (Array.getElem?_eq_some_iff.1 h3).1 (fun h=>h ((hO _).2 (.inr (.inr rfl))))).trans h3,(hk.block _ (Array.getElem?_eq_some_iff.1 h4).1 (fun h=>h ((hO _).2 (.inr (.inl rfl))))).trans h4⟩
 case inn=>
  rintro xs O W ⟨O1,hO,h1,h2,h3,h4⟩ k hk;rcases (hO k).1 hk with h | rfl | rfl
  ·exact hIn _ _ _ h1 k h
  ·exact (Array.getElem?_eq_some_iff.1 h4).1
  ·exact (Array.getElem?_eq_some_iff.1 h3).1
 case rounds=>
  rintro pre x vs O W ⟨O1,hO,hi1,hn1,hl,hk⟩ hok;have hlt:w.heap.size+1 < W.heap.size:=(Array.getElem?_eq_some_iff.1 hl).1;have hy:=hl;rw[hmk] at hy;have hyr:=run_yield (P:=P) (args:=vs) hy (by simp[hps _ _ _ _ _ hok]);refine⟨fn,_,assign,body,hyr,roundIn_of_wpIn hfn (hassign _ pre x vs O W _ hok ⟨_,run_beginRound hy rfl,?_⟩)⟩;have eb:(Obj.loop { state:=.busy,pending:=none,fn,tmps:=a.tmps,params:=ps,assign,body,defers:=w.heap.size })=mk .busy none:=by rw[hmk]
  have nL:¬ O1 (w.heap.size+1):=fun h=>(hn1 _ h).2 rfl;have nD:¬ O1 w.heap.size:=fun h=>(hn1 _ h).1 rfl;obtain⟨W2,hW2⟩:∃ W2,W2=W.putObj (w.heap.size+1) (mk .busy none):=⟨_,rfl⟩
  have hsz2:W2.heap.size=W.heap.size:=by rw[hW2];simp
  have hgoal:body.wpIn (Fence.wide.inRound (w.heap.size+1)) (n - 1 - 1) P (EndsO lo I Ix O1 (pre ++ [x]) W2) (a₁ vs) W2:=
   hbody _ pre x vs O1 W2 (by omega) (by rw[hW2];exact hI.putObj hi1 nL _) (by rw[hW2];exact hOk _ _ _ _ O1 _ _ _ _ hok (fun k h=>(hO k).2 (.inl h)) hl (hcells _ _))
  have hl2:W2.heap[w.heap.size+1]?=some (mk .busy none):=by rw[hW2];exact World.putObj_heap_same hlt
  have hk2:W2.heap[w.heap.size]?=some (.deferred (some [])):=by rw[hW2];exact (World.putObj_heap_other (by omega)).trans hk
  have hkw:Kept (fun k=>O k∧lo≤k) W W2:=by rw[hW2];exact (Kept.refl _ W).putObjO (.inl ⟨(hO _).2 (.inr (.inr rfl)),Nat.le_succ_of_le hlw⟩) _
  have hl2s:w.heap.size+1 < W2.heap.size:=by omega
  have fin:∀ (st:LoopState) (jump:Option Code) (W3:World),(st=if jump.isNone then .ready else .done)→Kept (fun k=>O1 k∧lo≤k) W2 W3→
    (Instr.endRound (w.heap.size+1) jump).run P W3=.ok (.bool jump.isNone) (W3.putObj (w.heap.size+1) (mk st jump))∧
    (W3.putObj (w.heap.size+1) (mk st jump)).heap[w.heap.size+1]?=some (mk st jump)∧(W3.putObj (w.heap.size+1) (mk st jump)).heap[w.heap.size]?=some (.deferred (some [])):=by
   intro st jump W3 hst hk3;subst hst;have hl3:=(hk3.block _ hl2s (fun h=>nL h.1)).trans hl2;have hl3':=hl3;rw[hmk] at hl3';have hr:=run_endRound (P:=P) jump hl3';exact⟨by rw[hmk];exact hr,World.putObj_heap_same (Array.getElem?_eq_some_iff.1 hl3).1,(World.putObj_heap_other (by omega)).trans ((hk3.block _ (by omega) (fun h=>nD h.1)).trans hk2)⟩
  have new3:∀ {O3:Blks},NewO O1 O3 W2→∀ k,O3 k→k≠w.heap.size∧k≠w.heap.size+1:=fun hn k hk=>by
   rcases hn k hk with h | h
   ·exact hn1 k h
   ·omega
  show body.wpIn _ _ P _ _ (W.putObj (w.heap.size+1) (.loop { state:=.busy,pending:=none,fn,tmps:=a.tmps,params:=ps,assign,body,defers:=w.heap.size }));rw[eb,← hW2];refine wpIn_mono hgoal ?_;rintro e a3 W3 hp;cases e with
  | normal=>
   obtain⟨O3,hk3,hi3,hn3⟩:=hp;obtain⟨hr,hl4,hk4⟩:=fin .ready none W3 rfl hk3;have n3:=new3 hn3;refine⟨_,_,hr,.inl ⟨rfl,fun k=>O3 k∨k=w.heap.size∨k=w.heap.size+1,⟨O3,fun k=>Iff.rfl,hI.putObj hi3 (fun h=>(n3 _ h).2 rfl) _,n3,hl4,hk4⟩,?_,?_⟩⟩
   ·exact (hkw.trans (hk3.mono fun k _ h=>⟨(hO k).2 (.inl h.1),h.2⟩)).putObjO (.inl ⟨(hO _).2 (.inr (.inr rfl)),Nat.le_succ_of_le hlw⟩) _
   ·intro k hk;rcases hk with h | h
    ·rcases hn3 k h with h | h
     ·exact .inl ((hO k).2 (.inl h))
     ·exact .inr (by omega)
    ·exact .inl ((hO k).2 (.inr h))
  | ret=>
   obtain⟨O3,hk3,hi3,hn3⟩:=hp;obtain⟨hr,hl4,hk4⟩:=fin .done (some .ret) W3 rfl hk3;have n3:=new3 hn3;exact⟨_,_,hr,.inr ⟨rfl,O3,hIx.putObj hi3 (fun h=>(n3 _ h).2 rfl) _,n3,hl4,hk4⟩⟩
  | exit id=>exact (hp:False).elim
  | goto t=>exact (hp:False).elim
  | panic ch=>exact (hp:False).elim
  | outgrown=>exact (hp:False).elim
 case behind=>
  rintro e W2 ⟨⟨v,rfl⟩,(⟨xs,O,hS,O1,hO,hi1,hn1,hl,hk⟩ | ⟨pre,rest,hS,O1,hi1,hn1,hl,hk⟩)⟩
  ·have hl':=hl;rw[hmk] at hl';have hr:=run_endLoop (P:=P) hl' (by simp);exact⟨none,_,hr,hdone _ xs O1 _ (Nat.le_refl _) hS (hI.putObj hi1 (fun h=>(hn1 _ h).2 rfl) _) (fun h=>(hn1 _ h).1 rfl) ((World.putObj_heap_other (by omega)).trans hk)⟩
  ·have hl':=hl;rw[hmk] at hl';have hr:=run_endLoop (P:=P) hl' (by simp);exact⟨some .ret,_,hr,hstop _ pre rest O1 _ (Nat.le_refl _) hS (hIx.putObj hi1 (fun h=>(hn1 _ h).2 rfl) _) (fun h=>(hn1 _ h).1 rfl) ((World.putObj_heap_other (by omega)).trans hk)⟩
set_option maxRecDepth 100000
def Sts (w:World)(A:Option Addr)(bs:List ByteArray):Prop:=Reads w w.heap.size 1 A bs.length (bs.map Value.string)∧bs.length≤9223372036854775807
section
variable {w w' : World} {A : Option Addr} {bs : List ByteArray}
theorem Sts.at_ {k:Nat}(h:Sts w A bs)(hk:k < bs.length):∃ b o,A=some ⟨b,o,none⟩∧b < w.heap.size∧w.cell? ⟨b,o+k,none⟩=some (.string bs[k]):=by
 obtain⟨ad,e,hb,hc⟩:=h.1.2 (by omega);have h0:=hc 0 (.string bs[0]) (by simp);have hk':=hc k (.string bs[k]) (by simp[List.getElem?_eq_getElem hk]);obtain⟨b,o,sp⟩:=ad;obtain rfl:=spot_none h0;rw[addr_add] at hk';exact⟨b,o,e,hb,hk'⟩
theorem Sts.le (h:Sts w A bs):bs.length≤9223372036854775807:=h.2
theorem Sts.ext (h:Sts w A bs)(hb:Below w.heap.size w w'):Sts w' A bs:=⟨(Reads.below h.1 hb).more hb.size,h.2⟩
theorem Sts.drewN (h:Sts w A bs)(n:Nat):Sts (w.drewN n) A bs:=h
theorem Sts.putObj (h:Sts w A bs){l:Nat}{o:Obj}(hl:w.heap[l]?=some o)(ho:o.isCells=false)(o':Obj):Sts (w.putObj l o') A bs:=by
 refine⟨⟨h.1.1,fun hn=>?_⟩,h.2⟩;obtain⟨ad,e,hb,hc⟩:=h.1.2 hn;refine⟨ad,e,by simpa using hb,fun j u hj=>?_⟩;have hu:=hc j u hj;have hne:(ad.add j).block≠l:=fun e2=>by
  rw[World.cell?,e2,hl] at hu;cases o <;> first | (cases ho;done) | (simp at hu;done)
 exact (World.cell?_of_block (World.putObj_heap_other hne)).trans hu
theorem Sts.kept {S:Nat→Prop}(h:Sts w A bs)(hk:Kept S w w')(hs:∀ ad,A=some ad→0 < bs.length→¬ S ad.block):Sts w' A bs:=by
 refine⟨⟨h.1.1,fun hn=>?_⟩,h.2⟩;obtain⟨ad,e,hb,hc⟩:=h.1.2 hn;refine⟨ad,e,Nat.lt_of_lt_of_le hb hk.below.size,fun j u hj=>?_⟩;have hu:=hc j u hj;have hbl:(ad.add j).block=ad.block:=by unfold Addr.add;split <;> rfl
 rw[← hu];exact hk.cell (by rw[hbl];exact hb) (by rw[hbl];exact hs ad e hn)
end
def OwnS (T:TypeId)(w:World)(base:Nat)(v:Value)(bs:List ByteArray):Prop:=w.ownsRow base T 1 v bs.length (bs.map Value.string)
theorem OwnS.sts {T:TypeId}{w:World}{base:Nat}{v:Value}{bs:List ByteArray}(h:OwnS T w base v bs):∃ A c,v=.slice A bs.length c∧Sts w A bs∧NewA base A:=own_form h
theorem OwnS.nil (T:TypeId)(w:World)(base:Nat):OwnS T w base (.slice none 0 0) []:=World.ownsRow_nil _ _ _ _
theorem OwnS.ext {T:TypeId}{w w':World}{base:Nat}{v:Value}{bs:List ByteArray}(h:OwnS T w base v bs)(hb:Below w.heap.size w w'):OwnS T w' base v bs:=own_below h hb
set_option maxRecDepth 100000
def OwnR0 (T:TypeId)(w:World)(base:Nat)(v:Value)(hs:List Rh):Prop:=w.ownsRow base T 2 v hs.length (hs.flatMap Rh.cells)
theorem OwnR0.nil (T:TypeId)(w:World)(base:Nat):OwnR0 T w base (.slice none 0 0) []:=World.ownsRow_nil _ _ _ _
theorem OwnR0.form {T:TypeId}{w:World}{base:Nat}{v:Value}{hs:List Rh}(h:OwnR0 T w base v hs):∃ A c,v=.slice A hs.length c∧NewA base A:=by
 obtain⟨A,c,e,h1,h2⟩:=own_form h;exact⟨A,c,e,h2⟩
theorem OwnR0.rws {T:TypeId}{w w0:World}{base:Nat}{A:Option Addr}{n c:Nat}{hs:List Rh}(h:OwnR0 T w base (.slice A n c) hs)(hb:Below w0.heap.size w0 w)(hr:∀ x ∈ hs,Ints w0 x.A x.zs):Rws w A hs:=by
 obtain⟨A',c',e,h1,h2⟩:=own_form h;injection e with e1 e2 e3
 subst e1;exact⟨h1.1,h1.2,fun x hx=>(hr x hx).ext hb⟩
theorem wpList_pushR1 {P:Program}{wr:World}{ops:Array Oper}{rest:List Oper}{o:Oper}{a:Act}{Q:Exit→Act→World→Prop}(hgd:o.guard=none)(s x:Operand)(t:TypeId)
  (ho:o.op=.call { callee:=.builtin .append,args:=#[s,x],argTypes:=#[t,t] })
  (base:Nat) (T:TypeId) (ht:P.underlying t=some (.slice T)) (hi:(P.info? T).map (fun i=>(i.zero,i.size,i.bytes))=some (some (.agg #[.slice none 0 0,.int .i64 0]),2,32))
  (v:Value) (hs:List Rh) (hse:a.eval s=v) (hown:OwnR0 T wr base v hs)
  (y:Rh) (hx:a.eval x=.slice (some ⟨wr.heap.size,0,none⟩) 1 1)
  (hn:hs.length < 1000000000000) (hbase:base≤wr.heap.size)
  (h:∀ v' w',OwnR0 T w' base v' (hs ++ [y])→Kept (fun g=>v.ownBlock=some g) wr w'→(v'.ownBlock=v.ownBlock∨∃ g,v'.ownBlock=some g∧wr.heap.size≤g)→wpList P ops Q rest (a.put o.dst v') w') :
  wpList P ops Q (o :: rest) a (wr.alloc (.cells #[.slice y.A y.zs.length y.c,.int .i64 y.out] T)):=by
 obtain⟨i0,hi0,hz0,hz1,hz2⟩:=info_parts hi;refine wpList_append_own_at _ hgd s x t ho base T i0 _ 2 32 ht hi0 hz0 hz1 hz2 rfl (by decide) v hs.length _ hse (World.ownsRow.alloc hown _) ⟨wr.heap.size,0,none⟩ 1 1 [.slice y.A y.zs.length y.c,.int .i64 y.out] hx (by simp) ?_ (by simp[Value.oneCell']) (by unfold maxLen;omega) (by omega) (by simp;omega) ?_
 ·intro j u hu;rw[addr_add];have:(wr.alloc (.cells #[.slice y.A y.zs.length y.c,.int .i64 y.out] T)).cell? ⟨wr.heap.size,0+j,none⟩=#[Value.slice y.A y.zs.length y.c,.int .i64 y.out][0+j]?:=cell_of_row _ _ _ _ _ _ (heap_alloc_new wr _);rw[this];simpa using hu
 ·intro v' w' hown' hg _ hat;have hk:Kept (fun g=>v.ownBlock=some g) wr w':=((Kept.refl _ wr).alloc _).grown hg fun g hg=>Or.inl hg;refine h v' w' ?_ hk ?_
  rotate_left
  ·rcases hat with hat | hat
   ·exact .inl hat
   ·exact .inr ⟨_,hat,by simp⟩
  unfold OwnR0;rw[List.length_append,List.flatMap_append];exact hown'
end Go.Proofs.YtcmbdhopmncmnaaGreatDoor
namespace Go.Proofs.YtcmbdhopmncmnaaGreatDoor
open Go.RowKit Go.Maps
set_option maxRecDepth 100000
set_option linter.unusedVariables false
set_option linter.unusedSimpArgs false
theorem Pts.kept {w w':World}{A:Option Addr}{ps:List (Int × Int)}{S:Nat→Prop}(h:Pts w A ps)(hk:Kept S w w')(hs:∀ ad,A=some ad→¬ S ad.block):Pts w' A ps:=by
 refine⟨⟨h.1.1,fun hn=>?_⟩,h.2⟩;obtain⟨ad,e,hb,hc⟩:=h.1.2 hn;refine⟨ad,e,Nat.lt_of_lt_of_le hb hk.below.size,fun j u hj=>?_⟩;have hbl:(ad.add j).block=ad.block:=by unfold Addr.add;split <;> rfl
 rw[← hc j u hj];exact hk.cell (by rw[hbl];exact hb) (by rw[hbl];exact hs ad e)
theorem Ints.kept {w w':World}{A:Option Addr}{zs:List Int}{S:Nat→Prop}(h:Ints w A zs)(hk:Kept S w w')(hs:∀ ad,A=some ad→¬ S ad.block):Ints w' A zs:=by
 refine⟨⟨h.1.1,fun hn=>?_⟩,h.2⟩;obtain⟨ad,e,hb,hc⟩:=h.1.2 hn;refine⟨ad,e,Nat.lt_of_lt_of_le hb hk.below.size,fun j u hj=>?_⟩;have hbl:(ad.add j).block=ad.block:=by unfold Addr.add;split <;> rfl
 rw[← hc j u hj];exact hk.cell (by rw[hbl];exact hb) (by rw[hbl];exact hs ad e)
abbrev OwnVA (w:World)(base:Nat)(v:Value)(hs:List Vh):Prop:=OwnV 30 3 w base v hs
abbrev OwnRA (w:World)(base:Nat)(v:Value)(hs:List Rh):Prop:=OwnR0 48 w base v hs
def parC (s:PSt)(hv vv rv:Value)(M:Nat):Array Value:=#[.int .i64 s.t.st,.int .i64 s.t.sym,hv,vv,rv,.map (some M),.int .i64 (s.head:Int)]
structure PrM (O:Blks)(base gp M:Nat)(hA:Option Addr)(hc:Nat)(vv rv:Value)(vs:List Vh)(rs:List Rh)(D:DataW Unit)(s:PSt)(w:World):Prop where
 blk:Blk w gp 66 (parC s (.slice hA s.t.hood.length hc) vv rv M)
 hood:Pts w hA s.t.hood
 vars:OwnVA w base vv vs
 rows:OwnRA w base rv rs
 rins:∀ x ∈ rs,Ints w x.A x.zs
 map:MapA w M s.names.length D
 known:KnownW D s.names
 evs:vs.map Vh.zs=s.t.vars
 ers:rs.map Rh.rw_=s.t.rows
 nms:s.names.length=s.t.vars.length
 og:O gp
 om:O M
 oh:∀ ad,hA=some ad→O ad.block
 ov:∀ g,vv.ownBlock=some g→O g
 ovs:∀ x ∈ vs,∀ g,x.val.ownBlock=some g→O g
 orv:∀ g,rv.ownBlock=some g→O g
 ors:∀ x ∈ rs,∀ ad,x.A=some ad→O ad.block
 hx:∀ x ∈ rs,∀ ad,x.A=some ad→ad.block≠gp∧ad.block≠M∧vv.ownBlock≠some ad.block∧rv.ownBlock≠some ad.block
 hg:∀ ad,hA=some ad→ad.block≠gp∧ad.block≠M∧vv.ownBlock≠some ad.block∧rv.ownBlock≠some ad.block
 inO:InO O w
section
variable {O O' : Blks} {base gp M : Nat} {hA : Option Addr} {hc : Nat} {vv rv : Value} {vs : List Vh} {rs : List Rh} {D : DataW Unit} {s : PSt} {w w' : World}
theorem PrM.kept (h:PrM O base gp M hA hc vv rv vs rs D s w)(hk:Kept (fun k=>¬ O k) w w'):PrM O base gp M hA hc vv rv vs rs D s w':=
 ⟨hk.blk h.blk (fun k=>k h.og),h.hood.kept hk (fun ad e k=>k (h.oh ad e)),h.vars.kept hk (fun g e k=>k (h.ov g e)) (fun x hx g e k=>k (h.ovs x hx g e)),hk.own h.rows (fun g e k=>k (h.orv g e)),fun x hx=>(h.rins x hx).kept hk (fun ad e k=>k (h.ors x hx ad e)),hk.map h.map (fun k=>k h.om),
  h.known,h.evs,h.ers,h.nms,h.og,h.om,h.oh,h.ov,h.ovs,h.orv,h.ors,h.hx,h.hg,fun k hk2=>Nat.lt_of_lt_of_le (h.inO k hk2) hk.below.size⟩
theorem PrM.ext (h:PrM O base gp M hA hc vv rv vs rs D s w)(hb:Below w.heap.size w w'):PrM O base gp M hA hc vv rv vs rs D s w':=h.kept (Kept.of_new _ hb)
theorem PrM.wide (h:PrM O base gp M hA hc vv rv vs rs D s w)(ho:∀ k,O k→O' k)(hi:InO O' w):PrM O' base gp M hA hc vv rv vs rs D s w:=
 ⟨h.blk,h.hood,h.vars,h.rows,h.rins,h.map,h.known,h.evs,h.ers,h.nms,ho _ h.og,ho _ h.om,fun ad e=>ho _ (h.oh ad e),fun g e=>ho _ (h.ov g e),fun x hx g e=>ho _ (h.ovs x hx g e),fun g e=>ho _ (h.orv g e),fun x hx ad e=>ho _ (h.ors x hx ad e),h.hx,h.hg,hi⟩
theorem PrM.look (h:PrM O base gp M hA hc vv rv vs rs D s w)(b:ByteArray)(hb:b.size≤2147483648) :
  ∃ v:Int,(∀ n,(Instr.lookup 64 (.map (some M)) (.string b) true).run Tryz.prog (w.drewN n)=.ok (.tuple #[.int .i64 v,.bool (placeW b.data.toList 0 s.names).isSome]) (w.drewN n))∧∀ i,placeW b.data.toList 0 s.names=some i→v=(i:Int):=by
 have hl:b.size≤maxLen:=by unfold maxLen;omega
 have hk:keyOf Tryz.prog 9 (.string b)=some (.string b.data.toList):=WideMaps.keyOf_string_mk (s:=b) Tryz.underlying9 hl;obtain⟨k1,k2⟩:=h.known.2 b.data.toList;have key:∀ n,∃ x:Int,(Instr.lookup 64 (.map (some M)) (.string b) true).run Tryz.prog (w.drewN n)=.ok (.tuple #[.int .i64 x,.bool (placeW b.data.toList 0 s.names).isSome]) (w.drewN n)∧D.atKey (.string b.data.toList) (.lit (.int .i64 0))=.lit (.int .i64 x):=fun n=>by
  have hm:MapA (w.drewN n) M s.names.length D:=h.map;obtain⟨v,ps,hrun,hat⟩:=hm.look_ok Tryz.law Tryz.underlying64 (Tryz.zeroInt _) (plainElem_int Tryz.underlying3 (by decide)) hk;obtain⟨x,rfl,hx,-⟩:=plainElem_int_inv Tryz.underlying3 hat;rw[k1] at hrun;exact⟨x,hrun,congrArg Prod.fst hx⟩
 obtain⟨v,-,hv⟩:=key 0;refine⟨v,fun n=>?_,fun i hi=>?_⟩
 ·obtain⟨x,hx,hx2⟩:=key n;rw[hv] at hx2;injection hx2 with hx2
  injection hx2 with _ hx2
  rw[hx,hx2]
 ·rw[k2 i hi] at hv;injection hv with hv
  injection hv with _ hv
  exact hv.symm
theorem PrM.box (h:PrM O base gp M hA hc vv rv vs rs D s w){s':PSt}{hA':Option Addr}{hc':Nat}{k:Nat}{u:Value}(hs:(parC s (.slice hA s.t.hood.length hc) vv rv M).setIfInBounds k u=parC s' (.slice hA' s'.t.hood.length hc') vv rv M)
  (e1:s'.t.vars=s.t.vars) (e2:s'.t.rows=s.t.rows) (e3:s'.names=s.names) (hh:Pts w hA' s'.t.hood) (oh:∀ ad,hA'=some ad→O ad.block) (hg:∀ ad,hA'=some ad→ad.block≠gp∧ad.block≠M∧vv.ownBlock≠some ad.block∧rv.ownBlock≠some ad.block) :
  PrM O base gp M hA' hc' vv rv vs rs D s' (w.setCell ⟨gp,k,none⟩ u):=by
 have hk:Kept (fun g=>g=gp) w (w.setCell ⟨gp,k,none⟩ u):=(Kept.refl (fun g=>g=gp) w).setCell (p:=⟨gp,k,none⟩) (Or.inl rfl) u;refine⟨by have:=h.blk.set_ k u;rw[hs] at this;exact this,hh.kept hk (fun ad e=>(hg ad e).1),h.vars.kept hk (fun g e1 e2=>by subst e2;exact own_blk_ne' h.vars.1 h.blk (by decide) e1) (fun x hx g e1 e2=>by subst e2;exact own_blk_ne' (h.vars.2 x hx) h.blk (by decide) e1),
  hk.own h.rows (fun g e1 e2=>by subst e2;exact own_blk_ne' h.rows h.blk (by decide) e1),fun x hx=>(h.rins x hx).kept hk (fun ad e=>(h.hx x hx ad e).1),by rw[e3];exact hk.map h.map (fun e=>blk_map_ne h.blk h.map e.symm),
  by rw[e3];exact h.known,by rw[e1];exact h.evs,by rw[e2];exact h.ers,by rw[e3,e1];exact h.nms,h.og,h.om,oh,h.ov,h.ovs,h.orv,h.ors,h.hx,hg,fun k hk2=>Nat.lt_of_lt_of_le (h.inO k hk2) hk.below.size⟩
theorem PrM.mapped (h:PrM O base gp M hA hc vv rv vs rs D s w){w8:World}(hg:w.grownBy w8 (some M)):Kept (fun g=>g=M) w w8∧Blk w8 gp 66 (parC s (.slice hA s.t.hood.length hc) vv rv M)∧Pts w8 hA s.t.hood∧OwnVA w8 base vv vs∧OwnRA w8 base rv rs∧∀ x ∈ rs,Ints w8 x.A x.zs:=by
 have k8:Kept (fun g=>g=M) w w8:=(Kept.refl _ w).grown hg fun g e=>by injection e with e;exact .inl e.symm
 exact⟨k8,k8.blk h.blk (fun e=>blk_map_ne h.blk h.map e),h.hood.kept k8 (fun ad e=>(h.hg ad e).2.1),h.vars.kept k8 (fun g e1 e2=>by subst e2;exact own_map_ne h.vars.1 h.map e1) (fun x hx g e1 e2=>by subst e2;exact own_map_ne (h.vars.2 x hx) h.map e1),
  k8.own h.rows (fun g e1 e2=>by subst e2;exact own_map_ne h.rows h.map e1),fun x hx=>(h.rins x hx).kept k8 (fun ad e=>(h.hx x hx ad e).2.1)⟩
theorem PrM.pushVar (h:PrM O base gp M hA hc vv rv vs rs D s w){w8 w9:World}(hg:w.grownBy w8 (some M)){D':DataW Unit}{nm:Wd}(hM:MapA w8 M (s.names.length+1) D')(hkn:KnownW D' (s.names ++ [nm])){x:Vh}{vv':Value}
  (hN:OwnVA w9 base vv' (vs ++ [x])) (hk:Kept (fun g=>vv.ownBlock=some g) w8 w9) (hm:vv'.ownBlock=vv.ownBlock∨∃ g,vv'.ownBlock=some g∧w8.heap.size≤g) (ho:∀ k,O k→O' k) (hx:∀ g,x.val.ownBlock=some g→O' g) (hnew:∀ g,w.heap.size≤g→g < w9.heap.size→O' g) (hin:InO O' w9) :
  PrM O' base gp M hA hc vv' rv (vs ++ [x]) rs D' ⟨s.head,⟨s.t.st,s.t.sym,s.t.hood,s.t.vars ++ [x.zs],s.t.rows⟩,s.names ++ [nm]⟩ (w9.setCell ⟨gp,3,none⟩ vv')∧Kept O w (w9.setCell ⟨gp,3,none⟩ vv')∧Blk w9 gp 66 (parC s (.slice hA s.t.hood.length hc) vv rv M):=by
 obtain⟨k8,b8,p8,v8,r8,i8⟩:=h.mapped hg;have b9:=hk.blk b8 (own_blk_ne' v8.1 b8 (by decide));have m9:=hk.map hM (own_map_ne v8.1 hM);have p9:=p8.kept hk (fun ad e=>(h.hg ad e).2.2.1);have r9:OwnRA w9 base rv rs:=hk.own r8 (fun g e1 e2=>own_ne r8 v8.1 (by decide) e1 e2);have i9:∀ x ∈ rs,Ints w9 x.A x.zs:=fun x hx=>(i8 x hx).kept hk (fun ad e=>(h.hx x hx ad e).2.2.1);have k7:Kept (fun g=>g=gp) w9 (w9.setCell ⟨gp,3,none⟩ vv'):=(Kept.refl (fun g=>g=gp) w9).setCell (p:=⟨gp,3,none⟩) (Or.inl rfl) vv';have hs8:=k8.below.size;have hs9:=hk.below.size;have hvo:∀ g,vv'.ownBlock=some g→O' g:=fun g e=>by
  rcases hm with hm | ⟨g',e',hg'⟩
  ·exact ho _ (h.ov g (by rw[← hm];exact e))
  ·rw[e'] at e;injection e with e
   subst e;exact hnew _ (by omega) (own_lt' hN.1 e').1
 have hxn:∀ x ∈ rs,∀ ad,x.A=some ad→vv'.ownBlock≠some ad.block:=fun x hx ad e e2=>by
  rcases hm with hm | ⟨g',e',hg'⟩
  ·exact (h.hx x hx ad e).2.2.1 (by rw[← hm];exact e2)
  ·rw[e'] at e2;injection e2 with e2
   have:=h.inO _ (h.ors x hx ad e);omega
 have hpn:∀ ad,hA=some ad→vv'.ownBlock≠some ad.block:=fun ad e e2=>by
  rcases hm with hm | ⟨g',e',hg'⟩
  ·exact (h.hg ad e).2.2.1 (by rw[← hm];exact e2)
  ·rw[e'] at e2;injection e2 with e2
   have:=h.inO _ (h.oh ad e);omega
 refine⟨⟨by have:=b9.set_ 3 vv';exact this,p9.kept k7 (fun ad e=>(h.hg ad e).1),hN.kept k7 (fun g e1 e2=>by subst e2;exact own_blk_ne' hN.1 b9 (by decide) e1) (fun x hx g e1 e2=>by subst e2;exact own_blk_ne' (hN.2 x hx) b9 (by decide) e1),
  k7.own r9 (fun g e1 e2=>by subst e2;exact own_blk_ne' r9 b9 (by decide) e1),fun x hx=>(i9 x hx).kept k7 (fun ad e=>(h.hx x hx ad e).1),?_,hkn,?_,h.ers,?_,ho _ h.og,ho _ h.om,fun ad e=>ho _ (h.oh ad e),hvo,?_,fun g e=>ho _ (h.orv g e),fun x hx ad e=>ho _ (h.ors x hx ad e),fun x hx ad e=>⟨(h.hx x hx ad e).1,(h.hx x hx ad e).2.1,hxn x hx ad e,(h.hx x hx ad e).2.2.2⟩,fun ad e=>⟨(h.hg ad e).1,(h.hg ad e).2.1,hpn ad e,(h.hg ad e).2.2.2⟩,fun k hk2=>Nat.lt_of_lt_of_le (hin k hk2) k7.below.size⟩,?_,b9⟩
 ·rw[List.length_append];exact k7.map m9 (fun e=>blk_map_ne b9 m9 e.symm)
 ·rw[List.map_append,h.evs];rfl
 ·rw[List.length_append,List.length_append,h.nms];rfl
 ·intro y hy g e;rcases List.mem_append.1 hy with hy | hy
  ·exact ho _ (h.ovs y hy g e)
  ·rw[List.mem_singleton.1 hy] at e;exact hx g e
 ·exact ((k8.mono fun g _ e=>by rw[e];exact h.om).trans (hk.mono fun g _ e=>h.ov g e)).setCell (p:=⟨gp,3,none⟩) (.inl h.og) vv'
theorem PrM.pushRow (h:PrM O base gp M hA hc vv rv vs rs D s w){w9:World}{x:Rh}{rv':Value}
  (hN:OwnRA w9 base rv' (rs ++ [x])) (hk:Kept (fun g=>rv.ownBlock=some g) w w9) (hm:rv'.ownBlock=rv.ownBlock∨∃ g,rv'.ownBlock=some g∧w.heap.size≤g) (ho:∀ k,O k→O' k) (hxI:Ints w9 x.A x.zs) (hxO:∀ ad,x.A=some ad→O' ad.block)
  (hxd:∀ ad,x.A=some ad→ad.block < w.heap.size∧ad.block≠gp∧ad.block≠M∧vv.ownBlock≠some ad.block∧rv.ownBlock≠some ad.block) (hnew:∀ g,w.heap.size≤g→g < w9.heap.size→O' g) (hin:InO O' w9) :
  PrM O' base gp M hA hc vv rv' vs (rs ++ [x]) D ⟨s.head,⟨s.t.st,s.t.sym,s.t.hood,s.t.vars,s.t.rows ++ [x.rw_]⟩,s.names⟩ (w9.setCell ⟨gp,4,none⟩ rv')∧Kept O w (w9.setCell ⟨gp,4,none⟩ rv')∧Blk w9 gp 66 (parC s (.slice hA s.t.hood.length hc) vv rv M):=by
 have b9:=hk.blk h.blk (own_blk_ne' h.rows h.blk (by decide));have m9:=hk.map h.map (own_map_ne h.rows h.map);have p9:=h.hood.kept hk (fun ad e=>(h.hg ad e).2.2.2);have v9:=h.vars.kept hk (fun g e1 e2=>own_ne h.vars.1 h.rows (by decide) e1 e2) (fun x hx g e1 e2=>own_ne (h.vars.2 x hx) h.rows (by decide) e1 e2);have i9:∀ x ∈ rs,Ints w9 x.A x.zs:=fun x hx=>(h.rins x hx).kept hk (fun ad e=>(h.hx x hx ad e).2.2.2);have k7:Kept (fun g=>g=gp) w9 (w9.setCell ⟨gp,4,none⟩ rv'):=(Kept.refl (fun g=>g=gp) w9).setCell (p:=⟨gp,4,none⟩) (Or.inl rfl) rv';have hs9:=hk.below.size;have hvo:∀ g,rv'.ownBlock=some g→O' g:=fun g e=>by
  rcases hm with hm | ⟨g',e',hg'⟩
  ·exact ho _ (h.orv g (by rw[← hm];exact e))
  ·rw[e'] at e;injection e with e
   subst e;exact hnew _ (by omega) (own_lt' hN e').1
 have far:∀ k,k < w.heap.size→rv.ownBlock≠some k→rv'.ownBlock≠some k:=fun k hk1 hk2 e2=>by
  rcases hm with hm | ⟨g',e',hg'⟩
  ·exact hk2 (by rw[← hm];exact e2)
  ·rw[e'] at e2;injection e2 with e2
   omega
 refine⟨⟨by have:=b9.set_ 4 rv';exact this,p9.kept k7 (fun ad e=>(h.hg ad e).1),v9.kept k7 (fun g e1 e2=>by subst e2;exact own_blk_ne' v9.1 b9 (by decide) e1) (fun x hx g e1 e2=>by subst e2;exact own_blk_ne' (v9.2 x hx) b9 (by decide) e1),
  k7.own hN (fun g e1 e2=>by subst e2;exact own_blk_ne' hN b9 (by decide) e1),?_,k7.map m9 (fun e=>blk_map_ne b9 m9 e.symm),h.known,h.evs,?_,h.nms,ho _ h.og,ho _ h.om,fun ad e=>ho _ (h.oh ad e),fun g e=>ho _ (h.ov g e),fun x hx g e=>ho _ (h.ovs x hx g e),hvo,?_,?_,fun ad e=>⟨(h.hg ad e).1,(h.hg ad e).2.1,(h.hg ad e).2.2.1,far _ (h.inO _ (h.oh ad e)) (h.hg ad e).2.2.2⟩,fun k hk2=>Nat.lt_of_lt_of_le (hin k hk2) k7.below.size⟩,?_,b9⟩
 ·intro y hy;rcases List.mem_append.1 hy with hy | hy
  ·exact (i9 y hy).kept k7 (fun ad e=>(h.hx y hy ad e).1)
  ·rw[List.mem_singleton.1 hy];exact hxI.kept k7 (fun ad e=>(hxd ad e).2.1)
 ·rw[List.map_append,h.ers];rfl
 ·intro y hy ad e;rcases List.mem_append.1 hy with hy | hy
  ·exact ho _ (h.ors y hy ad e)
  ·rw[List.mem_singleton.1 hy] at e;exact hxO ad e
 ·intro y hy ad e;rcases List.mem_append.1 hy with hy | hy
  ·exact⟨(h.hx y hy ad e).1,(h.hx y hy ad e).2.1,(h.hx y hy ad e).2.2.1,far _ (h.inO _ (h.ors y hy ad e)) (h.hx y hy ad e).2.2.2⟩
  ·rw[List.mem_singleton.1 hy] at e;exact⟨(hxd ad e).2.1,(hxd ad e).2.2.1,(hxd ad e).2.2.2.1,far _ (hxd ad e).1 (hxd ad e).2.2.2.2⟩
 ·exact (hk.mono fun g _ e=>h.orv g e).setCell (p:=⟨gp,4,none⟩) (.inl h.og) rv'
end
end Go.Proofs.YtcmbdhopmncmnaaGreatDoor
namespace Go.Proofs.YtcmbdhopmncmnaaGreatDoor
set_option linter.unusedVariables false
set_option maxRecDepth 100000
set_option linter.unusedSimpArgs false
def okW (w:Wd):Bool:=decide (w≠[]) && decide (w.length≤9) && !(decide (1 < w.length) && (w.headD 0 == 48))
theorem numW_bad {w:Wd}(h:okW w=false):numW w = -1:=by
 unfold numW;refine if_pos ?_;unfold okW at h;by_cases h0:w.length=0
 ·exact .inl h0
 ·by_cases h1:9 < w.length
  ·exact .inr (.inl h1)
  ·by_cases h2:1 < w.length∧w.headD 0=48
   ·exact .inr (.inr (.inl h2))
   ·exfalso;have a0:decide (w≠[])=true:=decide_eq_true (fun e=>h0 (by rw[e];rfl));have a1:decide (w.length≤9)=true:=decide_eq_true (by omega);have a2:(decide (1 < w.length) && (w.headD 0 == 48))=false:=by
     by_cases h3:1 < w.length
     ·rw[decide_eq_true h3,Bool.true_and,beq_eq_false_iff_ne];exact fun e=>h2 ⟨h3,e⟩
     ·rw[decide_eq_false h3,Bool.false_and]
    rw[a0,a1,a2] at h;cases h
theorem numW_not {w:Wd}{k:Nat}(hk:k < w.length)(h:dig11 w[k]=false):numW w = -1:=by
 unfold numW;refine if_pos (.inr (.inr (.inr ?_)));cases ha:w.all dig11 with
 | false=>rfl
 | true=>
  rw[List.all_eq_true.1 ha _ (List.getElem_mem hk)] at h;cases h
theorem numW_ok {w:Wd}(h:okW w=true)(hd:∀ c ∈ w,dig11 c=true):numW w=val11 w:=by
 unfold okW at h;simp only[Bool.and_eq_true,decide_eq_true_eq,Bool.not_eq_true',Bool.and_eq_false_iff,decide_eq_false_iff_not,beq_eq_false_iff_ne] at h;unfold numW;rw[if_neg];rintro (h1 | h1 | h1 | h1)
 ·exact h.1.1 (List.eq_nil_of_length_eq_zero h1)
 ·have:=h.1.2;omega
 ·rcases h.2 with h2 | h2
  ·exact h2 h1.1
  ·exact h2 h1.2
 ·rw[List.all_eq_true.2 hd] at h1;cases h1
theorem okW_nil:okW []=false:=rfl
theorem okW_long {w:Wd}(h:9 < w.length):okW w=false:=by
 unfold okW;rw[decide_eq_false (show ¬ (w.length≤9) by omega),Bool.and_false,Bool.false_and]
theorem okW_zero {w:Wd}(h:1 < w.length)(h2:w.headD 0=48):okW w=false:=by
 unfold okW;rw[decide_eq_true h,h2]
 simp
theorem okW_yes {w:Wd}(h0:0 < w.length)(h1:w.length≤9)(h2:¬ (1 < w.length∧w.headD 0=48)):okW w=true:=by
 unfold okW;have a0:decide (w≠[])=true:=decide_eq_true (fun e=>by rw[e] at h0;simp at h0);have a2:(decide (1 < w.length) && (w.headD 0 == 48))=false:=by
  by_cases h3:1 < w.length
  ·rw[decide_eq_true h3,Bool.true_and,beq_eq_false_iff_ne];exact fun e=>h2 ⟨h3,e⟩
  ·rw[decide_eq_false h3,Bool.false_and]
 rw[a0,a2,decide_eq_true h1];rfl
theorem val11_bd {w:Wd}(h:∀ c ∈ w,dig11 c=true):0≤val11 w∧val11 w < 10 ^ w.length:=by
 have key:∀ (l:List UInt8) (hl:∀ c ∈ l,dig11 c=true),0≤val11 l.reverse∧val11 l.reverse < 10 ^ l.length:=by
  intro l;induction l with
  | nil=>intro _;exact⟨by decide,by decide⟩
  | cons c l ih=>
   intro hl;obtain⟨h1,h2⟩:=ih (fun x hx=>hl x (by simp[hx]));have hc:=hl c (by simp);unfold dig11 at hc;rw[Bool.and_eq_true,decide_eq_true_eq,decide_eq_true_eq] at hc;rw[List.reverse_cons,val11_snoc,List.length_cons,Int.pow_succ];omega
 have:=key w.reverse (fun c hc=>h c (List.mem_reverse.1 hc));rw[List.reverse_reverse,List.length_reverse] at this;exact this
theorem val11_bd9 {w:Wd}(h:∀ c ∈ w,dig11 c=true)(hl:w.length≤9):0≤val11 w∧val11 w≤999999999:=by
 obtain⟨h1,h2⟩:=val11_bd h;have h3:(10:Int) ^ w.length≤10 ^ 9:=by
  have:(10:Nat) ^ w.length≤10 ^ 9:=Nat.pow_le_pow_right (by decide) hl;exact_mod_cast this
 have h4:(10:Int) ^ 9=1000000000:=by decide
 omega
theorem take_dig {w:Wd}{k:Nat}(hk:k < w.length)(h:∀ c ∈ w.take k,dig11 c=true)(hd:dig11 w[k]=true):∀ c ∈ w.take (k+1),dig11 c=true:=fun c hc=>by
 rw[List.take_succ_eq_append_getElem hk,List.mem_append,List.mem_singleton] at hc;rcases hc with hc | rfl
 ·exact h c hc
 ·exact hd
theorem val11_take {w:Wd}{k:Nat}(hk:k < w.length):val11 (w.take (k+1))=10*val11 (w.take k)+((w[k].toNat:Int) - 48):=by
 rw[List.take_succ_eq_append_getElem hk,val11_snoc]
theorem headD_get11 {l:List UInt8}(h:0 < l.length):l.headD 0=l[0]:=by
 cases l with
 | nil=>simp at h
 | cons a l=>rfl
def okNm (w:Wd):Bool:=decide (1≤w.length) && decide (w.length≤20) && decide (w≠varW) && !dig11 (w.headD 0)
def anB (c:UInt8):Bool:=alpha11 c || dig11 c
theorem nameW_eq (w:Wd):nameW w=(okNm w && w.all anB):=rfl
theorem nameW_no {w:Wd}(h:okNm w=false):nameW w=false:=by rw[nameW_eq,h];rfl
theorem nameW_bad {w:Wd}{k:Nat}(hk:k < w.length)(h:anB w[k]=false):nameW w=false:=by
 rw[nameW_eq];have:w.all anB=false:=by
  cases ha:w.all anB with
  | false=>rfl
  | true=>
   rw[List.all_eq_true.1 ha _ (List.getElem_mem hk)] at h;cases h
 rw[this,Bool.and_false]
theorem nameW_ok {w:Wd}(h:okNm w=true)(ha:(w.take w.length).all anB=true):nameW w=true:=by
 rw[List.take_length] at ha;rw[nameW_eq,h,ha];rfl
theorem an_take {w:Wd}{k:Nat}(hk:k < w.length)(h:(w.take k).all anB=true)(hb:anB w[k]=true):(w.take (k+1)).all anB=true:=by
 rw[List.take_succ_eq_append_getElem hk,List.all_append,h];simp[hb]
def lowB (b:Nat):Nat:=b ||| 32
theorem lowB_alpha:∀ b:Fin 256,(decide (97≤lowB b.1) && decide (lowB b.1≤122))=((decide (97≤b.1) && decide (b.1≤122)) || (decide (65≤b.1) && decide (b.1≤90))):=by decide
theorem alpha_low (b:UInt8):alpha11 b=(decide (97≤lowB b.toNat) && decide (lowB b.toNat≤122)):=(lowB_alpha ⟨b.toNat,b.toNat_lt⟩).symm
end Go.Proofs.YtcmbdhopmncmnaaGreatDoor
namespace Go.Proofs.YtcmbdhopmncmnaaGreatDoor
open Lib(hid)
open Go.RowKit
set_option maxRecDepth 100000
set_option linter.unusedVariables false
set_option linter.unusedSimpArgs false
set_option maxHeartbeats 4000000 in
theorem cline_any (w:World):Calls Tryz.prog 99 #[] w (RetPts lineL w):=by
 have h1:OwnP 43 (w.alloc (.cells #[.int .i64 (-1),.int .i64 0,.int .i64 0,.int .i64 0,.int .i64 1,.int .i64 0] 43)) w.heap.size (.slice (some ⟨w.heap.size,0,none⟩) 3 3) lineL:=
  World.ownsRow_lit (base:=w.heap.size) (e:=43) (size:=2) w #[.int .i64 (-1),.int .i64 0,.int .i64 0,.int .i64 0,.int .i64 1,.int .i64 0] 3 (Nat.le_refl _) (by decide) rfl
 obtain⟨A,c,e,hp,hn⟩:=h1.pts;injection e with e e2 e3
 subst e;clear e2 e3;have HP:=hid (And.intro hp hn);clear hp hn h1;go_enter Tryz.func99,Tryz.ntmps99;go_wp2;go_ret;exact⟨_,_,rfl,HP.out.1,HP.out.2,below_new _ _⟩
theorem moore_list:mooreL 1=mooreP:=by decide
theorem neum_list:neumL 1=neumP:=by decide
theorem hex_list:hexL=hexP:=by decide
def namedL (w:Wd):List (Int × Int):=match placeW w 0 hoodsW with
 | none=>[]
 | some k=>hoodsP.getD k []
theorem str_eq (s:ByteArray)(c:List UInt8):(s.toList == c)=decide (s.data.toList=c):=by
 rw[ByteArray.toList_eq];by_cases h:s.data.toList=c
 ·rw[decide_eq_true h,beq_iff_eq];exact h
 ·rw[decide_eq_false h,beq_eq_false_iff_ne];exact h
theorem placeW_hit {w x:Wd}{k:Nat}{l:List Wd}(h:x=w):placeW w k (x :: l)=some k:=if_pos h
theorem placeW_miss {w x:Wd}{k:Nat}{l:List Wd}(h:¬ x=w):placeW w k (x :: l)=placeW w (k+1) l:=if_neg h
set_option maxHeartbeats 8000000 in
theorem cnamed_any (s:ByteArray)(w:World):Calls Tryz.prog 55 #[.string s] w fun e w'=>∃ A c,e=.returned (.slice A (namedL s.data.toList).length c)∧Pts w' A (namedL s.data.toList)∧NewA w.heap.size A∧Below w.heap.size w w'∧(namedL s.data.toList=[]→A=none∧c=0):=by
 have d1:=str_eq s [109,111,111,114,101];have d2:=str_eq s [110,101,117,109,97,110,110];have d3:=str_eq s [104,101,120];have d4:=str_eq s [108,105,110,101];obtain⟨l,hl⟩:∃ l,l=s.data.toList:=⟨_,rfl⟩
 rw[← hl] at d1 d2 d3 d4 ⊢;clear hl;have HL:Hid (∃ zs,zs=namedL l):=hid ⟨_,rfl⟩;obtain⟨zs,hz⟩:=HL.out;rw[← hz];unfold namedL hoodsW at hz;by_cases h1:l=[109,111,111,114,101]
 ·rw[decide_eq_true h1] at d1;rw[placeW_hit h1.symm] at hz;have HZ:=hid (hz.trans (show (hoodsP.getD 0 []:List (Int × Int))=mooreL 1 from moore_list.symm));have HC:=hid (moore_any 1 (by omega) w);clear h1 hz d2 d3 d4;go_enter Tryz.func55,Tryz.ntmps55;go_wp2_with (go_at_call 96;refine HC.out.mono ?_;rintro e w' ⟨A,c,rfl,hp,hn,hb⟩;refine Hid.out ?_);refine hid ?_;have HP:=hid (And.intro hp (And.intro hn hb));clear hp hn hb HC;go_wp2;go_ret;rw[HZ.out];exact⟨_,_,rfl,HP.out.1,HP.out.2.1,HP.out.2.2,fun h=>absurd h (by decide)⟩
 rw[decide_eq_false h1] at d1;rw[placeW_miss (fun e=>h1 e.symm)] at hz;by_cases h2:l=[110,101,117,109,97,110,110]
 ·rw[decide_eq_true h2] at d2;rw[placeW_hit h2.symm] at hz;have HZ:=hid (hz.trans (show (hoodsP.getD 1 []:List (Int × Int))=neumL 1 from neum_list.symm));have HC:=hid (neum_any 1 (by omega) w);clear h1 h2 hz d3 d4;go_enter Tryz.func55,Tryz.ntmps55;go_wp2_with (go_at_call 97;refine HC.out.mono ?_;rintro e w' ⟨A,c,rfl,hp,hn,hb⟩;refine Hid.out ?_);refine hid ?_;have HP:=hid (And.intro hp (And.intro hn hb));clear hp hn hb HC;go_wp2;go_ret;rw[HZ.out];exact⟨_,_,rfl,HP.out.1,HP.out.2.1,HP.out.2.2,fun h=>absurd h (by decide)⟩
 rw[decide_eq_false h2] at d2;rw[placeW_miss (fun e=>h2 e.symm)] at hz;by_cases h3:l=[104,101,120]
 ·rw[decide_eq_true h3] at d3;rw[placeW_hit h3.symm] at hz;have HZ:=hid (hz.trans (show (hoodsP.getD 2 []:List (Int × Int))=hexL from hex_list.symm));have HC:=hid (hex_any w);clear h1 h2 h3 hz d4;go_enter Tryz.func55,Tryz.ntmps55;go_wp2_with (go_at_call 98;refine HC.out.mono ?_;rintro e w' ⟨A,c,rfl,hp,hn,hb⟩;refine Hid.out ?_);refine hid ?_;have HP:=hid (And.intro hp (And.intro hn hb));clear hp hn hb HC;go_wp2;go_ret;rw[HZ.out];exact⟨_,_,rfl,HP.out.1,HP.out.2.1,HP.out.2.2,fun h=>absurd h (by decide)⟩
 rw[decide_eq_false h3] at d3;rw[placeW_miss (fun e=>h3 e.symm)] at hz;by_cases h4:l=[108,105,110,101]
 ·rw[decide_eq_true h4] at d4;rw[placeW_hit h4.symm] at hz;have HZ:=hid (hz.trans (show (hoodsP.getD 3 []:List (Int × Int))=lineL from rfl));have HC:=hid (cline_any w);clear h1 h2 h3 h4 hz;go_enter Tryz.func55,Tryz.ntmps55;go_wp2_with (go_at_call 99;refine HC.out.mono ?_;rintro e w' ⟨A,c,rfl,hp,hn,hb⟩;refine Hid.out ?_);refine hid ?_;have HP:=hid (And.intro hp (And.intro hn hb));clear hp hn hb HC;go_wp2;go_ret;rw[HZ.out];exact⟨_,_,rfl,HP.out.1,HP.out.2.1,HP.out.2.2,fun h=>absurd h (by decide)⟩
 rw[decide_eq_false h4] at d4;rw[placeW_miss (fun e=>h4 e.symm)] at hz;have HZ:=hid (show zs=[] from hz);clear h1 h2 h3 h4 hz;go_enter Tryz.func55,Tryz.ntmps55;go_wp2;go_ret;rw[HZ.out];exact⟨none,0,rfl,Pts.nil,NewA.none_ _,Below.refl _ _,fun _=>⟨rfl,rfl⟩⟩
theorem byte11 (s:ByteArray):∀ j (h:j < s.size)(h':j < s.data.toList.length),s.data.toList[j]=s[j]:=fun j h h'=>rfl
def numV (w:Wd):Int × Bool:=if numW w < 0 then (0,false) else (numW w,true)
theorem numV_no {w:Wd}(h:numW w = -1):numV w=(0,false):=by unfold numV;rw[h];rfl
theorem numV_yes {w:Wd}{z:Int}(h:numW w=z)(h0:0≤z):numV w=(z,true):=by unfold numV;rw[h,if_neg (by omega)]
set_option maxHeartbeats 4000000 in
theorem number_any (s:ByteArray)(w:World)(hs:s.size≤2147483648):Calls Tryz.prog 89 #[.string s] w fun e w'=>e=.returned (.tuple #[.int .i64 (numV s.data.toList).1,.bool (numV s.data.toList).2])∧w'=w:=by
 obtain⟨l,hl⟩:∃ l,l=s.data.toList:=⟨_,rfl⟩
 have hgb:∀ j (h:j < s.size) (h':j < l.length),l[j]=s[j]:=by subst hl;exact byte11 s
 have hlen:l.length=s.size:=by rw[hl];rfl
 rw[← hl];have HG:=hid (And.intro hlen hgb);clear hl hgb hlen;by_cases h0:s.size=0
 ·have HN:Hid (numW l = -1):=hid (numW_bad (by rw[List.eq_nil_of_length_eq_zero (HG.out.1.trans h0)];exact okW_nil));have d0:decide ((s.size:Int) < 1)=true:=decide_eq_true (by omega);clear h0;go_enter Tryz.func89,Tryz.ntmps89;go_wp2;go_ret2;exact⟨by rw[numV_no HN.out] <;> rfl,rfl⟩
 have d0:decide ((s.size:Int) < 1)=false:=decide_eq_false (by omega);by_cases h1:9 < s.size
 ·have HN:Hid (numW l = -1):=hid (numW_bad (okW_long (by rw[HG.out.1];exact h1)));have d1:decide ((9:Int) < (s.size:Int))=true:=decide_eq_true (by omega);go_enter Tryz.func89,Tryz.ntmps89;go_wp2;go_ret2;exact⟨by rw[numV_no HN.out] <;> rfl,rfl⟩
 have d1:decide ((9:Int) < (s.size:Int))=false:=decide_eq_false (by omega);have h00:0 < s.size:=by omega
 have h0l:0 < l.length:=by rw[HG.out.1];exact h00
 have e0:l.headD 0=s[0]:=by rw[headD_get11 h0l];exact HG.out.2 0 h00 h0l
 by_cases h2:1 < s.size
 ·have d2:decide ((1:Int) < (s.size:Int))=true:=decide_eq_true (by omega);by_cases h3:s[0]=48
  ·have HN:Hid (numW l = -1):=hid (numW_bad (okW_zero (by rw[HG.out.1];exact h2) (by rw[e0];exact h3)));have e3:((s[0].toNat:Int) == 48)=true:=by rw[h3];rfl
   clear h3 e0;go_enter Tryz.func89,Tryz.ntmps89;go_wp2;go_ret2;exact⟨by rw[numV_no HN.out] <;> rfl,rfl⟩
  ·have HOK:Hid (okW l=true):=hid (okW_yes h0l (by rw[HG.out.1];omega) (fun h=>h3 (by rw[← e0];exact h.2)));have e3:((s[0].toNat:Int) == 48)=false:=by
    simp only[beq_eq_false_iff_ne,ne_eq];intro h;exact h3 (UInt8.toNat_inj.1 (by have:(48:UInt8).toNat=48:=rfl;omega))
   clear h3 e0;go_enter Tryz.func89,Tryz.ntmps89;go_wp2;go_loopw [4,26] (fun n i wr=>∃ k:Nat,k≤s.size∧i=.int .i64 k∧n=.int .i64 (val11 (l.take k))∧wr=w∧Hid (∀ c ∈ l.take k,dig11 c=true)) (fun _ i _=>s.size - (intOf i).toNat)
   case atStart=>exact⟨0,Nat.zero_le _,rfl,rfl,rfl,hid (fun c h=>by cases h)⟩
   case round=>
    obtain⟨k,hk,rfl,rfl,hw,HT⟩:=hrel;have hw2:=hw.symm;clear hw;subst hw2;have hnb:=val11_bd9 HT.out (by rw[List.length_take,HG.out.1];omega);by_cases hlt:k < s.size
    ·have hlt':k < l.length:=by rw[HG.out.1];exact hlt
     have hc0:(s[k].toNat:Int)≤255:=by have:=s[k].toNat_lt;omega
     have hdg:dig11 l[k]=(decide ((48:Int)≤s[k].toNat) && decide ((s[k].toNat:Int)≤57)):=by
      rw[HG.out.2 k hlt hlt'];unfold dig11
      congr 1
      ·exact decide_eq_decide.2 (by omega)
      ·exact decide_eq_decide.2 (by omega)
     have htk:=val11_take hlt';rw[HG.out.2 k hlt hlt'] at htk;have HD:=hid hdg;have HTK:=hid htk;have HAK:Hid (dig11 l[k]=true→∀ c ∈ l.take (k+1),dig11 c=true):=hid (fun h=>take_dig hlt' HT.out h);have HNO:Hid (dig11 l[k]=false→numW l = -1):=hid (fun h=>numW_not hlt' h);have HLT:=hid hlt;clear hdg htk;obtain⟨m,hm⟩:∃ m,m=val11 (l.take k):=⟨_,rfl⟩
     rw[← hm] at hnb HTK;rw[← hm];clear hm;by_cases h4:(s[k].toNat:Int) < 48
     ·have HN:=hid (HNO.out (by rw[HD.out,decide_eq_false (by omega)];rfl));go_wp2;go_ret2;exact⟨by rw[numV_no HN.out] <;> rfl,rfl⟩
     ·by_cases h5:(57:Int) < s[k].toNat
      ·have HN:=hid (HNO.out (by rw[HD.out,decide_eq_false (p:=(s[k].toNat:Int)≤57) (by omega),Bool.and_false]));go_wp2;go_ret2;exact⟨by rw[numV_no HN.out] <;> rfl,rfl⟩
      ·have HN:=hid (HAK.out (by rw[HD.out,decide_eq_true (by omega),decide_eq_true (by omega)];rfl));go_wp2;go_roundw
       case rel=>exact⟨k+1,HLT.out,by go_num,by rw[HTK.out],(by first | rfl | trivial),HN⟩
       case measure=>simp[intOf];omega
    ·obtain rfl:k=s.size:=by omega
     have HN:Hid (numW l=val11 (l.take s.size)):=hid (by rw[numW_ok HOK.out (by have:=HT.out;rwa [← HG.out.1,List.take_length] at this),← HG.out.1,List.take_length]);have HV0:=hid hnb.1;go_wp2;go_ret2;exact⟨by rw[numV_yes HN.out HV0.out] <;> rfl,rfl⟩
 ·have d2:decide ((1:Int) < (s.size:Int))=false:=decide_eq_false (by omega);have HOK:Hid (okW l=true):=hid (okW_yes h0l (by rw[HG.out.1];omega) (fun h=>h2 (by rw[← HG.out.1];exact h.1)));clear e0;go_enter Tryz.func89,Tryz.ntmps89;go_wp2;go_loopw [4,26] (fun n i wr=>∃ k:Nat,k≤s.size∧i=.int .i64 k∧n=.int .i64 (val11 (l.take k))∧wr=w∧Hid (∀ c ∈ l.take k,dig11 c=true)) (fun _ i _=>s.size - (intOf i).toNat)
  case atStart=>exact⟨0,Nat.zero_le _,rfl,rfl,rfl,hid (fun c h=>by cases h)⟩
  case round=>
   obtain⟨k,hk,rfl,rfl,hw,HT⟩:=hrel;have hw2:=hw.symm;clear hw;subst hw2;have hnb:=val11_bd9 HT.out (by rw[List.length_take,HG.out.1];omega);by_cases hlt:k < s.size
   ·have hlt':k < l.length:=by rw[HG.out.1];exact hlt
    have hc0:(s[k].toNat:Int)≤255:=by have:=s[k].toNat_lt;omega
    have hdg:dig11 l[k]=(decide ((48:Int)≤s[k].toNat) && decide ((s[k].toNat:Int)≤57)):=by
     rw[HG.out.2 k hlt hlt'];unfold dig11
     congr 1
     ·exact decide_eq_decide.2 (by omega)
     ·exact decide_eq_decide.2 (by omega)
    have htk:=val11_take hlt';rw[HG.out.2 k hlt hlt'] at htk;have HD:=hid hdg;have HTK:=hid htk;have HAK:Hid (dig11 l[k]=true→∀ c ∈ l.take (k+1),dig11 c=true):=hid (fun h=>take_dig hlt' HT.out h);have HNO:Hid (dig11 l[k]=false→numW l = -1):=hid (fun h=>numW_not hlt' h);have HLT:=hid hlt;clear hdg htk;obtain⟨m,hm⟩:∃ m,m=val11 (l.take k):=⟨_,rfl⟩
    rw[← hm] at hnb HTK;rw[← hm];clear hm;by_cases h4:(s[k].toNat:Int) < 48
    ·have HN:=hid (HNO.out (by rw[HD.out,decide_eq_false (by omega)];rfl));go_wp2;go_ret2;exact⟨by rw[numV_no HN.out] <;> rfl,rfl⟩
    ·by_cases h5:(57:Int) < s[k].toNat
     ·have HN:=hid (HNO.out (by rw[HD.out,decide_eq_false (p:=(s[k].toNat:Int)≤57) (by omega),Bool.and_false]));go_wp2;go_ret2;exact⟨by rw[numV_no HN.out] <;> rfl,rfl⟩
     ·have HN:=hid (HAK.out (by rw[HD.out,decide_eq_true (by omega),decide_eq_true (by omega)];rfl));go_wp2;go_roundw
      case rel=>exact⟨k+1,HLT.out,by go_num,by rw[HTK.out],(by first | rfl | trivial),HN⟩
      case measure=>simp[intOf];omega
   ·obtain rfl:k=s.size:=by omega
    have HN:Hid (numW l=val11 (l.take s.size)):=hid (by rw[numW_ok HOK.out (by have:=HT.out;rwa [← HG.out.1,List.take_length] at this),← HG.out.1,List.take_length]);have HV0:=hid hnb.1;go_wp2;go_ret2;exact⟨by rw[numV_yes HN.out HV0.out] <;> rfl,rfl⟩
set_option maxHeartbeats 4000000 in
theorem rnumber_any (s:ByteArray)(w:World)(hs:s.size≤2147483648):Calls Tryz.prog 93 #[.string s] w fun e w'=>e=.returned (.int .i64 (numW s.data.toList))∧w'=w:=by
 obtain⟨l,hl⟩:∃ l,l=s.data.toList:=⟨_,rfl⟩
 have hgb:∀ j (h:j < s.size) (h':j < l.length),l[j]=s[j]:=by subst hl;exact byte11 s
 have hlen:l.length=s.size:=by rw[hl];rfl
 rw[← hl];have HG:=hid (And.intro hlen hgb);clear hl hgb hlen;by_cases h0:s.size=0
 ·have HN:Hid (numW l = -1):=hid (numW_bad (by rw[List.eq_nil_of_length_eq_zero (HG.out.1.trans h0)];exact okW_nil));have d0:((s.size:Int) == 0)=true:=by rw[beq_iff_eq];omega
  clear h0;go_enter Tryz.func93,Tryz.ntmps93;go_wp2;go_ret;exact⟨by rw[HN.out] <;> rfl,rfl⟩
 have d0:((s.size:Int) == 0)=false:=beq_false_of_ne (by omega);by_cases h1:9 < s.size
 ·have HN:Hid (numW l = -1):=hid (numW_bad (okW_long (by rw[HG.out.1];exact h1)));have d1:decide ((9:Int) < (s.size:Int))=true:=decide_eq_true (by omega);go_enter Tryz.func93,Tryz.ntmps93;go_wp2;go_ret;exact⟨by rw[HN.out] <;> rfl,rfl⟩
 have d1:decide ((9:Int) < (s.size:Int))=false:=decide_eq_false (by omega);have h00:0 < s.size:=by omega
 have h0l:0 < l.length:=by rw[HG.out.1];exact h00
 have e0:l.headD 0=s[0]:=by rw[headD_get11 h0l];exact HG.out.2 0 h00 h0l
 by_cases h2:1 < s.size
 ·have d2:decide ((1:Int) < (s.size:Int))=true:=decide_eq_true (by omega);by_cases h3:s[0]=48
  ·have HN:Hid (numW l = -1):=hid (numW_bad (okW_zero (by rw[HG.out.1];exact h2) (by rw[e0];exact h3)));have e3:((s[0].toNat:Int) == 48)=true:=by rw[h3];rfl
   clear h3 e0;go_enter Tryz.func93,Tryz.ntmps93;go_wp2;go_ret;exact⟨by rw[HN.out] <;> rfl,rfl⟩
  ·have HOK:Hid (okW l=true):=hid (okW_yes h0l (by rw[HG.out.1];omega) (fun h=>h3 (by rw[← e0];exact h.2)));have e3:((s[0].toNat:Int) == 48)=false:=by
    simp only[beq_eq_false_iff_ne,ne_eq];intro h;exact h3 (UInt8.toNat_inj.1 (by have:(48:UInt8).toNat=48:=rfl;omega))
   clear h3 e0;go_enter Tryz.func93,Tryz.ntmps93;go_wp2;go_loopw [3,4] (fun n i wr=>∃ k:Nat,k≤s.size∧i=.int .i64 k∧n=.int .i64 (val11 (l.take k))∧wr=w∧Hid (∀ c ∈ l.take k,dig11 c=true)) (fun _ i _=>s.size - (intOf i).toNat)
   case atStart=>exact⟨0,Nat.zero_le _,rfl,rfl,rfl,hid (fun c h=>by cases h)⟩
   case round=>
    obtain⟨k,hk,rfl,rfl,hw,HT⟩:=hrel;have hw2:=hw.symm;clear hw;subst hw2;have hnb:=val11_bd9 HT.out (by rw[List.length_take,HG.out.1];omega);by_cases hlt:k < s.size
    ·have hlt':k < l.length:=by rw[HG.out.1];exact hlt
     have hc0:(s[k].toNat:Int)≤255:=by have:=s[k].toNat_lt;omega
     have hdg:dig11 l[k]=(decide ((48:Int)≤s[k].toNat) && decide ((s[k].toNat:Int)≤57)):=by
      rw[HG.out.2 k hlt hlt'];unfold dig11
      congr 1
      ·exact decide_eq_decide.2 (by omega)
      ·exact decide_eq_decide.2 (by omega)
     have htk:=val11_take hlt';rw[HG.out.2 k hlt hlt'] at htk;have HD:=hid hdg;have HTK:=hid htk;have HAK:Hid (dig11 l[k]=true→∀ c ∈ l.take (k+1),dig11 c=true):=hid (fun h=>take_dig hlt' HT.out h);have HNO:Hid (dig11 l[k]=false→numW l = -1):=hid (fun h=>numW_not hlt' h);have HLT:=hid hlt;clear hdg htk;obtain⟨m,hm⟩:∃ m,m=val11 (l.take k):=⟨_,rfl⟩
     rw[← hm] at hnb HTK;rw[← hm];clear hm;by_cases h4:(s[k].toNat:Int) < 48
     ·have HN:=hid (HNO.out (by rw[HD.out,decide_eq_false (by omega)];rfl));go_wp2;go_ret;exact⟨by rw[HN.out] <;> rfl,rfl⟩
     ·by_cases h5:(57:Int) < s[k].toNat
      ·have HN:=hid (HNO.out (by rw[HD.out,decide_eq_false (p:=(s[k].toNat:Int)≤57) (by omega),Bool.and_false]));go_wp2;go_ret;exact⟨by rw[HN.out] <;> rfl,rfl⟩
      ·have HN:=hid (HAK.out (by rw[HD.out,decide_eq_true (by omega),decide_eq_true (by omega)];rfl));go_wp2;go_roundw
       case rel=>exact⟨k+1,HLT.out,by go_num,by rw[HTK.out],(by first | rfl | trivial),HN⟩
       case measure=>simp[intOf];omega
    ·obtain rfl:k=s.size:=by omega
     have HN:Hid (numW l=val11 (l.take s.size)):=hid (by rw[numW_ok HOK.out (by have:=HT.out;rwa [← HG.out.1,List.take_length] at this),← HG.out.1,List.take_length]);have HV0:=hid hnb.1;go_wp2;go_ret;exact⟨by rw[HN.out] <;> rfl,rfl⟩
 ·have d2:decide ((1:Int) < (s.size:Int))=false:=decide_eq_false (by omega);have HOK:Hid (okW l=true):=hid (okW_yes h0l (by rw[HG.out.1];omega) (fun h=>h2 (by rw[← HG.out.1];exact h.1)));clear e0;go_enter Tryz.func93,Tryz.ntmps93;go_wp2;go_loopw [3,4] (fun n i wr=>∃ k:Nat,k≤s.size∧i=.int .i64 k∧n=.int .i64 (val11 (l.take k))∧wr=w∧Hid (∀ c ∈ l.take k,dig11 c=true)) (fun _ i _=>s.size - (intOf i).toNat)
  case atStart=>exact⟨0,Nat.zero_le _,rfl,rfl,rfl,hid (fun c h=>by cases h)⟩
  case round=>
   obtain⟨k,hk,rfl,rfl,hw,HT⟩:=hrel;have hw2:=hw.symm;clear hw;subst hw2;have hnb:=val11_bd9 HT.out (by rw[List.length_take,HG.out.1];omega);by_cases hlt:k < s.size
   ·have hlt':k < l.length:=by rw[HG.out.1];exact hlt
    have hc0:(s[k].toNat:Int)≤255:=by have:=s[k].toNat_lt;omega
    have hdg:dig11 l[k]=(decide ((48:Int)≤s[k].toNat) && decide ((s[k].toNat:Int)≤57)):=by
     rw[HG.out.2 k hlt hlt'];unfold dig11
     congr 1
     ·exact decide_eq_decide.2 (by omega)
     ·exact decide_eq_decide.2 (by omega)
    have htk:=val11_take hlt';rw[HG.out.2 k hlt hlt'] at htk;have HD:=hid hdg;have HTK:=hid htk;have HAK:Hid (dig11 l[k]=true→∀ c ∈ l.take (k+1),dig11 c=true):=hid (fun h=>take_dig hlt' HT.out h);have HNO:Hid (dig11 l[k]=false→numW l = -1):=hid (fun h=>numW_not hlt' h);have HLT:=hid hlt;clear hdg htk;obtain⟨m,hm⟩:∃ m,m=val11 (l.take k):=⟨_,rfl⟩
    rw[← hm] at hnb HTK;rw[← hm];clear hm;by_cases h4:(s[k].toNat:Int) < 48
    ·have HN:=hid (HNO.out (by rw[HD.out,decide_eq_false (by omega)];rfl));go_wp2;go_ret;exact⟨by rw[HN.out] <;> rfl,rfl⟩
    ·by_cases h5:(57:Int) < s[k].toNat
     ·have HN:=hid (HNO.out (by rw[HD.out,decide_eq_false (p:=(s[k].toNat:Int)≤57) (by omega),Bool.and_false]));go_wp2;go_ret;exact⟨by rw[HN.out] <;> rfl,rfl⟩
     ·have HN:=hid (HAK.out (by rw[HD.out,decide_eq_true (by omega),decide_eq_true (by omega)];rfl));go_wp2;go_roundw
      case rel=>exact⟨k+1,HLT.out,by go_num,by rw[HTK.out],(by first | rfl | trivial),HN⟩
      case measure=>simp[intOf];omega
   ·obtain rfl:k=s.size:=by omega
    have HN:Hid (numW l=val11 (l.take s.size)):=hid (by rw[numW_ok HOK.out (by have:=HT.out;rwa [← HG.out.1,List.take_length] at this),← HG.out.1,List.take_length]);have HV0:=hid hnb.1;go_wp2;go_ret;exact⟨by rw[HN.out] <;> rfl,rfl⟩
end Go.Proofs.YtcmbdhopmncmnaaGreatDoor
