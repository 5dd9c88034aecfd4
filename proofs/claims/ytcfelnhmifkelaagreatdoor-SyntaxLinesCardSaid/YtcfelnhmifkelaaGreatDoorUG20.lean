/-
  texts Lin56 SplP56 SpA56 Spl56 Rsp56 Lim56 Get56 Set56 Kof56P HomP: parts of the proof; conditions stand with each theorem.
-/
import Derived.Test.YtcfelnhmifkelaaGreatDoorUG19
import Derived.Test.YtcfelnhmifkelaaGreatDoorUShelf
import Derived.Test.YtcfelnhmifkelaaGreatDoorUG0
import Derived.Test.YtcfelnhmifkelaaGreatDoorUG12
import Derived.Test.YtcfelnhmifkelaaGreatDoorUG2
namespace Go.Proofs.YtcfelnhmifkelaaGreatDoor
open Lib(hid)
open Go.RowKit
set_option maxRecDepth 100000
set_option linter.unusedVariables false
set_option linter.unusedSimpArgs false
attribute [local go_sem] Oper.semAt_some

def strAt (w:World)(b:Nat):Nat:=match w.cell? ⟨b,0,none⟩ with | some (.string s)=>s.size | _=>0
theorem strAt_of {w:World}{b:Nat}{s:ByteArray}(h:w.cell? ⟨b,0,none⟩=some (.string s)):strAt w b=s.size:=by unfold strAt;rw[h]
theorem held_blk {lo hi g:Nat}{w w':World}{t:TypeId}{cs:Array Value}(h:Held lo hi w w')(hb:Blk w g t cs)(h1:lo≤g)(h2:g < hi):Blk w' g t cs:=(h g h1 h2).trans hb
theorem take_data (r:ByteArray)(k:Nat):(r.extract 0 k).data.toList=r.data.toList.take k:=by
 have h:=Lib.extract_data r 0 k;rw[h]
 simp
theorem drop_data (r:ByteArray)(k:Nat):(r.extract k r.size).data.toList=r.data.toList.drop k:=by
 have h:=Lib.extract_data r k r.size;rw[h,List.take_of_length_le];rw[List.length_drop,size_toList];omega
set_option maxHeartbeats 4000000 in
theorem parts_any (s:ByteArray)(hs:s.size≤70000)(B:Nat)(w0:World)(h1:Blk w0 B 9 #[.string s])(h2:Blk w0 (B+1) 9 #[.string ⟨#[32]⟩]) (h3:Blk w0 (B+2) 3 #[.int .i64 0]) :
  SeqBox Tryz.prog 132 #[.pointer (some ⟨B+1,0,none⟩),.pointer (some ⟨B,0,none⟩),.pointer (some ⟨B+2,0,none⟩)] B B (B+3) (Fits s) (Parts56 s) w0:=by
 intro n l J Jx W hW hJ hY h0;have b1:=h1.below hW h1.lt;have b2:=h2.below hW h2.lt;have b3:=h3.below hW h3.lt;have c1:=b2.cell 0;refine callsIn_of_wp Tryz.func132 rfl trivial ?_ rfl;simp only[Tryz.ntmps132,List.size_toArray,List.length_cons,List.length_nil,Nat.reduceAdd,Nat.reduceSub,Array.replicate_succ,Array.replicate_zero,List.push_toArray,List.append_toArray,List.nil_append,List.cons_append]
 gi_wp2
 gi_loopw [7,8] (fun _ _ wr=>∃ (pre:List ByteArray) (r:ByteArray),Blk wr B 9 #[.string r]∧Blk wr (B+1) 9 #[.string ⟨#[32]⟩]∧Blk wr (B+2) 3 #[.int .i64 0]∧Hid (Come s pre r)∧Hid (J pre wr)) (fun _ _ wr=>strAt wr B)
 case atStart=>exact⟨[],s,b1,b2,b3,hid (Come.start s),hid h0⟩
 case round=>
  clear b1 b2 b3 c1 h1 h2 h3;obtain⟨pre,r,b1,b2,b3,HC,HJ⟩:=hrel;have c1:=b1.cell 0;have f1:=b1.frozen 0;have c2:=b2.cell 0;have c3:=b3.cell 0;have hst:=strAt_of c1;have HS:=HC.out.fits;have hrs:r.size≤70000:=by omega
  rcases ix_cases r.data.toList 32 with ⟨hi,hno⟩ | ⟨k,hi,hk,hsp,hno⟩
  ·have hX:=index_any r wr;rw[hi] at hX;have hX':=callsIn_wide (n:=n - 1) |>.2 hX
   obtain⟨fn,tmps,assign,body,hy,hR⟩:=hY pre r wr HJ.out (by unfold Fits;omega);have HL:=hid (HC.out.last (fun c hc h=>hno (h ▸ hc)));clear hno hX
   gi_wp2
   refine wide_call (hX'.mono ?_);rintro e w' ⟨rfl,rfl⟩
   gi_wp2
   refine wide_round (hR.mono ?_);rintro e W' (⟨rfl,hJ',hk⟩ | ⟨rfl,hJx'⟩)
   ·gi_wp2
    go_end0
    exact⟨⟨_,rfl⟩,.inl ⟨_,HL.out,hJ'⟩⟩
   ·gi_wp2
    go_end0
    exact⟨⟨_,rfl⟩,.inr ⟨_,[],by rw[List.append_nil];exact HL.out,hJx'⟩⟩
  ·have hX:=index_any r wr;rw[hi] at hX;have hX':=callsIn_wide (n:=n - 1) |>.2 hX
   have hkr:k < r.size:=hk;have hd0:decide ((k:Int) < 0)=false:=decide_eq_false (by omega);have hw0:wrap64 ((k:Int)+0)=(k:Int):=by unfold wrap64;omega
   have hw1:wrap64 ((k:Int)+1)=(k:Int)+1:=by unfold wrap64;omega
   have hxs:(r.extract 0 k).size=k:=by
    have h:=congrArg List.length (take_data r k);rw[size_toList,List.length_take,size_toList] at h;omega
   have hqs:(r.extract (k+1) r.size).size=r.size - (k+1):=by
    have h:=congrArg List.length (drop_data r (k+1));rw[size_toList,List.length_drop,size_toList] at h;omega
   have HN:Hid (Come s (pre ++ [r.extract 0 k]) (r.extract (k+1) r.size)):=hid (HC.out.next (by rw[take_data,drop_data];exact hsp) (fun c hc h=>hno (by rw[take_data] at hc;rw[← h];exact hc)));have HL:Hid (∃ rest,Parts56 s (pre ++ [r.extract 0 k] ++ rest)):=hid HN.out.some_;obtain⟨fn,tmps,assign,body,hy,hR⟩:=hY pre (r.extract 0 k) wr HJ.out (by unfold Fits;omega);clear hsp hno hX hi hk
   gi_wp2
   refine wide_call (hX'.mono ?_);rintro e w' ⟨rfl,rfl⟩
   gi_wp2
   refine wide_round (hR.mono ?_);rintro e W' (⟨rfl,hJ',hk⟩ | ⟨rfl,hJx'⟩)
   ·clear c1 f1 c2 c3;have d1:=held_blk hk b1 (Nat.le_refl _) (by omega);have d2:=held_blk hk b2 (by omega) (by omega);have d3:=held_blk hk b3 (by omega) (by omega);have c1:=d1.cell 0;have f1:=d1.frozen 0;have c2:=d2.cell 0;have e1:=d1.set_ 0 (.string (r.extract (k+1) r.size));have e2:=d2.far (p:=⟨B,0,none⟩) (by simp) (.string (r.extract (k+1) r.size));have e3:=d3.far (p:=⟨B,0,none⟩) (by simp) (.string (r.extract (k+1) r.size));have HJ2:=hid (hJ _ _ (.string (r.extract (k+1) r.size)) hJ');have hst2:strAt (W'.setCell ⟨B,0,none⟩ (.string (r.extract (k+1) r.size))) B=r.size - (k+1):=by rw[← hqs];exact strAt_of (e1.cell 0)
    clear hJ'
    gi_wp2
    go_roundw
    case rel=>exact⟨pre ++ [r.extract 0 k],r.extract (k+1) r.size,e1,e2,e3,HN,HJ2⟩
    case measure=>rw[hst2,hst];omega
   ·obtain⟨rest,hrest⟩:=HL.out
    gi_wp2
    refine bodyPost_ret (results_none rfl _ _ _) rfl ?_;exact⟨⟨_,rfl⟩,.inr ⟨_,rest,hrest,hJx'⟩⟩
end Go.Proofs.YtcfelnhmifkelaaGreatDoor
namespace Go.Proofs.YtcfelnhmifkelaaGreatDoor
set_option linter.unusedSimpArgs false
set_option linter.unusedVariables false
theorem splitC_one:∀ a:List UInt8,(∀ c ∈ a,c≠32)→splitC 32 a=[a]
 | [],_=>rfl
 | c :: a,h=>by
  rw[splitC,if_neg (h c List.mem_cons_self),splitC_one a fun d hd=>h d (List.mem_cons_of_mem _ hd)]
theorem splitC_app (r:List UInt8):∀ a:List UInt8,(∀ c ∈ a,c≠32)→splitC 32 (a ++ 32 :: r)=a :: splitC 32 r
 | [],_=>by show (if (32:UInt8)=32 then _ else _)=_;rw[if_pos rfl]
 | c :: a,h=>by
  show splitC 32 (c :: (a ++ 32 :: r))=_;rw[splitC,if_neg (h c List.mem_cons_self),splitC_app r a fun d hd=>h d (List.mem_cons_of_mem _ hd)]
theorem splitC_join:∀ ls:List (List UInt8),ls≠[]→(∀ x ∈ ls,∀ c ∈ x,c≠32)→splitC 32 (joinS ls)=ls
 | [],h,_=>absurd rfl h
 | [a],_,h=>splitC_one a (h a List.mem_cons_self)
 | a :: b :: l,_,h=>by
  show splitC 32 (a ++ 32 :: joinS (b :: l))=_;rw[splitC_app _ _ (h a List.mem_cons_self),splitC_join (b :: l) (by simp) fun x hx=>h x (List.mem_cons_of_mem _ hx)]
theorem Parts56.split {s:ByteArray}{xs:List ByteArray}(h:Parts56 s xs):splitC 32 s.data.toList=xs.map (·.data.toList):=by
 obtain⟨h1,h2,h3⟩:=h;rw[← h3];refine splitC_join _ (by simpa using h1) ?_;intro x hx;obtain⟨y,hy,rfl⟩:=List.mem_map.1 hx;exact h2 y hy
def WrdS (pre ws:List (List UInt8)):Prop:=∀ rest,wordsTo (pre ++ rest)=ws ++ wordsTo rest
theorem WrdS.start:WrdS [] []:=fun _=>rfl
theorem WrdS.skip {pre ws:List (List UInt8)} (h:WrdS pre ws):WrdS (pre ++ [[]]) ws:=fun rest=>by
 rw[List.append_assoc,h];rfl
theorem WrdS.word {pre ws:List (List UInt8)} (h:WrdS pre ws){x:List UInt8}(hx:hashB x=false)(hn:x≠[]):WrdS (pre ++ [x]) (ws ++ [x]):=fun rest=>by
 rw[List.append_assoc,h,List.append_assoc];show ws ++ (if hashB x then [] else if x=[] then wordsTo rest else x :: wordsTo rest)=_;rw[hx,if_neg Bool.false_ne_true,if_neg hn];rfl
theorem WrdS.hash {pre ws:List (List UInt8)} (h:WrdS pre ws){x:List UInt8}(hx:hashB x=true)(rest:List (List UInt8)):wordsTo (pre ++ [x] ++ rest)=ws:=by
 rw[List.append_assoc,h];show ws ++ (if hashB x then [] else _)=_;rw[if_pos hx,List.append_nil]
theorem WrdS.done {pre ws:List (List UInt8)} (h:WrdS pre ws):wordsTo pre=ws:=by
 have e:=h [];rw[List.append_nil] at e;rw[e];exact List.append_nil _
theorem pre35 (l:List UInt8):Lib.hasPrefix l [35]=hashB l:=by
 cases l with
 | nil=>rfl
 | cons c l=>
  show ([35]:List UInt8).isPrefixOf (c :: l)=(some c == some 35)
  simp only[List.isPrefixOf,Bool.and_true];by_cases h:c=35
  ·subst h;rfl
  ·rw[beq_eq_false_iff_ne.2 (fun e=>h e.symm),beq_eq_false_iff_ne.2 (fun e=>h (Option.some.inj e))]
end Go.Proofs.YtcfelnhmifkelaaGreatDoor
namespace Go.Proofs.YtcfelnhmifkelaaGreatDoor
open Go.RowKit
set_option maxRecDepth 100000
set_option linter.unusedVariables false
set_option linter.unusedSimpArgs false
attribute [local go_sem] Oper.semAt_some
theorem Tryz.infoString:(Tryz.prog.info? 9).map (fun i=>(i.zero,i.size,i.bytes))=some (some (.string ⟨#[]⟩),1,16):=by kernel_rfl
theorem wpListIn_pushS {F:Fence}{n:Nat}{P:Program}{wr:World}{ops:Array Oper}{rest:List Oper}{o:Oper}{a:Act}{Q:Exit→Act→World→Prop}(hgd:o.guard=none)(s x:Operand)(t:TypeId)
  (ho:o.op=.call { callee:=.builtin .append,args:=#[s,x],argTypes:=#[t,t] })
  (base:Nat) (e:TypeId) (ht:P.underlying t=some (.slice e)) (hi:(P.info? e).map (fun i=>(i.zero,i.size,i.bytes))=some (some (.string ⟨#[]⟩),1,16))
  (v:Value) (ps:List ByteArray) (hs:a.eval s=v) (hown:OwnS e wr base v ps)
  (b:ByteArray) (hx:a.eval x=.slice (some ⟨wr.heap.size,0,none⟩) 1 1)
  (hn:ps.length < 4294967296) (hbase:base≤wr.heap.size)
  (h:∀ v' w',OwnS e w' base v' (ps ++ [b])→Below base wr w'→KeepsOthers wr w'→wr.heap.size≤w'.heap.size→(∀ g t' cs,e≠t'→Blk wr g t' cs→Blk w' g t' cs)→wpListIn F n P ops Q rest (a.put o.dst v') w') :
  wpListIn F n P ops Q (o :: rest) a (wr.alloc (.cells #[.string b] e)):=by
 obtain⟨i0,hi0,hz0,hz1,hz2⟩:=info_parts hi;refine wpListIn_append_own _ hgd s x t ho base e i0 _ 1 16 ht hi0 hz0 hz1 hz2 rfl (by decide) v ps.length (ps.map Value.string) hs (World.ownsRow.alloc hown _) ⟨wr.heap.size,0,none⟩ 1 1 [.string b] hx (by simp) ?_ (by simp[Value.oneCell']) (by unfold maxLen;omega) (by omega) (by simp;omega) ?_
 ·intro j u hu;rw[addr_add];have:(wr.alloc (.cells #[.string b] e)).cell? ⟨wr.heap.size,0+j,none⟩=#[Value.string b][0+j]?:=cell_of_row _ _ _ _ _ _ (heap_alloc_new wr _);rw[this];simpa using hu
 ·intro v' w' hown' hg _;have hrow:∀ k,v.ownBlock=some k→base≤k∧∃ cur,wr.heap[k]?=some (.cells cur e (0,0)):=by
   intro k hk;rcases hown.2 with ⟨rfl,_⟩ | ⟨g,cap,cur,rfl,h4,h5,_⟩
   ·simp[Value.ownBlock] at hk
   ·simp[Value.ownBlock] at hk;subst hk;exact⟨h4,cur,h5⟩
  refine h v' w' (by unfold OwnS;rw[List.length_append,List.map_append];exact hown') ?_ ?_ ?_ ?_
  ·exact ((Below.refl base wr).alloc hbase _).grown hg (by simp;omega) (fun k hk=>(hrow k hk).1)
  ·refine (KeepsOthers.alloc wr _).trans (KeepsOthers.of_grownBy hg fun j o' ej hj=>?_);obtain⟨-,cur,hc⟩:=hrow j ej;rw[(Below.heap_alloc wr _ j (Array.getElem?_eq_some_iff.1 hc).1),hc] at hj;cases hj
   rfl
  ·have:=hg.size;simp at this;omega
  ·intro g t' cs hne hb;exact (hb.alloc _).grown hg (fun e'=>by
    obtain⟨-,cur,hc⟩:=hrow g e'.symm;unfold Blk at hb;rw[hb] at hc;injection hc with hc
    injection hc with _ hc
    exact hne hc.symm)
theorem blk_own {B g:Nat}{t:TypeId}{cs:Array Value}{W W':World}{row:Option Nat}(h:Blk W g t cs)(hg:W.grownBy W' row)(hr:∀ r,row=some r→B≤r∧∃ o:Obj,W.heap[r]?=some o∧o.isCells=false):Blk W' g t cs:=
 h.grown hg (fun e=>by
  obtain⟨_,o,ho,hc⟩:=hr g e.symm;unfold Blk at h;rw[h] at ho;cases ho
  cases hc)
theorem ownS_own {B base:Nat}{e:TypeId}{v:Value}{ps:List ByteArray}{W W':World}{row:Option Nat}(h:OwnS e W base v ps)(hg:W.grownBy W' row)(hr:∀ r,row=some r→B≤r∧∃ o:Obj,W.heap[r]?=some o∧o.isCells=false):OwnS e W' base v ps:=by
 refine World.ownsRow.kept h hg ?_;rcases h.2 with ⟨rfl,_⟩ | ⟨g,cap,cur,rfl,_,hgb,_⟩
 ·exact .inl rfl
 ·refine .inr fun e'=>?_;obtain⟨_,o,ho,hc⟩:=hr g (by simpa [Value.ownBlock] using e'.symm);rw[hgb] at ho;cases ho
  cases hc
theorem ownS_set {base b:Nat}{e:TypeId}{v u:Value}{ps:List ByteArray}{W:World}(h:OwnS e W base v ps)(hb:b < base):OwnS e (W.setCell ⟨b,0,none⟩ u) base v ps:=by
 refine World.ownsRow.kept h (grownBy_setCell' W b u) ?_;rcases h.2 with ⟨rfl,_⟩ | ⟨g,cap,cur,rfl,hg,_,_⟩
 ·exact .inl rfl
 ·refine .inr fun e'=>?_;have:b=g:=by simpa [Value.ownBlock] using e'.symm
  omega
end Go.Proofs.YtcfelnhmifkelaaGreatDoor
namespace Go.Proofs.YtcfelnhmifkelaaGreatDoor
open Lib(hid)
open Go.RowKit
set_option maxRecDepth 100000
set_option linter.unusedVariables false
set_option linter.unusedSimpArgs false
attribute [local go_sem] Oper.semAt_some
def SI (w:World)(R:Nat)(pre:List ByteArray)(W:World):Prop:=
 ∃ v bs,Blk W R 44 #[v]∧OwnS 9 W (R+4) v bs∧Below R w W∧Hid (WrdS (pre.map (·.data.toList)) (wdL bs)∧bs.length≤pre.length)
def SX (w:World)(R:Nat)(pre:List ByteArray)(W:World):Prop:=
 ∃ v bs,Blk W R 44 #[v]∧OwnS 9 W (R+4) v bs∧Below R w W∧Hid (∀ rest,wordsTo (pre.map (·.data.toList) ++ rest)=wdL bs)
theorem SI.from_ {w:World}{R B:Nat}(hR:R≤w.heap.size)(hB:R≤B):OwnFrom B (SI w R):=by
 rintro s W W' row ⟨v,bs,h1,h5,h6,h7⟩ hg hr;exact⟨v,bs,blk_own h1 hg hr,ownS_own h5 hg hr,h6.grown hg (Nat.le_trans hR h6.size) (fun k e=>Nat.le_trans hB (hr k e).1),h7⟩
theorem SX.from_ {w:World}{R B:Nat}(hR:R≤w.heap.size)(hB:R≤B):OwnFrom B (SX w R):=by
 rintro s W W' row ⟨v,bs,h1,h5,h6,h7⟩ hg hr;exact⟨v,bs,blk_own h1 hg hr,ownS_own h5 hg hr,h6.grown hg (Nat.le_trans hR h6.size) (fun k e=>Nat.le_trans hB (hr k e).1),h7⟩
theorem SI.spare {w:World}{R:Nat}:Spare (R+1) (SI w R):=by
 rintro s W u ⟨v,bs,h1,h5,h6,h7⟩;exact⟨v,bs,h1.far (p:=⟨R+1,0,none⟩) (by simp) u,ownS_set h5 (by omega),h6.setCell (p:=⟨R+1,0,none⟩) (by simp) u,h7⟩
def RetWs (ws:List (List UInt8)) (w:World)(e:Ending)(w':World):Prop:=∃ A c bs,e=.returned (.slice A bs.length c)∧Sts w' A bs∧wdL bs=ws∧bs.length≤70001∧Below w.heap.size w w'
theorem str_nil56 (b:ByteArray):(b.toList == [])=decide (b.data.toList=[]):=by
 have h:=str_eq2 b ⟨#[]⟩;rw[ByteArray.toList_eq (⟨#[]⟩:ByteArray)] at h;exact h
theorem words_few (ps:List (List UInt8)):(wordsTo ps).length≤ps.length:=by
 induction ps with
 | nil=>exact Nat.le_refl _
 | cons p ps ih=>
  show (if hashB p then [] else if p=[] then wordsTo ps else p :: wordsTo ps).length≤_
  split
  ·exact Nat.zero_le _
  ·split
   ·exact Nat.le_succ_of_le ih
   ·exact Nat.succ_le_succ ih
theorem split_few:∀ l:List UInt8,(splitC 32 l).length≤l.length+1
 | []=>Nat.le_refl _
 | a :: l=>by
  have ih:=split_few l;rw[splitC]
  split
  ·exact Nat.succ_le_succ ih
  ·split
   ·simp
   ·rename_i p ps e;rw[e] at ih;simp only[List.length_cons] at ih ⊢;omega
set_option maxHeartbeats 4000000 in
theorem split56_any (s:ByteArray)(w:World)(hs:s.size≤70000):Calls Tryz.prog 26 #[.string s] w (RetWs (wordsOf s.data.toList) w):=by
 have hS:=fun w=>(callsIn_wide (n:=8)).2 (SplitSeq_any s w);obtain⟨ws,hws⟩:∃ ws,ws=wordsOf s.data.toList:=⟨_,rfl⟩
 rw[← hws];have HWL:Hid (ws.length≤70001):=hid (by rw[hws];unfold wordsOf;exact Nat.le_trans (words_few _) (Nat.le_trans (split_few _) (Nat.succ_le_succ hs)));have HTS:Hid (∀ ls,Parts56 s ls→wordsTo (ls.map (·.data.toList))=ws):=hid (fun ls h=>by rw[hws];unfold wordsOf;rw[h.split]);clear hws;refine callsIn_wide (n:=9) |>.1 ?_
 refine callsIn_of_wp_marks Tryz.func26 rfl trivial ?_ rfl;simp only[Tryz.ntmps26,List.size_toArray,List.length_cons,List.length_nil,Nat.reduceAdd,Nat.reduceSub,Array.replicate_succ,Array.replicate_zero,List.push_toArray,List.append_toArray,List.nil_append,List.cons_append]
 gi_wp2
 refine⟨trivial,(hS _).mono ?_⟩;rintro e w1 ⟨rfl,hw1⟩;have hw2:=hw1.symm;clear hw1;subst hw2
 gi_wp2
 obtain⟨W4,hW4⟩:∃ W4,W4=w.alloc (.cells #[.slice none 0 0] 44):=⟨_,rfl⟩
 have hz4:W4.heap.size=w.heap.size+1:=by rw[hW4];simp
 have hB0:Below w.heap.size w W4:=by rw[hW4];exact (Below.refl _ w).alloc (Nat.le_refl _) _
 have k0:Blk W4 w.heap.size 44 #[.slice none 0 0]:=by rw[hW4];exact Blk.new w _ _
 rw[← hW4];clear hW4;have b1:Blk (boxes s W4) (w.heap.size+1) 9 #[.string s]:=by rw[← hz4];exact ((Blk.new W4 _ _).alloc _).alloc _
 have b2:Blk (boxes s W4) (w.heap.size+1+1) 9 #[.string ⟨#[32]⟩]:=by
  have h:=Blk.new (W4.alloc (.cells #[.string s] 9)) 9 #[.string ⟨#[32]⟩];rw[World.size_alloc,hz4] at h;exact h.alloc _
 have b3:Blk (boxes s W4) (w.heap.size+1+1+1) 3 #[.int .i64 0]:=by
  have h:=Blk.new ((W4.alloc (.cells #[.string s] 9)).alloc (.cells #[.string ⟨#[32]⟩] 9)) 3 #[.int .i64 0];rw[World.size_alloc,World.size_alloc,hz4] at h;exact h
 have hz7:(boxes s W4).heap.size=w.heap.size+4:=by unfold boxes;simp[hz4]
 have hB7:Below w.heap.size w (boxes s W4):=((hB0.alloc (by omega) _).alloc (by simp;omega) _).alloc (by simp;omega) _;have HI0:SI w w.heap.size [] (boxes s W4):=⟨.slice none 0 0,[],((k0.alloc _).alloc _).alloc _,OwnS.nil _ _ _,hB7,hid ⟨WrdS.start,Nat.le_refl _⟩⟩
 have hsq:=parts_any s hs (w.heap.size+1) (boxes s W4) b1 b2 b3;obtain⟨W7,hW7⟩:∃ W7,W7=boxes s W4:=⟨_,rfl⟩
 rw[← hW7] at hsq hB7 HI0 hz7 ⊢;clear hW7 b1 b2 b3 k0 hB0 hz4 hS;refine wpIn_rangeBox (id:=0) (gf:=132) (lb:=#[.pointer (some ⟨w.heap.size+1+1,0,none⟩),.pointer (some ⟨w.heap.size+1,0,none⟩),.pointer (some ⟨w.heap.size+1+2,0,none⟩)]) rfl (enters_of Tryz.func132 (by kernel_rfl) rfl) hsq (Below.refl _ _) (by omega) (by omega) rfl
  (SI w w.heap.size) (SX w w.heap.size) (SI.from_ (Nat.le_refl _) (by omega)) (SX.from_ (Nat.le_refl _) (by omega)) SI.spare HI0
  (fun x=>{ tmps:=#[.string s,undef,.slice none 0 0,.pointer (some ⟨w.heap.size,0,none⟩),.string x,.string s,seqAt (w.heap.size+1),.string x,undef,undef,undef,undef,undef,undef,undef,undef,undef],defers:=[] }) ?assign ?body ?done ?stop
 case assign=>
  intro l x W K hK
  gi_wp2
  exact hK
 case body=>
  clear hsq HI0 hB7 HTS;rintro l pre x W hWs ⟨v,bs,h1,h5,h6,H7⟩ hOk;have hlen:bs.length < 4294967296:=by have:=H7.out.2;unfold Fits at hOk;omega
  have hbs:w.heap.size+4≤W.heap.size:=by omega
  have hP:=fun w=>(callsIn_wide (n:=6)).2 (Tryz.strings_HasPrefix x ⟨#[35]⟩ w);have e35:(⟨#[35]⟩:ByteArray).data.toList=[35]:=rfl;rw[e35,pre35] at hP;clear e35 hOk;have dn:=str_nil56 x;have c0:=h1.cell 0;have f0:=h1.frozen 0;cases hpx:hashB x.data.toList with
  | true=>
   rw[hpx] at hP;have HM:Hid (∀ rest,wordsTo ((pre ++ [x]).map (·.data.toList) ++ rest)=wdL bs):=hid (fun rest=>by rw[List.map_append];exact H7.out.1.hash hpx rest);clear hpx dn
   gi_wp2
   refine⟨trivial,CallsIn.inRound l ((hP _).mono ?_)⟩;rintro e w1 ⟨rfl,hw1⟩;have hw2:=hw1.symm;clear hw1;subst hw2
   gi_wp2
   exact⟨rfl,KeepsOthers.refl _,v,bs,h1,h5,h6,HM⟩
  | false=>
   rw[hpx] at hP;have HPX:=hid hpx;clear hpx;by_cases hx:x.data.toList=[]
   ·rw[decide_eq_true hx] at dn;have HM:Hid (WrdS ((pre ++ [x]).map (·.data.toList)) (wdL bs)∧bs.length≤(pre ++ [x]).length):=hid ⟨by rw[List.map_append];show WrdS (_ ++ [x.data.toList]) _;rw[hx];exact H7.out.1.skip,by rw[List.length_append];exact Nat.le_add_right_of_le H7.out.2⟩;clear hx
    gi_wp2
    refine⟨trivial,CallsIn.inRound l ((hP _).mono ?_)⟩;rintro e w1 ⟨rfl,hw1⟩;have hw2:=hw1.symm;clear hw1;subst hw2
    gi_wp2
    exact⟨KeepsOthers.refl _,Held.refl _ _ _,v,bs,h1,h5,h6,HM⟩
   ·rw[decide_eq_false hx] at dn;have HM:Hid (WrdS ((pre ++ [x]).map (·.data.toList)) (wdL (bs ++ [x]))∧(bs ++ [x]).length≤(pre ++ [x]).length):=hid ⟨by rw[List.map_append];unfold wdL;rw[List.map_append];exact H7.out.1.word HPX.out hx,by rw[List.length_append,List.length_append];exact Nat.add_le_add_right H7.out.2 _⟩;clear hx
    gi_wp2
    refine⟨trivial,CallsIn.inRound l ((hP _).mono ?_)⟩;rintro e w1 ⟨rfl,hw1⟩;have hw2:=hw1.symm;clear hw1;subst hw2
    gi_wp2_with (gi_at_builtin;refine wpListIn_pushS rfl _ _ _ rfl (w.heap.size+4) 9 (by kernel_rfl) Tryz.infoString _ _ rfl h5 _ rfl hlen hbs ?_)
    intro v2 w9 ho9 hb9 hko9 hsz9 hbl9;have h1':=hbl9 _ _ _ (by decide) h1;clear c0 f0;have c0:=h1'.cell 0;have f0:=h1'.frozen 0;have HO9:=hid ho9;obtain⟨A9,c9,hv9,-,-⟩:=ho9.sts;rw[List.length_append,List.length_singleton] at hv9;subst hv9
    gi_wp2
    exact⟨hko9.trans (KeepsOthers.setCell _ _ _),((Held.refl _ _ _).below hb9 (by omega)).setCell (p:=⟨w.heap.size,0,none⟩) (by simp <;> omega) _,_,_,h1'.set_ 0 _,ownS_set HO9.out (by omega),(h6.trans (hb9.mono (by omega))).setCell (p:=⟨w.heap.size,0,none⟩) (by simp <;> omega) _,HM⟩
 case done=>
  clear hsq HI0;rintro D ys W hD hS ⟨v,bs,h1,h5,h6,H7⟩ hK;have HR:Hid (wdL bs=ws):=hid (H7.out.1.done.symm.trans (HTS.out ys hS));have hDR:w.heap.size+4≤D:=by omega
  have c0:=h1.cell 0;have f0:=h1.frozen 0;clear hS;have HO:=hid h5;obtain⟨A,c,hv,-,-⟩:=h5.sts;subst hv
  gi_wp2
  refine⟨by simp,.inl ⟨_,_,rfl,run_takeDeferred hK,?_⟩⟩;have hO2:OwnS 9 (W.putObj D (.deferred none)) (w.heap.size+4) (.slice A bs.length c) bs:=ownsRow_putObj HO.out _ hK rfl;obtain⟨A',c',hv',hcl,-⟩:=hO2.sts;injection hv' with hA' _ hc'
  subst hA' hc';refine⟨.slice A bs.length c,?_,A,c,bs,rfl,hcl,HR.out,?_,h6.trans (belowK_b (w:=w) (Nat.le_refl _) _ D _ _ (by omega) hK rfl rfl)⟩
  ·simp[results,Tryz.f26,go_sem]
  ·have h:=HWL.out;rw[← HR.out] at h;unfold wdL at h;rw[List.length_map] at h;exact h
 case stop=>
  clear hsq HI0;rintro D pre rest W hD hS ⟨v,bs,h1,h5,h6,H7⟩ hK;have HR:Hid (wdL bs=ws):=hid (by have h:=HTS.out _ hS;rw[List.map_append,H7.out] at h;exact h);have hDR:w.heap.size+4≤D:=by omega
  have c0:=h1.cell 0;have f0:=h1.frozen 0;clear hS;have HO:=hid h5;obtain⟨A,c,hv,-,-⟩:=h5.sts;subst hv
  gi_wp2
  refine⟨by simp,.inl ⟨_,_,rfl,run_takeDeferred hK,?_⟩⟩;have hO2:OwnS 9 (W.putObj D (.deferred none)) (w.heap.size+4) (.slice A bs.length c) bs:=ownsRow_putObj HO.out _ hK rfl;obtain⟨A',c',hv',hcl,-⟩:=hO2.sts;injection hv' with hA' _ hc'
  subst hA' hc';refine⟨.slice A bs.length c,?_,A,c,bs,rfl,hcl,HR.out,?_,h6.trans (belowK_b (w:=w) (Nat.le_refl _) _ D _ _ (by omega) hK rfl rfl)⟩
  ·simp[results,Tryz.f26,go_sem]
  ·have h:=HWL.out;rw[← HR.out] at h;unfold wdL at h;rw[List.length_map] at h;exact h
end Go.Proofs.YtcfelnhmifkelaaGreatDoor
namespace Go.Proofs.YtcfelnhmifkelaaGreatDoor
open Go.RowKit
set_option maxRecDepth 100000
set_option linter.unusedVariables false
set_option linter.unusedSimpArgs false
theorem wpList_pushS {P:Program}{wr:World}{ops:Array Oper}{rest:List Oper}{o:Oper}{a:Act}{Q:Exit→Act→World→Prop}(hgd:o.guard=none)(s x:Operand)(t:TypeId)
  (ho:o.op=.call { callee:=.builtin .append,args:=#[s,x],argTypes:=#[t,t] })
  (base:Nat) (e:TypeId) (ht:P.underlying t=some (.slice e)) (hi:(P.info? e).map (fun i=>(i.zero,i.size,i.bytes))=some (some (.string ⟨#[]⟩),1,16))
  (v:Value) (bs:List ByteArray) (hs:a.eval s=v) (hown:OwnS e wr base v bs)
  (b:ByteArray) (hx:a.eval x=.slice (some ⟨wr.heap.size,0,none⟩) 1 1)
  (hn:bs.length < 4294967296) (hbase:base≤wr.heap.size)
  (h:∀ v' w',OwnS e w' base v' (bs ++ [b])→Below base wr w'→wpList P ops Q rest (a.put o.dst v') w') :
  wpList P ops Q (o :: rest) a (wr.alloc (.cells #[.string b] e)):=
 wpList_push hgd s x t ho base e _ 1 16 ht hi rfl (by decide) v bs.length _ hs hown [.string b] rfl hx (by simp[Value.oneCell']) (by unfold maxLen;omega) (by omega) hbase
  (fun v' w' h1 h2=>h v' w' (by unfold OwnS;rw[List.length_append,List.map_append];exact h1) h2)
theorem OwnS.cap {T:TypeId}{w:World}{base:Nat}{v:Value}{bs:List ByteArray}{A:Option Addr}{n c:Nat}(h:OwnS T w base v bs)(hv:v=.slice A n c):bs.length≤c:=by
 rcases h.2 with ⟨e,h0⟩ | ⟨g,cap,cur,e,h1,h2,h3,h4⟩
 ·omega
 ·rw[hv] at e;injection e with e1 e2 e3
  omega
def LimAt (f:List UInt8)(w:World):Prop:=Calls Tryz.prog 48 #[.string ⟨f.toArray⟩] w fun e w'=>e=.returned (.tuple #[.int .i64 (slotR f).lo,.int .i64 (slotR f).hi])∧w=w'
theorem lim_88 (w:World):LimAt [88] w:=by
 unfold LimAt;go_enter Tryz.func48,Tryz.ntmps48;go_wp2;go_ret2;exact⟨rfl,rfl⟩
theorem lim_89 (w:World):LimAt [89] w:=by
 unfold LimAt;go_enter Tryz.func48,Tryz.ntmps48;go_wp2;go_ret2;exact⟨rfl,rfl⟩
theorem lim_77 (w:World):LimAt [77] w:=by
 unfold LimAt;go_enter Tryz.func48,Tryz.ntmps48;go_wp2;go_ret2;exact⟨rfl,rfl⟩
theorem lim_75 (w:World):LimAt [75] w:=by
 unfold LimAt;go_enter Tryz.func48,Tryz.ntmps48;go_wp2;go_ret2;exact⟨rfl,rfl⟩
theorem lim_80 (w:World):LimAt [80] w:=by
 unfold LimAt;go_enter Tryz.func48,Tryz.ntmps48;go_wp2;go_ret2;exact⟨rfl,rfl⟩
theorem lim_71 (w:World):LimAt [71] w:=by
 unfold LimAt;go_enter Tryz.func48,Tryz.ntmps48;go_wp2;go_ret2;exact⟨rfl,rfl⟩
theorem lim_81 (w:World):LimAt [81] w:=by
 unfold LimAt;go_enter Tryz.func48,Tryz.ntmps48;go_wp2;go_ret2;exact⟨rfl,rfl⟩
theorem lim_68 (w:World):LimAt [68] w:=by
 unfold LimAt;go_enter Tryz.func48,Tryz.ntmps48;go_wp2;go_ret2;exact⟨rfl,rfl⟩
theorem lim_69 (w:World):LimAt [69] w:=by
 unfold LimAt;go_enter Tryz.func48,Tryz.ntmps48;go_wp2;go_ret2;exact⟨rfl,rfl⟩
def numWords:List (List UInt8):=[[88],[89],[77],[75],[80],[71],[81],[68],[69]]
theorem limits_any {f:List UInt8}(h:f ∈ numWords)(w:World):LimAt f w:=by
 unfold numWords at h;simp only[List.mem_cons,List.not_mem_nil,or_false] at h;rcases h with rfl | rfl | rfl | rfl | rfl | rfl | rfl | rfl | rfl
 ·exact lim_88 w
 ·exact lim_89 w
 ·exact lim_77 w
 ·exact lim_75 w
 ·exact lim_80 w
 ·exact lim_71 w
 ·exact lim_81 w
 ·exact lim_68 w
 ·exact lim_69 w
theorem num_words {k:Int}(h:k ∈ ([1,2,3,4,5,6,7,8,9,10,11,12]:List Int)) {f:List UInt8}(hf:f ∈ formR k)(hn:nmcB f=true):f ∈ numWords:=by
 have e:∀ k ∈ ([1,2,3,4,5,6,7,8,9,10,11,12]:List Int),∀ f ∈ formR k,nmcB f=true→f ∈ numWords:=by decide
 exact e k h f hf hn
def cmdV (c:Cmd)(nm:ByteArray)(cv:Value):Value:=.agg #[.int .i64 c.kind,.int .i64 c.x,.int .i64 c.y,.int .i64 c.n,.int .i64 c.m,.string nm,cv,.int .i64 c.p,.int .i64 c.dx,.int .i64 c.dy]
def GetAt (f:List UInt8)(c:Cmd)(nm:ByteArray)(A:Option Addr)(len cap:Nat)(w:World):Prop:=Calls Tryz.prog 41 #[cmdV c nm (.slice A len cap),.string ⟨f.toArray⟩] w fun e w'=>e=.returned (.int .i64 (c.get (slotR f).fld))∧Below w.heap.size w w'
theorem get_88 (c:Cmd)(nm:ByteArray)(A:Option Addr)(len cap:Nat)(w:World):GetAt [88] c nm A len cap w:=by
 unfold GetAt cmdV;obtain⟨kd,x,y,n,m,wd,cs,p,dx,dy⟩:=c;have hb:Blk (w.alloc (.cells #[.int .i64 kd,.int .i64 x,.int .i64 y,.int .i64 n,.int .i64 m,.string nm,.slice A len cap,.int .i64 p,.int .i64 dx,.int .i64 dy] 34)) w.heap.size 34 #[.int .i64 kd,.int .i64 x,.int .i64 y,.int .i64 n,.int .i64 m,.string nm,.slice A len cap,.int .i64 p,.int .i64 dx,.int .i64 dy]:=Blk.new w _ _;have c1:=hb.cell 1;have c2:=hb.cell 2;have c3:=hb.cell 3;have c4:=hb.cell 4;have c7:=hb.cell 7;have c8:=hb.cell 8;have c9:=hb.cell 9;clear hb;go_enter Tryz.func41,Tryz.ntmps41;go_wp2;go_ret;exact⟨rfl,(Below.refl _ _).alloc (Nat.le_refl _) _⟩
theorem get_89 (c:Cmd)(nm:ByteArray)(A:Option Addr)(len cap:Nat)(w:World):GetAt [89] c nm A len cap w:=by
 unfold GetAt cmdV;obtain⟨kd,x,y,n,m,wd,cs,p,dx,dy⟩:=c;have hb:Blk (w.alloc (.cells #[.int .i64 kd,.int .i64 x,.int .i64 y,.int .i64 n,.int .i64 m,.string nm,.slice A len cap,.int .i64 p,.int .i64 dx,.int .i64 dy] 34)) w.heap.size 34 #[.int .i64 kd,.int .i64 x,.int .i64 y,.int .i64 n,.int .i64 m,.string nm,.slice A len cap,.int .i64 p,.int .i64 dx,.int .i64 dy]:=Blk.new w _ _;have c1:=hb.cell 1;have c2:=hb.cell 2;have c3:=hb.cell 3;have c4:=hb.cell 4;have c7:=hb.cell 7;have c8:=hb.cell 8;have c9:=hb.cell 9;clear hb;go_enter Tryz.func41,Tryz.ntmps41;go_wp2;go_ret;exact⟨rfl,(Below.refl _ _).alloc (Nat.le_refl _) _⟩
theorem get_77 (c:Cmd)(nm:ByteArray)(A:Option Addr)(len cap:Nat)(w:World):GetAt [77] c nm A len cap w:=by
 unfold GetAt cmdV;obtain⟨kd,x,y,n,m,wd,cs,p,dx,dy⟩:=c;have hb:Blk (w.alloc (.cells #[.int .i64 kd,.int .i64 x,.int .i64 y,.int .i64 n,.int .i64 m,.string nm,.slice A len cap,.int .i64 p,.int .i64 dx,.int .i64 dy] 34)) w.heap.size 34 #[.int .i64 kd,.int .i64 x,.int .i64 y,.int .i64 n,.int .i64 m,.string nm,.slice A len cap,.int .i64 p,.int .i64 dx,.int .i64 dy]:=Blk.new w _ _;have c1:=hb.cell 1;have c2:=hb.cell 2;have c3:=hb.cell 3;have c4:=hb.cell 4;have c7:=hb.cell 7;have c8:=hb.cell 8;have c9:=hb.cell 9;clear hb;go_enter Tryz.func41,Tryz.ntmps41;go_wp2;go_ret;exact⟨rfl,(Below.refl _ _).alloc (Nat.le_refl _) _⟩
theorem get_75 (c:Cmd)(nm:ByteArray)(A:Option Addr)(len cap:Nat)(w:World):GetAt [75] c nm A len cap w:=by
 unfold GetAt cmdV;obtain⟨kd,x,y,n,m,wd,cs,p,dx,dy⟩:=c;have hb:Blk (w.alloc (.cells #[.int .i64 kd,.int .i64 x,.int .i64 y,.int .i64 n,.int .i64 m,.string nm,.slice A len cap,.int .i64 p,.int .i64 dx,.int .i64 dy] 34)) w.heap.size 34 #[.int .i64 kd,.int .i64 x,.int .i64 y,.int .i64 n,.int .i64 m,.string nm,.slice A len cap,.int .i64 p,.int .i64 dx,.int .i64 dy]:=Blk.new w _ _;have c1:=hb.cell 1;have c2:=hb.cell 2;have c3:=hb.cell 3;have c4:=hb.cell 4;have c7:=hb.cell 7;have c8:=hb.cell 8;have c9:=hb.cell 9;clear hb;go_enter Tryz.func41,Tryz.ntmps41;go_wp2;go_ret;exact⟨rfl,(Below.refl _ _).alloc (Nat.le_refl _) _⟩
theorem get_80 (c:Cmd)(nm:ByteArray)(A:Option Addr)(len cap:Nat)(w:World):GetAt [80] c nm A len cap w:=by
 unfold GetAt cmdV;obtain⟨kd,x,y,n,m,wd,cs,p,dx,dy⟩:=c;have hb:Blk (w.alloc (.cells #[.int .i64 kd,.int .i64 x,.int .i64 y,.int .i64 n,.int .i64 m,.string nm,.slice A len cap,.int .i64 p,.int .i64 dx,.int .i64 dy] 34)) w.heap.size 34 #[.int .i64 kd,.int .i64 x,.int .i64 y,.int .i64 n,.int .i64 m,.string nm,.slice A len cap,.int .i64 p,.int .i64 dx,.int .i64 dy]:=Blk.new w _ _;have c1:=hb.cell 1;have c2:=hb.cell 2;have c3:=hb.cell 3;have c4:=hb.cell 4;have c7:=hb.cell 7;have c8:=hb.cell 8;have c9:=hb.cell 9;clear hb;go_enter Tryz.func41,Tryz.ntmps41;go_wp2;go_ret;exact⟨rfl,(Below.refl _ _).alloc (Nat.le_refl _) _⟩
theorem get_71 (c:Cmd)(nm:ByteArray)(A:Option Addr)(len cap:Nat)(w:World):GetAt [71] c nm A len cap w:=by
 unfold GetAt cmdV;obtain⟨kd,x,y,n,m,wd,cs,p,dx,dy⟩:=c;have hb:Blk (w.alloc (.cells #[.int .i64 kd,.int .i64 x,.int .i64 y,.int .i64 n,.int .i64 m,.string nm,.slice A len cap,.int .i64 p,.int .i64 dx,.int .i64 dy] 34)) w.heap.size 34 #[.int .i64 kd,.int .i64 x,.int .i64 y,.int .i64 n,.int .i64 m,.string nm,.slice A len cap,.int .i64 p,.int .i64 dx,.int .i64 dy]:=Blk.new w _ _;have c1:=hb.cell 1;have c2:=hb.cell 2;have c3:=hb.cell 3;have c4:=hb.cell 4;have c7:=hb.cell 7;have c8:=hb.cell 8;have c9:=hb.cell 9;clear hb;go_enter Tryz.func41,Tryz.ntmps41;go_wp2;go_ret;exact⟨rfl,(Below.refl _ _).alloc (Nat.le_refl _) _⟩
theorem get_81 (c:Cmd)(nm:ByteArray)(A:Option Addr)(len cap:Nat)(w:World):GetAt [81] c nm A len cap w:=by
 unfold GetAt cmdV;obtain⟨kd,x,y,n,m,wd,cs,p,dx,dy⟩:=c;have hb:Blk (w.alloc (.cells #[.int .i64 kd,.int .i64 x,.int .i64 y,.int .i64 n,.int .i64 m,.string nm,.slice A len cap,.int .i64 p,.int .i64 dx,.int .i64 dy] 34)) w.heap.size 34 #[.int .i64 kd,.int .i64 x,.int .i64 y,.int .i64 n,.int .i64 m,.string nm,.slice A len cap,.int .i64 p,.int .i64 dx,.int .i64 dy]:=Blk.new w _ _;have c1:=hb.cell 1;have c2:=hb.cell 2;have c3:=hb.cell 3;have c4:=hb.cell 4;have c7:=hb.cell 7;have c8:=hb.cell 8;have c9:=hb.cell 9;clear hb;go_enter Tryz.func41,Tryz.ntmps41;go_wp2;go_ret;exact⟨rfl,(Below.refl _ _).alloc (Nat.le_refl _) _⟩
theorem get_68 (c:Cmd)(nm:ByteArray)(A:Option Addr)(len cap:Nat)(w:World):GetAt [68] c nm A len cap w:=by
 unfold GetAt cmdV;obtain⟨kd,x,y,n,m,wd,cs,p,dx,dy⟩:=c;have hb:Blk (w.alloc (.cells #[.int .i64 kd,.int .i64 x,.int .i64 y,.int .i64 n,.int .i64 m,.string nm,.slice A len cap,.int .i64 p,.int .i64 dx,.int .i64 dy] 34)) w.heap.size 34 #[.int .i64 kd,.int .i64 x,.int .i64 y,.int .i64 n,.int .i64 m,.string nm,.slice A len cap,.int .i64 p,.int .i64 dx,.int .i64 dy]:=Blk.new w _ _;have c1:=hb.cell 1;have c2:=hb.cell 2;have c3:=hb.cell 3;have c4:=hb.cell 4;have c7:=hb.cell 7;have c8:=hb.cell 8;have c9:=hb.cell 9;clear hb;go_enter Tryz.func41,Tryz.ntmps41;go_wp2;go_ret;exact⟨rfl,(Below.refl _ _).alloc (Nat.le_refl _) _⟩
theorem get_69 (c:Cmd)(nm:ByteArray)(A:Option Addr)(len cap:Nat)(w:World):GetAt [69] c nm A len cap w:=by
 unfold GetAt cmdV;obtain⟨kd,x,y,n,m,wd,cs,p,dx,dy⟩:=c;have hb:Blk (w.alloc (.cells #[.int .i64 kd,.int .i64 x,.int .i64 y,.int .i64 n,.int .i64 m,.string nm,.slice A len cap,.int .i64 p,.int .i64 dx,.int .i64 dy] 34)) w.heap.size 34 #[.int .i64 kd,.int .i64 x,.int .i64 y,.int .i64 n,.int .i64 m,.string nm,.slice A len cap,.int .i64 p,.int .i64 dx,.int .i64 dy]:=Blk.new w _ _;have c1:=hb.cell 1;have c2:=hb.cell 2;have c3:=hb.cell 3;have c4:=hb.cell 4;have c7:=hb.cell 7;have c8:=hb.cell 8;have c9:=hb.cell 9;clear hb;go_enter Tryz.func41,Tryz.ntmps41;go_wp2;go_ret;exact⟨rfl,(Below.refl _ _).alloc (Nat.le_refl _) _⟩
theorem get_any {f:List UInt8}(h:f ∈ numWords)(c:Cmd)(nm:ByteArray)(A:Option Addr)(len cap:Nat)(w:World):GetAt f c nm A len cap w:=by
 unfold numWords at h;simp only[List.mem_cons,List.not_mem_nil,or_false] at h;rcases h with rfl | rfl | rfl | rfl | rfl | rfl | rfl | rfl | rfl
 ·exact get_88 c nm A len cap w
 ·exact get_89 c nm A len cap w
 ·exact get_77 c nm A len cap w
 ·exact get_75 c nm A len cap w
 ·exact get_80 c nm A len cap w
 ·exact get_71 c nm A len cap w
 ·exact get_81 c nm A len cap w
 ·exact get_68 c nm A len cap w
 ·exact get_69 c nm A len cap w
theorem Tryz.sizeCommand:(Tryz.prog.info? 34).map (·.size)=some 10:=by kernel_rfl
def SetAt (f:List UInt8)(c:Cmd)(nm:ByteArray)(A:Option Addr)(len cap:Nat)(v:Int)(w:World):Prop:=Calls Tryz.prog 49 #[cmdV c nm (.slice A len cap),.string ⟨f.toArray⟩,.int .i64 v] w fun e w'=>e=.returned (cmdV (c.set (slotR f).fld v) nm (.slice A len cap))∧Below w.heap.size w w'
theorem set_88 (c:Cmd)(nm:ByteArray)(A:Option Addr)(len cap:Nat)(v:Int)(w:World):SetAt [88] c nm A len cap v w:=by
 unfold SetAt cmdV;obtain⟨kd,x,y,n,m,wd,cs,p,dx,dy⟩:=c;have hb:Blk (w.alloc (.cells #[.int .i64 kd,.int .i64 x,.int .i64 y,.int .i64 n,.int .i64 m,.string nm,.slice A len cap,.int .i64 p,.int .i64 dx,.int .i64 dy] 34)) w.heap.size 34 #[.int .i64 kd,.int .i64 x,.int .i64 y,.int .i64 n,.int .i64 m,.string nm,.slice A len cap,.int .i64 p,.int .i64 dx,.int .i64 dy]:=Blk.new w _ _;have c1:=hb.cell 1;have c2:=hb.cell 2;have c3:=hb.cell 3;have c4:=hb.cell 4;have c7:=hb.cell 7;have c8:=hb.cell 8;have c9:=hb.cell 9;clear hb;go_enter Tryz.func49,Tryz.ntmps49;go_wp2;refine bodyPost_ret (results_cell_row Tryz.results49 _ _ (w.heap.size+1) 34 #[.int .i64 kd,.int .i64 v,.int .i64 y,.int .i64 n,.int .i64 m,.string nm,.slice A len cap,.int .i64 p,.int .i64 dx,.int .i64 dy] (0,0) _ rfl ?_ Tryz.underlying34 rfl Tryz.sizeCommand) rfl ?_
 ·have h:=Blk.new (w.alloc (.cells #[.int .i64 kd,.int .i64 v,.int .i64 y,.int .i64 n,.int .i64 m,.string nm,.slice A len cap,.int .i64 p,.int .i64 dx,.int .i64 dy] 34)) 34 #[.int .i64 kd,.int .i64 v,.int .i64 y,.int .i64 n,.int .i64 m,.string nm,.slice A len cap,.int .i64 p,.int .i64 dx,.int .i64 dy];rw[World.size_alloc] at h;exact h
 ·exact⟨rfl,((Below.refl _ w).alloc (Nat.le_refl _) _).alloc (by simp) _⟩
theorem set_89 (c:Cmd)(nm:ByteArray)(A:Option Addr)(len cap:Nat)(v:Int)(w:World):SetAt [89] c nm A len cap v w:=by
 unfold SetAt cmdV;obtain⟨kd,x,y,n,m,wd,cs,p,dx,dy⟩:=c;have hb:Blk (w.alloc (.cells #[.int .i64 kd,.int .i64 x,.int .i64 y,.int .i64 n,.int .i64 m,.string nm,.slice A len cap,.int .i64 p,.int .i64 dx,.int .i64 dy] 34)) w.heap.size 34 #[.int .i64 kd,.int .i64 x,.int .i64 y,.int .i64 n,.int .i64 m,.string nm,.slice A len cap,.int .i64 p,.int .i64 dx,.int .i64 dy]:=Blk.new w _ _;have c1:=hb.cell 1;have c2:=hb.cell 2;have c3:=hb.cell 3;have c4:=hb.cell 4;have c7:=hb.cell 7;have c8:=hb.cell 8;have c9:=hb.cell 9;clear hb;go_enter Tryz.func49,Tryz.ntmps49;go_wp2;refine bodyPost_ret (results_cell_row Tryz.results49 _ _ (w.heap.size+1) 34 #[.int .i64 kd,.int .i64 x,.int .i64 v,.int .i64 n,.int .i64 m,.string nm,.slice A len cap,.int .i64 p,.int .i64 dx,.int .i64 dy] (0,0) _ rfl ?_ Tryz.underlying34 rfl Tryz.sizeCommand) rfl ?_
 ·have h:=Blk.new (w.alloc (.cells #[.int .i64 kd,.int .i64 x,.int .i64 v,.int .i64 n,.int .i64 m,.string nm,.slice A len cap,.int .i64 p,.int .i64 dx,.int .i64 dy] 34)) 34 #[.int .i64 kd,.int .i64 x,.int .i64 v,.int .i64 n,.int .i64 m,.string nm,.slice A len cap,.int .i64 p,.int .i64 dx,.int .i64 dy];rw[World.size_alloc] at h;exact h
 ·exact⟨rfl,((Below.refl _ w).alloc (Nat.le_refl _) _).alloc (by simp) _⟩
theorem set_77 (c:Cmd)(nm:ByteArray)(A:Option Addr)(len cap:Nat)(v:Int)(w:World):SetAt [77] c nm A len cap v w:=by
 unfold SetAt cmdV;obtain⟨kd,x,y,n,m,wd,cs,p,dx,dy⟩:=c;have hb:Blk (w.alloc (.cells #[.int .i64 kd,.int .i64 x,.int .i64 y,.int .i64 n,.int .i64 m,.string nm,.slice A len cap,.int .i64 p,.int .i64 dx,.int .i64 dy] 34)) w.heap.size 34 #[.int .i64 kd,.int .i64 x,.int .i64 y,.int .i64 n,.int .i64 m,.string nm,.slice A len cap,.int .i64 p,.int .i64 dx,.int .i64 dy]:=Blk.new w _ _;have c1:=hb.cell 1;have c2:=hb.cell 2;have c3:=hb.cell 3;have c4:=hb.cell 4;have c7:=hb.cell 7;have c8:=hb.cell 8;have c9:=hb.cell 9;clear hb;go_enter Tryz.func49,Tryz.ntmps49;go_wp2;refine bodyPost_ret (results_cell_row Tryz.results49 _ _ (w.heap.size+1) 34 #[.int .i64 kd,.int .i64 x,.int .i64 y,.int .i64 n,.int .i64 v,.string nm,.slice A len cap,.int .i64 p,.int .i64 dx,.int .i64 dy] (0,0) _ rfl ?_ Tryz.underlying34 rfl Tryz.sizeCommand) rfl ?_
 ·have h:=Blk.new (w.alloc (.cells #[.int .i64 kd,.int .i64 x,.int .i64 y,.int .i64 n,.int .i64 v,.string nm,.slice A len cap,.int .i64 p,.int .i64 dx,.int .i64 dy] 34)) 34 #[.int .i64 kd,.int .i64 x,.int .i64 y,.int .i64 n,.int .i64 v,.string nm,.slice A len cap,.int .i64 p,.int .i64 dx,.int .i64 dy];rw[World.size_alloc] at h;exact h
 ·exact⟨rfl,((Below.refl _ w).alloc (Nat.le_refl _) _).alloc (by simp) _⟩
theorem set_75 (c:Cmd)(nm:ByteArray)(A:Option Addr)(len cap:Nat)(v:Int)(w:World):SetAt [75] c nm A len cap v w:=by
 unfold SetAt cmdV;obtain⟨kd,x,y,n,m,wd,cs,p,dx,dy⟩:=c;have hb:Blk (w.alloc (.cells #[.int .i64 kd,.int .i64 x,.int .i64 y,.int .i64 n,.int .i64 m,.string nm,.slice A len cap,.int .i64 p,.int .i64 dx,.int .i64 dy] 34)) w.heap.size 34 #[.int .i64 kd,.int .i64 x,.int .i64 y,.int .i64 n,.int .i64 m,.string nm,.slice A len cap,.int .i64 p,.int .i64 dx,.int .i64 dy]:=Blk.new w _ _;have c1:=hb.cell 1;have c2:=hb.cell 2;have c3:=hb.cell 3;have c4:=hb.cell 4;have c7:=hb.cell 7;have c8:=hb.cell 8;have c9:=hb.cell 9;clear hb;go_enter Tryz.func49,Tryz.ntmps49;go_wp2;refine bodyPost_ret (results_cell_row Tryz.results49 _ _ (w.heap.size+1) 34 #[.int .i64 kd,.int .i64 x,.int .i64 y,.int .i64 v,.int .i64 m,.string nm,.slice A len cap,.int .i64 p,.int .i64 dx,.int .i64 dy] (0,0) _ rfl ?_ Tryz.underlying34 rfl Tryz.sizeCommand) rfl ?_
 ·have h:=Blk.new (w.alloc (.cells #[.int .i64 kd,.int .i64 x,.int .i64 y,.int .i64 v,.int .i64 m,.string nm,.slice A len cap,.int .i64 p,.int .i64 dx,.int .i64 dy] 34)) 34 #[.int .i64 kd,.int .i64 x,.int .i64 y,.int .i64 v,.int .i64 m,.string nm,.slice A len cap,.int .i64 p,.int .i64 dx,.int .i64 dy];rw[World.size_alloc] at h;exact h
 ·exact⟨rfl,((Below.refl _ w).alloc (Nat.le_refl _) _).alloc (by simp) _⟩
theorem set_80 (c:Cmd)(nm:ByteArray)(A:Option Addr)(len cap:Nat)(v:Int)(w:World):SetAt [80] c nm A len cap v w:=by
 unfold SetAt cmdV;obtain⟨kd,x,y,n,m,wd,cs,p,dx,dy⟩:=c;have hb:Blk (w.alloc (.cells #[.int .i64 kd,.int .i64 x,.int .i64 y,.int .i64 n,.int .i64 m,.string nm,.slice A len cap,.int .i64 p,.int .i64 dx,.int .i64 dy] 34)) w.heap.size 34 #[.int .i64 kd,.int .i64 x,.int .i64 y,.int .i64 n,.int .i64 m,.string nm,.slice A len cap,.int .i64 p,.int .i64 dx,.int .i64 dy]:=Blk.new w _ _;have c1:=hb.cell 1;have c2:=hb.cell 2;have c3:=hb.cell 3;have c4:=hb.cell 4;have c7:=hb.cell 7;have c8:=hb.cell 8;have c9:=hb.cell 9;clear hb;go_enter Tryz.func49,Tryz.ntmps49;go_wp2;refine bodyPost_ret (results_cell_row Tryz.results49 _ _ (w.heap.size+1) 34 #[.int .i64 kd,.int .i64 x,.int .i64 y,.int .i64 v,.int .i64 m,.string nm,.slice A len cap,.int .i64 p,.int .i64 dx,.int .i64 dy] (0,0) _ rfl ?_ Tryz.underlying34 rfl Tryz.sizeCommand) rfl ?_
 ·have h:=Blk.new (w.alloc (.cells #[.int .i64 kd,.int .i64 x,.int .i64 y,.int .i64 v,.int .i64 m,.string nm,.slice A len cap,.int .i64 p,.int .i64 dx,.int .i64 dy] 34)) 34 #[.int .i64 kd,.int .i64 x,.int .i64 y,.int .i64 v,.int .i64 m,.string nm,.slice A len cap,.int .i64 p,.int .i64 dx,.int .i64 dy];rw[World.size_alloc] at h;exact h
 ·exact⟨rfl,((Below.refl _ w).alloc (Nat.le_refl _) _).alloc (by simp) _⟩
theorem set_71 (c:Cmd)(nm:ByteArray)(A:Option Addr)(len cap:Nat)(v:Int)(w:World):SetAt [71] c nm A len cap v w:=by
 unfold SetAt cmdV;obtain⟨kd,x,y,n,m,wd,cs,p,dx,dy⟩:=c;have hb:Blk (w.alloc (.cells #[.int .i64 kd,.int .i64 x,.int .i64 y,.int .i64 n,.int .i64 m,.string nm,.slice A len cap,.int .i64 p,.int .i64 dx,.int .i64 dy] 34)) w.heap.size 34 #[.int .i64 kd,.int .i64 x,.int .i64 y,.int .i64 n,.int .i64 m,.string nm,.slice A len cap,.int .i64 p,.int .i64 dx,.int .i64 dy]:=Blk.new w _ _;have c1:=hb.cell 1;have c2:=hb.cell 2;have c3:=hb.cell 3;have c4:=hb.cell 4;have c7:=hb.cell 7;have c8:=hb.cell 8;have c9:=hb.cell 9;clear hb;go_enter Tryz.func49,Tryz.ntmps49;go_wp2;refine bodyPost_ret (results_cell_row Tryz.results49 _ _ (w.heap.size+1) 34 #[.int .i64 kd,.int .i64 x,.int .i64 y,.int .i64 v,.int .i64 m,.string nm,.slice A len cap,.int .i64 p,.int .i64 dx,.int .i64 dy] (0,0) _ rfl ?_ Tryz.underlying34 rfl Tryz.sizeCommand) rfl ?_
 ·have h:=Blk.new (w.alloc (.cells #[.int .i64 kd,.int .i64 x,.int .i64 y,.int .i64 v,.int .i64 m,.string nm,.slice A len cap,.int .i64 p,.int .i64 dx,.int .i64 dy] 34)) 34 #[.int .i64 kd,.int .i64 x,.int .i64 y,.int .i64 v,.int .i64 m,.string nm,.slice A len cap,.int .i64 p,.int .i64 dx,.int .i64 dy];rw[World.size_alloc] at h;exact h
 ·exact⟨rfl,((Below.refl _ w).alloc (Nat.le_refl _) _).alloc (by simp) _⟩
theorem set_81 (c:Cmd)(nm:ByteArray)(A:Option Addr)(len cap:Nat)(v:Int)(w:World):SetAt [81] c nm A len cap v w:=by
 unfold SetAt cmdV;obtain⟨kd,x,y,n,m,wd,cs,p,dx,dy⟩:=c;have hb:Blk (w.alloc (.cells #[.int .i64 kd,.int .i64 x,.int .i64 y,.int .i64 n,.int .i64 m,.string nm,.slice A len cap,.int .i64 p,.int .i64 dx,.int .i64 dy] 34)) w.heap.size 34 #[.int .i64 kd,.int .i64 x,.int .i64 y,.int .i64 n,.int .i64 m,.string nm,.slice A len cap,.int .i64 p,.int .i64 dx,.int .i64 dy]:=Blk.new w _ _;have c1:=hb.cell 1;have c2:=hb.cell 2;have c3:=hb.cell 3;have c4:=hb.cell 4;have c7:=hb.cell 7;have c8:=hb.cell 8;have c9:=hb.cell 9;clear hb;go_enter Tryz.func49,Tryz.ntmps49;go_wp2;refine bodyPost_ret (results_cell_row Tryz.results49 _ _ (w.heap.size+1) 34 #[.int .i64 kd,.int .i64 x,.int .i64 y,.int .i64 n,.int .i64 m,.string nm,.slice A len cap,.int .i64 v,.int .i64 dx,.int .i64 dy] (0,0) _ rfl ?_ Tryz.underlying34 rfl Tryz.sizeCommand) rfl ?_
 ·have h:=Blk.new (w.alloc (.cells #[.int .i64 kd,.int .i64 x,.int .i64 y,.int .i64 n,.int .i64 m,.string nm,.slice A len cap,.int .i64 v,.int .i64 dx,.int .i64 dy] 34)) 34 #[.int .i64 kd,.int .i64 x,.int .i64 y,.int .i64 n,.int .i64 m,.string nm,.slice A len cap,.int .i64 v,.int .i64 dx,.int .i64 dy];rw[World.size_alloc] at h;exact h
 ·exact⟨rfl,((Below.refl _ w).alloc (Nat.le_refl _) _).alloc (by simp) _⟩
theorem set_68 (c:Cmd)(nm:ByteArray)(A:Option Addr)(len cap:Nat)(v:Int)(w:World):SetAt [68] c nm A len cap v w:=by
 unfold SetAt cmdV;obtain⟨kd,x,y,n,m,wd,cs,p,dx,dy⟩:=c;have hb:Blk (w.alloc (.cells #[.int .i64 kd,.int .i64 x,.int .i64 y,.int .i64 n,.int .i64 m,.string nm,.slice A len cap,.int .i64 p,.int .i64 dx,.int .i64 dy] 34)) w.heap.size 34 #[.int .i64 kd,.int .i64 x,.int .i64 y,.int .i64 n,.int .i64 m,.string nm,.slice A len cap,.int .i64 p,.int .i64 dx,.int .i64 dy]:=Blk.new w _ _;have c1:=hb.cell 1;have c2:=hb.cell 2;have c3:=hb.cell 3;have c4:=hb.cell 4;have c7:=hb.cell 7;have c8:=hb.cell 8;have c9:=hb.cell 9;clear hb;go_enter Tryz.func49,Tryz.ntmps49;go_wp2;refine bodyPost_ret (results_cell_row Tryz.results49 _ _ (w.heap.size+1) 34 #[.int .i64 kd,.int .i64 x,.int .i64 y,.int .i64 n,.int .i64 m,.string nm,.slice A len cap,.int .i64 p,.int .i64 v,.int .i64 dy] (0,0) _ rfl ?_ Tryz.underlying34 rfl Tryz.sizeCommand) rfl ?_
 ·have h:=Blk.new (w.alloc (.cells #[.int .i64 kd,.int .i64 x,.int .i64 y,.int .i64 n,.int .i64 m,.string nm,.slice A len cap,.int .i64 p,.int .i64 v,.int .i64 dy] 34)) 34 #[.int .i64 kd,.int .i64 x,.int .i64 y,.int .i64 n,.int .i64 m,.string nm,.slice A len cap,.int .i64 p,.int .i64 v,.int .i64 dy];rw[World.size_alloc] at h;exact h
 ·exact⟨rfl,((Below.refl _ w).alloc (Nat.le_refl _) _).alloc (by simp) _⟩
theorem set_69 (c:Cmd)(nm:ByteArray)(A:Option Addr)(len cap:Nat)(v:Int)(w:World):SetAt [69] c nm A len cap v w:=by
 unfold SetAt cmdV;obtain⟨kd,x,y,n,m,wd,cs,p,dx,dy⟩:=c;have hb:Blk (w.alloc (.cells #[.int .i64 kd,.int .i64 x,.int .i64 y,.int .i64 n,.int .i64 m,.string nm,.slice A len cap,.int .i64 p,.int .i64 dx,.int .i64 dy] 34)) w.heap.size 34 #[.int .i64 kd,.int .i64 x,.int .i64 y,.int .i64 n,.int .i64 m,.string nm,.slice A len cap,.int .i64 p,.int .i64 dx,.int .i64 dy]:=Blk.new w _ _;have c1:=hb.cell 1;have c2:=hb.cell 2;have c3:=hb.cell 3;have c4:=hb.cell 4;have c7:=hb.cell 7;have c8:=hb.cell 8;have c9:=hb.cell 9;clear hb;go_enter Tryz.func49,Tryz.ntmps49;go_wp2;refine bodyPost_ret (results_cell_row Tryz.results49 _ _ (w.heap.size+1) 34 #[.int .i64 kd,.int .i64 x,.int .i64 y,.int .i64 n,.int .i64 m,.string nm,.slice A len cap,.int .i64 p,.int .i64 dx,.int .i64 v] (0,0) _ rfl ?_ Tryz.underlying34 rfl Tryz.sizeCommand) rfl ?_
 ·have h:=Blk.new (w.alloc (.cells #[.int .i64 kd,.int .i64 x,.int .i64 y,.int .i64 n,.int .i64 m,.string nm,.slice A len cap,.int .i64 p,.int .i64 dx,.int .i64 v] 34)) 34 #[.int .i64 kd,.int .i64 x,.int .i64 y,.int .i64 n,.int .i64 m,.string nm,.slice A len cap,.int .i64 p,.int .i64 dx,.int .i64 v];rw[World.size_alloc] at h;exact h
 ·exact⟨rfl,((Below.refl _ w).alloc (Nat.le_refl _) _).alloc (by simp) _⟩
theorem set_any {f:List UInt8}(h:f ∈ numWords)(c:Cmd)(nm:ByteArray)(A:Option Addr)(len cap:Nat)(v:Int)(w:World):SetAt f c nm A len cap v w:=by
 unfold numWords at h;simp only[List.mem_cons,List.not_mem_nil,or_false] at h;rcases h with rfl | rfl | rfl | rfl | rfl | rfl | rfl | rfl | rfl
 ·exact set_88 c nm A len cap v w
 ·exact set_89 c nm A len cap v w
 ·exact set_77 c nm A len cap v w
 ·exact set_75 c nm A len cap v w
 ·exact set_80 c nm A len cap v w
 ·exact set_71 c nm A len cap v w
 ·exact set_81 c nm A len cap v w
 ·exact set_68 c nm A len cap v w
 ·exact set_69 c nm A len cap v w
end Go.Proofs.YtcfelnhmifkelaaGreatDoor
namespace Go.Proofs.YtcfelnhmifkelaaGreatDoor
set_option linter.unusedSimpArgs false
set_option linter.unusedVariables false
def kinds12:List Int:=[1,2,3,4,5,6,7,8,9,10,11,12]
def formOf (ws:List (List UInt8)):Option Form:=formsP.find? fun f=>fitsP f ws
end Go.Proofs.YtcfelnhmifkelaaGreatDoor
namespace Go.Proofs.YtcfelnhmifkelaaGreatDoor
open Go.RowKit
set_option maxRecDepth 100000
set_option linter.unusedVariables false
set_option linter.unusedSimpArgs false
def mvC (x y:Int)(c:Cel):Cel:=⟨c.x - x,c.y - y,c.s⟩
def homeC (ps:List Cel):List Cel:=if (boxC ps).2=true then ps.map (mvC (boxC ps).1.x (boxC ps).1.y) else ps
def homedB (ps:List Cel):Bool:=rightC ps && !((boxC ps).2 && (decide ((boxC ps).1.x≠0) || decide ((boxC ps).1.y≠0)))
theorem box_two (ps:List Cel):(boxC ps).2=(decide (ps≠[]) && rightC ps):=by
 unfold boxC;by_cases h:ps≠[]∧rightC ps=true
 ·rw[if_pos h,decide_eq_true h.1,h.2];rfl
 ·rw[if_neg h];by_cases h1:ps≠[]
  ·have:rightC ps=false:=by
    cases e:rightC ps with
    | false=>rfl
    | true=>exact absurd ⟨h1,e⟩ h
   rw[this,Bool.and_false]
  ·rw[decide_eq_false h1];rfl
theorem mvC_zero (c:Cel):mvC 0 0 c=c:=by unfold mvC;simp
theorem map_id_iff {ps:List Cel}(x y:Int)(h:ps≠[]):ps.map (mvC x y)=ps ↔ x=0∧y=0:=by
 constructor
 ·intro e;cases ps with
  | nil=>exact absurd rfl h
  | cons a l=>
   rw[List.map_cons] at e;injection e with e1 e2
   have ex:a.x - x=a.x:=congrArg Cel.x e1;have ey:a.y - y=a.y:=congrArg Cel.y e1;exact⟨by omega,by omega⟩
 ·rintro⟨rfl,rfl⟩;rw[show (mvC 0 0)=id from funext mvC_zero,List.map_id]
theorem homed_eq (ps:List Cel):homedB ps=(rightC ps && sameC (homeC ps) ps):=by
 unfold homedB homeC sameC;cases hr:rightC ps with
 | false=>rfl
 | true=>
  rw[Bool.true_and,Bool.true_and];cases hb:(boxC ps).2 with
  | false=>rw[if_neg Bool.false_ne_true,decide_eq_true rfl];rfl
  | true=>
   rw[if_pos rfl];have hne:ps≠[]:=by
    have:=box_two ps;rw[hb,hr,Bool.and_true] at this;exact of_decide_eq_true this.symm
   rw[Bool.true_and];by_cases h:(boxC ps).1.x=0∧(boxC ps).1.y=0
   ·rw[decide_eq_true ((map_id_iff _ _ hne).2 h),h.1,h.2];rfl
   ·rw[decide_eq_false (fun e=>h ((map_id_iff _ _ hne).1 e))];by_cases hx:(boxC ps).1.x=0
    ·have hy:(boxC ps).1.y≠0:=fun hy=>h ⟨hx,hy⟩;rw[decide_eq_true hy,Bool.or_true];rfl
    ·rw[decide_eq_true hx];rfl
theorem box_xy {ps:List Cel}(h:(boxC ps).2=true):(boxC ps).1.x=lo (·.x) ps ps.length∧(boxC ps).1.y=lo (·.y) ps ps.length:=by
 have h2:=box_two ps;rw[h] at h2;have h3:ps≠[]∧rightC ps=true:=by
  have:=h2.symm;rw[Bool.and_eq_true,decide_eq_true_eq] at this;exact this
 rw[← box_eq];unfold boxR;rw[if_pos h3];exact⟨rfl,rfl⟩
end Go.Proofs.YtcfelnhmifkelaaGreatDoor
